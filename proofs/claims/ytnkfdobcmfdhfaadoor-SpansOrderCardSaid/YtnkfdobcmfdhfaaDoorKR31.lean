import Derived.Test.YtnkfdobcmfdhfaaDoorKR27
import Derived.Test.YtnkfdobcmfdhfaaDoorKR29
namespace Go.Proofs.YtnkfdobcmfdhfaaDoor.P
open Go.RowKit Go.Proofs.YtnkfdobcmfdhfaaDoorW.PrintWords Go.Proofs.YtnkfdobcmfdhfaaDoorW.PrintLast Go.Proofs.YtnkfdobcmfdhfaaDoorW.PrintMore
attribute [local go_sem] max2_int min2_int max_two min_two max_three min_three max_four min_four   -- for this text's walks alone
set_option linter.unusedVariables false
set_option linter.unusedSimpArgs false
attribute [local go_sem high] eqA24
abbrev q4_0 : Array Bool := #[Y,Y,Y,Y,Y,Y,Y,Y,Y,Z,Z,Z]
abbrev q4_1 : Array Bool := #[Y,Y,Y,Y,Y,Y,Y,Y,Z,Z,Z,Z]
abbrev q4_2 : Array Bool := #[Y,Y,Y,Y,Y,Y,Y,Z,Y,Z,Z,Z]
abbrev q4_3 : Array Bool := #[Y,Y,Y,Y,Y,Y,Z,Y,Y,Z,Z,Z]
abbrev q4_4 : Array Bool := #[Y,Y,Y,Y,Y,Y,Y,Z,Z,Z,Z,Z]
abbrev q4_5 : Array Bool := #[Y,Y,Y,Y,Y,Y,Z,Y,Z,Z,Z,Z]
abbrev q4_6 : Array Bool := #[Y,Y,Y,Y,Y,Y,Z,Z,Y,Z,Z,Z]
mutual
def mummerlaw03_SpansOrder.j0 : Nat → Bool → Int → Int → Int → Int → Int → Int → Option (Bool)
 | 0, _, _, _, _, _, _, _ => none
 | k + 1, x40, x305000, x305001, x306000, x306001, x307000, x307001 => if x40 = true then ((mummerlaw03_awake.f k).bind fun t310 => (some t310)) else ((spans_Before.f k x305000 x305001 x306000 x306001).bind fun bt311 => ((spans_Before.f k x306000 x306001 x305000 x305001).bind fun bt313 => ((spans_Before.f k x306000 x306001 x307000 x307001).bind fun bt315 => ((spans_Before.f k x305000 x305001 x307000 x307001).bind fun bt317 => ((spans_Before.f k x305000 x305001 x305000 x305001).bind fun bt319 => (if bt311.2 = 0 then (if bt313.2 = 0 then (if bt315.2 = 0 then (if bt317.2 = 0 then (if bt319.2 = 0 then (if bt319.1 = true then (some false) else (if bt311.1 = true then (if bt313.1 = true then (some false) else (if x305000 < x305001 then (if x306000 < x306001 then (if x307000 < x307001 then (if bt315.1 = true then (mummerlaw03_SpansOrder.j1 k bt311.1 bt313.1 (!bt317.1) x305000 x305001 x306000 x306001) else (mummerlaw03_SpansOrder.j1 k bt311.1 bt313.1 false x305000 x305001 x306000 x306001)) else (mummerlaw03_SpansOrder.j1 k bt311.1 bt313.1 false x305000 x305001 x306000 x306001)) else (mummerlaw03_SpansOrder.j1 k bt311.1 bt313.1 false x305000 x305001 x306000 x306001)) else (mummerlaw03_SpansOrder.j1 k bt311.1 bt313.1 false x305000 x305001 x306000 x306001))) else (if x305000 < x305001 then (if x306000 < x306001 then (if x307000 < x307001 then (mummerlaw03_SpansOrder.j1 k bt311.1 bt313.1 false x305000 x305001 x306000 x306001) else (mummerlaw03_SpansOrder.j1 k bt311.1 bt313.1 false x305000 x305001 x306000 x306001)) else (mummerlaw03_SpansOrder.j1 k bt311.1 bt313.1 false x305000 x305001 x306000 x306001)) else (mummerlaw03_SpansOrder.j1 k bt311.1 bt313.1 false x305000 x305001 x306000 x306001)))) else (some false)) else (some false)) else (some false)) else (some false)) else (some false)))))))
def mummerlaw03_SpansOrder.j1 : Nat → Bool → Bool → Bool → Int → Int → Int → Int → Option (Bool)
 | 0, _, _, _, _, _, _, _ => none
 | k + 1, x6, x8, x129, x305000, x305001, x306000, x306001 => if x129 = true then (some false) else ((spans_Within.f k x305000 x305001 x306000 x306001).bind fun bt321 => ((spans_Within.f k x306000 x306001 x305000 x305001).bind fun bt323 => ((spans_Meet.f k x305000 x305001 x306000 x306001).bind fun bt325 => (if bt321.2 = 0 then (if bt323.2 = 0 then (if bt325.2.2.2 = 0 then (if bt321.1 = true then (mummerlaw03_SpansOrder.j2 k x6 x8 bt321.1 bt323.1 bt325.2.2.1 (bt323.1 != (x305000 == x306000 && (x305001 == x306001))) x305000 x305001 x306000 x306001 bt325.1 bt325.2.1) else (mummerlaw03_SpansOrder.j2 k x6 x8 bt321.1 bt323.1 bt325.2.2.1 false x305000 x305001 x306000 x306001 bt325.1 bt325.2.1)) else (some false)) else (some false)) else (some false)))))
def mummerlaw03_SpansOrder.j2 : Nat → Bool → Bool → Bool → Bool → Bool → Bool → Int → Int → Int → Int → Int → Int → Option (Bool)
 | 0, _, _, _, _, _, _, _, _, _, _, _, _ => none
 | k + 1, x6, x8, x16, x17, x19, x168, x305000, x305001, x306000, x306001, x330000, x330001 => if x168 = true then (some false) else (if x19 = true then (mummerlaw03_SpansOrder.j3 k x6 x8 x16 x17 (decide (x330000 < x330001)) x305000 x305001 x306000 x306001 x330000 x330001) else (mummerlaw03_SpansOrder.j3 k x6 x8 x16 x17 false x305000 x305001 x306000 x306001 x330000 x330001))
def mummerlaw03_SpansOrder.j3 : Nat → Bool → Bool → Bool → Bool → Bool → Int → Int → Int → Int → Int → Int → Option (Bool)
 | 0, _, _, _, _, _, _, _, _, _, _, _ => none
 | k + 1, x6, x8, x16, x17, x20, x305000, x305001, x306000, x306001, x330000, x330001 => if x20 = true then (if (!(x330000 == x305000) || (!(x330001 == x305001))) = true then (mummerlaw03_SpansOrder.j4 k x6 x8 x16 x17 (!(x330000 == x306000) || (!(x330001 == x306001)))) else (mummerlaw03_SpansOrder.j4 k x6 x8 x16 x17 false)) else (mummerlaw03_SpansOrder.j4 k x6 x8 x16 x17 false)
def mummerlaw03_SpansOrder.j4 : Nat → Bool → Bool → Bool → Bool → Bool → Option (Bool)
 | 0, _, _, _, _, _ => none
 | k + 1, x6, x8, x16, x17, x21 => if x6 = true then (if (x21 == false) = true then ((mummerlaw03_awake.f k).bind fun t330 => (some t330)) else (some false)) else (if x8 = true then (if (x21 == false) = true then ((mummerlaw03_awake.f k).bind fun t331 => (some t331)) else (some false)) else (if x16 = true then (if (x21 == false) = true then ((mummerlaw03_awake.f k).bind fun t332 => (some t332)) else (some false)) else (if (x21 == (!x17)) = true then ((mummerlaw03_awake.f k).bind fun t333 => (some t333)) else (some false))))
end
def mummerlaw03_SpansOrder.f (k : Nat) (a0_0 : Int) (a0_1 : Int) (a0_2 : Int) (a0_3 : Int) (a0_4 : Int) (a0_5 : Int) : Option (Bool) := (mummerlaw03_valid.f a0_0 a0_1).bind fun t307 => (if t307 = true then ((mummerlaw03_valid.f a0_2 a0_3).bind fun t308 => (if t308 = true then ((mummerlaw03_valid.f a0_4 a0_5).bind fun t309 => (mummerlaw03_SpansOrder.j0 k (!t309) a0_0 a0_1 a0_2 a0_3 a0_4 a0_5)) else (mummerlaw03_SpansOrder.j0 k true a0_0 a0_1 a0_2 a0_3 a0_4 a0_5))) else (mummerlaw03_SpansOrder.j0 k true a0_0 a0_1 a0_2 a0_3 a0_4 a0_5))
def mummerlaw03_SpansOrder.T1 : Bool × List (List Nat × List Nat) := (true, [([], []), ([0], [0]), ([], []), ([2], [2]), ([], []), ([4], [4]), ([], []), ([], []), ([], []), ([6, 1, 0, 1, 6, 7, 8], [1, 6]), ([7, 3, 9, 0, 1, 2, 3, 6, 7, 8, 9], [3, 7]), ([8, 5, 10, 0, 1, 2, 3, 4, 5, 6, 7, 8, 9, 10], [5, 8])])
def mummerlaw03_SpansOrder.B1 : List Nat := [0, 1, 0, 4, 0, 16, 0, 0, 0, 451, 975, 2047]
theorem mummerlaw03_SpansOrder.tab1 : rtab .any (opsOf Tryd.f4 1) = mummerlaw03_SpansOrder.T1 := by kernel_rfl
theorem mummerlaw03_SpansOrder.bits1 : waitsOk mummerlaw03_SpansOrder.T1.2 mummerlaw03_SpansOrder.B1 = true := by kernel_rfl
set_option maxHeartbeats 40000000 in
set_option maxRecDepth 100000 in
theorem mummerlaw03_SpansOrder.calls (k : Nat) (a0_0 : Int) (a0_1 : Int) (a0_2 : Int) (a0_3 : Int) (a0_4 : Int) (a0_5 : Int) (r : Bool) (w : World) (hrt : Aside0 (r = true)) (h : mummerlaw03_SpansOrder.f k a0_0 a0_1 a0_2 a0_3 a0_4 a0_5 = some r) (HT : Aside0 (Sc.Tab w)) :
  Calls Tryd.prog 4 #[.agg #[.int .i64 a0_0, .int .i64 a0_1, .int .i64 a0_2, .int .i64 a0_3, .int .i64 a0_4, .int .i64 a0_5]] w fun e w' => e = .returned (.bool r) ∧ Below w.heap.size w w' := by
 have hu37 := Tryd.underlying37
 have hu24 := Tryd.underlying24
 have HB := ak (Below.refl w.heap.size w)
 have H : ((mummerlaw03_valid.f a0_0 a0_1).bind fun t307 => (if t307 = true then ((mummerlaw03_valid.f a0_2 a0_3).bind fun t308 => (if t308 = true then ((mummerlaw03_valid.f a0_4 a0_5).bind fun t309 => (mummerlaw03_SpansOrder.j0 k (!t309) a0_0 a0_1 a0_2 a0_3 a0_4 a0_5)) else (mummerlaw03_SpansOrder.j0 k true a0_0 a0_1 a0_2 a0_3 a0_4 a0_5))) else (mummerlaw03_SpansOrder.j0 k true a0_0 a0_1 a0_2 a0_3 a0_4 a0_5))) = some r := h
 clear h
 have HC2 := ak H
 clear H
 go_enter Tryd.func4, Tryd.ntmps4
 try go_wp2_with (first | ((with_reducible refine gate_dst (N := 1) rfl ?_); refine box_event ?hg (N := 1) ?hd (cs := #[.int .i64 a0_0, .int .i64 a0_1, .int .i64 a0_2, .int .i64 a0_3, .int .i64 a0_4, .int .i64 a0_5]) (t := 37) ?hr ?_; (case hd => rfl); (case hg => rfl); (case hr => first | (go_simp; done) | (go_simp; rfl)); intro gb303 hg w3 hbox hb; have n0_ := ak (below_step (by repeat (first | (with_reducible first | exact HB.out | apply wA | apply wN | apply wD) | exact HB.out)) hb); have n1_ := ak (hbox); have n2_ := ak ((by rw [hg]; exact (below_size (by repeat (first | (with_reducible first | exact HB.out | apply wA | apply wN | apply wD) | exact HB.out))) : w.heap.size ≤ gb303)); have n3_ := ak ((by rw [hg]; exact (below_size (by repeat (first | (with_reducible first | exact HB.out | apply wA | apply wN | apply wD) | exact HB.out))) : w.heap.size ≤ gb303)); clear HB; have HB := n0_; have BK303 := n1_; have GW303 := n2_; have GE303 := n3_; clear n0_ n1_ n2_ n3_; clear hb hbox hg))
 have n0_ := ak (bD BK303.out)
 have n1_ := ak (wD HB.out)
 clear BK303 HB
 have BK303 := n0_
 have HB := n1_
 clear n0_ n1_
 refine start_ (n := 12) (S := fun w' => w'.cell? ⟨gb303, 0, none⟩ = some (.int .i64 a0_0) ∧ w'.cell? ⟨gb303, 1, none⟩ = some (.int .i64 a0_1) ∧ w'.cell? ⟨gb303, 2, none⟩ = some (.int .i64 a0_2) ∧ w'.cell? ⟨gb303, 3, none⟩ = some (.int .i64 a0_3) ∧ w'.cell? ⟨gb303, 4, none⟩ = some (.int .i64 a0_4) ∧ w'.cell? ⟨gb303, 5, none⟩ = some (.int .i64 a0_5)) (ds := []) #[Z,Z,Z,Z,Z,Z,Z,Z,Z,Z,Z,Z] (by kernel_rfl) rfl rfl ⟨(blk_cell BK303.out 0).trans rfl, (blk_cell BK303.out 1).trans rfl, (blk_cell BK303.out 2).trans rfl, (blk_cell BK303.out 3).trans rfl, (blk_cell BK303.out 4).trans rfl, (blk_cell BK303.out 5).trans rfl⟩ (fun hHeld => ?_); refine with_tabW mummerlaw03_SpansOrder.tab1 mummerlaw03_SpansOrder.bits1 (fun HT_ HW_ => ?_)
 generalize w3.drew = w4 at BK303 HB hHeld ⊢
 refine pure_ (i := 0) (N := some 22) (v := ?_) (a' := ?_) #[Y,Z,Z,Z,Z,Z,Z,Z,Z,Z,Z,Z] rfl rfl (any_of HT_.out (by kernel_rfl)) (fun _ _ _ h => h) (Or.inl ⟨by rfl, ?_⟩) ?_ ?_; rotate_left; ·(intro w'; go_simp; with_reducible rfl)
 rotate_left; ·(simp only [Act.put, sA_, s0_, s1_, i64_w, i32_w]; rfl)
 refine pure_ (i := 2) (N := some 24) (v := ?_) (a' := ?_) #[Y,Z,Y,Z,Z,Z,Z,Z,Z,Z,Z,Z] rfl rfl (any_of HT_.out (by kernel_rfl)) (fun _ _ _ h => h) (Or.inl ⟨by rfl, ?_⟩) ?_ ?_; rotate_left; ·(intro w'; go_simp; with_reducible rfl)
 rotate_left; ·(simp only [Act.put, sA_, s0_, s1_, i64_w, i32_w]; rfl)
 refine pure_ (i := 4) (N := some 26) (v := ?_) (a' := ?_) #[Y,Z,Y,Z,Y,Z,Z,Z,Z,Z,Z,Z] rfl rfl (any_of HT_.out (by kernel_rfl)) (fun _ _ _ h => h) (Or.inl ⟨by rfl, ?_⟩) ?_ ?_; rotate_left; ·(intro w'; go_simp; with_reducible rfl)
 rotate_left; ·(simp only [Act.put, sA_, s0_, s1_, i64_w, i32_w]; rfl)
 refine take_ (i := 1) (N := some 23) (v := ?_) (a' := ?_) #[Y,Y,Y,Z,Y,Z,Z,Z,Z,Z,Z,Z] rfl rfl (take_ofW HT_.out HW_.out (by kernel_rfl)) (fun _ _ _ h => h) (Or.inl ⟨by rfl, ?_⟩) hHeld ?_ ?_; rotate_left; ·(rintro w' ⟨s0, s1, s2, s3, s4, s5⟩; go_simp; with_reducible rfl)
 rotate_left; ·(simp only [Act.put, sA_, s0_, s1_, i64_w, i32_w]; rfl)
 refine take_ (i := 3) (N := some 25) (v := ?_) (a' := ?_) #[Y,Y,Y,Y,Y,Z,Z,Z,Z,Z,Z,Z] rfl rfl (take_ofW HT_.out HW_.out (by kernel_rfl)) (fun _ _ _ h => h) (Or.inl ⟨by rfl, ?_⟩) hHeld ?_ ?_; rotate_left; ·(rintro w' ⟨s0, s1, s2, s3, s4, s5⟩; go_simp; with_reducible rfl)
 rotate_left; ·(simp only [Act.put, sA_, s0_, s1_, i64_w, i32_w]; rfl)
 refine take_ (i := 5) (N := some 27) (v := ?_) (a' := ?_) #[Y,Y,Y,Y,Y,Y,Z,Z,Z,Z,Z,Z] rfl rfl (take_ofW HT_.out HW_.out (by kernel_rfl)) (fun _ _ _ h => h) (Or.inl ⟨by rfl, ?_⟩) hHeld ?_ ?_; rotate_left; ·(rintro w' ⟨s0, s1, s2, s3, s4, s5⟩; go_simp; with_reducible rfl)
 rotate_left; ·(simp only [Act.put, sA_, s0_, s1_, i64_w, i32_w]; rfl)
 refine join_ (σ := Nat × Nat × Nat) 3 q4_0 (fun s_ => [(3, .pointer (some ⟨s_.1, 0, none⟩)), (4, .pointer (some ⟨s_.2.1, 0, none⟩)), (5, .pointer (some ⟨s_.2.2, 0, none⟩))]) (fun s_ w' => (w'.cell? ⟨gb303, 0, none⟩ = some (.int .i64 a0_0) ∧ w'.cell? ⟨gb303, 1, none⟩ = some (.int .i64 a0_1) ∧ w'.cell? ⟨gb303, 2, none⟩ = some (.int .i64 a0_2) ∧ w'.cell? ⟨gb303, 3, none⟩ = some (.int .i64 a0_3) ∧ w'.cell? ⟨gb303, 4, none⟩ = some (.int .i64 a0_4) ∧ w'.cell? ⟨gb303, 5, none⟩ = some (.int .i64 a0_5)) ∧ (w'.heap[gb303]? = some (.cells #[.int .i64 a0_0, .int .i64 a0_1, .int .i64 a0_2, .int .i64 a0_3, .int .i64 a0_4, .int .i64 a0_5] 37 (0, 0))) ∧ (w'.heap[s_.1]? = some (.cells #[.int .i64 0, .int .i64 0] 24 (0, 0))) ∧ (w'.heap[s_.2.1]? = some (.cells #[.int .i64 0, .int .i64 0] 24 (0, 0))) ∧ (w'.heap[s_.2.2]? = some (.cells #[.int .i64 0, .int .i64 0] 24 (0, 0))) ∧ (w.heap.size ≤ s_.1) ∧ (w.heap.size ≤ s_.1) ∧ (gb303 ≠ s_.1) ∧ (s_.1 ≠ gb303) ∧ (s_.2.1 ≠ s_.1) ∧ (s_.1 ≠ s_.2.1) ∧ (s_.2.2 ≠ s_.1) ∧ (s_.1 ≠ s_.2.2) ∧ (w.heap.size ≤ s_.2.1) ∧ (w.heap.size ≤ s_.2.1) ∧ (gb303 ≠ s_.2.1) ∧ (s_.2.1 ≠ gb303) ∧ (s_.2.2 ≠ s_.2.1) ∧ (s_.2.1 ≠ s_.2.2) ∧ (w.heap.size ≤ s_.2.2) ∧ (w.heap.size ≤ s_.2.2) ∧ (gb303 ≠ s_.2.2) ∧ (s_.2.2 ≠ gb303) ∧ (Below w.heap.size w w')) ?_ ?_
 rotate_left
 ·intro hJ6_7_8
  refine join_ (σ := Nat × Nat) 4 q4_1 (fun s_ => [(3, .pointer (some ⟨s_.1, 0, none⟩)), (4, .pointer (some ⟨s_.2, 0, none⟩))]) (fun s_ w' => (w'.cell? ⟨gb303, 0, none⟩ = some (.int .i64 a0_0) ∧ w'.cell? ⟨gb303, 1, none⟩ = some (.int .i64 a0_1) ∧ w'.cell? ⟨gb303, 2, none⟩ = some (.int .i64 a0_2) ∧ w'.cell? ⟨gb303, 3, none⟩ = some (.int .i64 a0_3) ∧ w'.cell? ⟨gb303, 4, none⟩ = some (.int .i64 a0_4) ∧ w'.cell? ⟨gb303, 5, none⟩ = some (.int .i64 a0_5)) ∧ (w'.heap[gb303]? = some (.cells #[.int .i64 a0_0, .int .i64 a0_1, .int .i64 a0_2, .int .i64 a0_3, .int .i64 a0_4, .int .i64 a0_5] 37 (0, 0))) ∧ (w'.heap[s_.1]? = some (.cells #[.int .i64 0, .int .i64 0] 24 (0, 0))) ∧ (w'.heap[s_.2]? = some (.cells #[.int .i64 0, .int .i64 0] 24 (0, 0))) ∧ (w.heap.size ≤ s_.1) ∧ (w.heap.size ≤ s_.1) ∧ (gb303 ≠ s_.1) ∧ (s_.1 ≠ gb303) ∧ (s_.2 ≠ s_.1) ∧ (s_.1 ≠ s_.2) ∧ (w.heap.size ≤ s_.2) ∧ (w.heap.size ≤ s_.2) ∧ (gb303 ≠ s_.2) ∧ (s_.2 ≠ gb303) ∧ (Below w.heap.size w w')) ?_ ?_
  rotate_left
  ·intro hJ6_7
   refine join_ (σ := Nat × Nat) 4 q4_2 (fun s_ => [(3, .pointer (some ⟨s_.1, 0, none⟩)), (5, .pointer (some ⟨s_.2, 0, none⟩))]) (fun s_ w' => (w'.cell? ⟨gb303, 0, none⟩ = some (.int .i64 a0_0) ∧ w'.cell? ⟨gb303, 1, none⟩ = some (.int .i64 a0_1) ∧ w'.cell? ⟨gb303, 2, none⟩ = some (.int .i64 a0_2) ∧ w'.cell? ⟨gb303, 3, none⟩ = some (.int .i64 a0_3) ∧ w'.cell? ⟨gb303, 4, none⟩ = some (.int .i64 a0_4) ∧ w'.cell? ⟨gb303, 5, none⟩ = some (.int .i64 a0_5)) ∧ (w'.heap[gb303]? = some (.cells #[.int .i64 a0_0, .int .i64 a0_1, .int .i64 a0_2, .int .i64 a0_3, .int .i64 a0_4, .int .i64 a0_5] 37 (0, 0))) ∧ (w'.heap[s_.1]? = some (.cells #[.int .i64 0, .int .i64 0] 24 (0, 0))) ∧ (w'.heap[s_.2]? = some (.cells #[.int .i64 0, .int .i64 0] 24 (0, 0))) ∧ (w.heap.size ≤ s_.1) ∧ (w.heap.size ≤ s_.1) ∧ (gb303 ≠ s_.1) ∧ (s_.1 ≠ gb303) ∧ (s_.2 ≠ s_.1) ∧ (s_.1 ≠ s_.2) ∧ (w.heap.size ≤ s_.2) ∧ (w.heap.size ≤ s_.2) ∧ (gb303 ≠ s_.2) ∧ (s_.2 ≠ gb303) ∧ (Below w.heap.size w w')) ?_ ?_
   rotate_left
   ·intro hJ6_8
    refine join_ (σ := Nat × Nat) 4 q4_3 (fun s_ => [(4, .pointer (some ⟨s_.1, 0, none⟩)), (5, .pointer (some ⟨s_.2, 0, none⟩))]) (fun s_ w' => (w'.cell? ⟨gb303, 0, none⟩ = some (.int .i64 a0_0) ∧ w'.cell? ⟨gb303, 1, none⟩ = some (.int .i64 a0_1) ∧ w'.cell? ⟨gb303, 2, none⟩ = some (.int .i64 a0_2) ∧ w'.cell? ⟨gb303, 3, none⟩ = some (.int .i64 a0_3) ∧ w'.cell? ⟨gb303, 4, none⟩ = some (.int .i64 a0_4) ∧ w'.cell? ⟨gb303, 5, none⟩ = some (.int .i64 a0_5)) ∧ (w'.heap[gb303]? = some (.cells #[.int .i64 a0_0, .int .i64 a0_1, .int .i64 a0_2, .int .i64 a0_3, .int .i64 a0_4, .int .i64 a0_5] 37 (0, 0))) ∧ (w'.heap[s_.1]? = some (.cells #[.int .i64 0, .int .i64 0] 24 (0, 0))) ∧ (w'.heap[s_.2]? = some (.cells #[.int .i64 0, .int .i64 0] 24 (0, 0))) ∧ (w.heap.size ≤ s_.1) ∧ (w.heap.size ≤ s_.1) ∧ (gb303 ≠ s_.1) ∧ (s_.1 ≠ gb303) ∧ (s_.2 ≠ s_.1) ∧ (s_.1 ≠ s_.2) ∧ (w.heap.size ≤ s_.2) ∧ (w.heap.size ≤ s_.2) ∧ (gb303 ≠ s_.2) ∧ (s_.2 ≠ gb303) ∧ (Below w.heap.size w w')) ?_ ?_
    rotate_left
    ·intro hJ7_8
     refine join_ (σ := Nat) 5 q4_4 (fun s_ => [(3, .pointer (some ⟨s_, 0, none⟩))]) (fun s_ w' => (w'.cell? ⟨gb303, 0, none⟩ = some (.int .i64 a0_0) ∧ w'.cell? ⟨gb303, 1, none⟩ = some (.int .i64 a0_1) ∧ w'.cell? ⟨gb303, 2, none⟩ = some (.int .i64 a0_2) ∧ w'.cell? ⟨gb303, 3, none⟩ = some (.int .i64 a0_3) ∧ w'.cell? ⟨gb303, 4, none⟩ = some (.int .i64 a0_4) ∧ w'.cell? ⟨gb303, 5, none⟩ = some (.int .i64 a0_5)) ∧ (w'.heap[gb303]? = some (.cells #[.int .i64 a0_0, .int .i64 a0_1, .int .i64 a0_2, .int .i64 a0_3, .int .i64 a0_4, .int .i64 a0_5] 37 (0, 0))) ∧ (w'.heap[s_]? = some (.cells #[.int .i64 0, .int .i64 0] 24 (0, 0))) ∧ (w.heap.size ≤ s_) ∧ (w.heap.size ≤ s_) ∧ (gb303 ≠ s_) ∧ (s_ ≠ gb303) ∧ (Below w.heap.size w w')) ?_ ?_
     rotate_left
     ·intro hJ6
      refine join_ (σ := Nat) 5 q4_5 (fun s_ => [(4, .pointer (some ⟨s_, 0, none⟩))]) (fun s_ w' => (w'.cell? ⟨gb303, 0, none⟩ = some (.int .i64 a0_0) ∧ w'.cell? ⟨gb303, 1, none⟩ = some (.int .i64 a0_1) ∧ w'.cell? ⟨gb303, 2, none⟩ = some (.int .i64 a0_2) ∧ w'.cell? ⟨gb303, 3, none⟩ = some (.int .i64 a0_3) ∧ w'.cell? ⟨gb303, 4, none⟩ = some (.int .i64 a0_4) ∧ w'.cell? ⟨gb303, 5, none⟩ = some (.int .i64 a0_5)) ∧ (w'.heap[gb303]? = some (.cells #[.int .i64 a0_0, .int .i64 a0_1, .int .i64 a0_2, .int .i64 a0_3, .int .i64 a0_4, .int .i64 a0_5] 37 (0, 0))) ∧ (w'.heap[s_]? = some (.cells #[.int .i64 0, .int .i64 0] 24 (0, 0))) ∧ (w.heap.size ≤ s_) ∧ (w.heap.size ≤ s_) ∧ (gb303 ≠ s_) ∧ (s_ ≠ gb303) ∧ (Below w.heap.size w w')) ?_ ?_
      rotate_left
      ·intro hJ7
       refine join_ (σ := Nat) 5 q4_6 (fun s_ => [(5, .pointer (some ⟨s_, 0, none⟩))]) (fun s_ w' => (w'.cell? ⟨gb303, 0, none⟩ = some (.int .i64 a0_0) ∧ w'.cell? ⟨gb303, 1, none⟩ = some (.int .i64 a0_1) ∧ w'.cell? ⟨gb303, 2, none⟩ = some (.int .i64 a0_2) ∧ w'.cell? ⟨gb303, 3, none⟩ = some (.int .i64 a0_3) ∧ w'.cell? ⟨gb303, 4, none⟩ = some (.int .i64 a0_4) ∧ w'.cell? ⟨gb303, 5, none⟩ = some (.int .i64 a0_5)) ∧ (w'.heap[gb303]? = some (.cells #[.int .i64 a0_0, .int .i64 a0_1, .int .i64 a0_2, .int .i64 a0_3, .int .i64 a0_4, .int .i64 a0_5] 37 (0, 0))) ∧ (w'.heap[s_]? = some (.cells #[.int .i64 0, .int .i64 0] 24 (0, 0))) ∧ (w.heap.size ≤ s_) ∧ (w.heap.size ≤ s_) ∧ (gb303 ≠ s_) ∧ (s_ ≠ gb303) ∧ (Below w.heap.size w w')) ?_ ?_
       rotate_left
       ·intro hJ8
        refine three_ (i := 6) (j := 7) (k := 8) (Ni := some 3) (Nj := some 4) (Nk := some 5) q4_4 q4_5 q4_6 rfl rfl rfl rfl rfl rfl (three_of HT_.out (by kernel_rfl)) (by decide) (by decide) (by decide) (fun K hK => ?_) (fun K hK => ?_) (fun K hK => ?_)
        ·skip
         refine box_step ?hg (N := 3) ?hd (cs := #[.int .i64 0, .int .i64 0]) (t := 24) ?hr ?_; (case hd => rfl); (case hg => rfl); (case hr => first | (go_simp; done) | (go_simp; rfl))
         intro gb304 hg w5 hbox hb
         have n0_ := ak (blk_below (g := gb303) (o := .cells #[.int .i64 a0_0, .int .i64 a0_1, .int .i64 a0_2, .int .i64 a0_3, .int .i64 a0_4, .int .i64 a0_5] 37 (0, 0)) (by (with_reducible repeat (first | refine bN ?_ _ | refine bD ?_ | refine bA ?_ _)); exact BK303.out) hb)
         have n1_ := ak (below_step (by repeat (first | (with_reducible first | exact HB.out | apply wA | apply wN | apply wD | refine below_set ?_ GE303.out) | exact HB.out)) hb)
         have n2_ := ak (hbox)
         have n3_ := ak ((by rw [hg]; exact (below_size (by repeat (first | (with_reducible first | exact HB.out | apply wA | apply wN | apply wD | refine below_set ?_ GE303.out) | exact HB.out))) : w.heap.size ≤ gb304))
         have n4_ := ak ((by rw [hg]; exact (below_size (by repeat (first | (with_reducible first | exact HB.out | apply wA | apply wN | apply wD | refine below_set ?_ GE303.out) | exact HB.out))) : w.heap.size ≤ gb304))
         have n5_ := ak ((by rw [hg]; exact Nat.ne_of_lt (blk_lt (g := gb303) (o := .cells #[.int .i64 a0_0, .int .i64 a0_1, .int .i64 a0_2, .int .i64 a0_3, .int .i64 a0_4, .int .i64 a0_5] 37 (0, 0)) (by (with_reducible repeat (first | refine bN ?_ _ | refine bD ?_ | refine bA ?_ _)); exact BK303.out)) : gb303 ≠ gb304))
         have n6_ := ak ((by rw [hg]; exact Nat.ne_of_gt (blk_lt (g := gb303) (o := .cells #[.int .i64 a0_0, .int .i64 a0_1, .int .i64 a0_2, .int .i64 a0_3, .int .i64 a0_4, .int .i64 a0_5] 37 (0, 0)) (by (with_reducible repeat (first | refine bN ?_ _ | refine bD ?_ | refine bA ?_ _)); exact BK303.out)) : gb304 ≠ gb303))
         clear BK303 HB
         have BK303 := n0_
         have HB := n1_
         have BK304 := n2_
         have GW304 := n3_
         have GE304 := n4_
         have NB303_304 := n5_
         have NB304_303 := n6_
         clear n0_ n1_ n2_ n3_ n4_ n5_ n6_ hb hbox hg
         refine hK.out _ _ ⟨(blk_cell BK303.out 0).trans rfl, (blk_cell BK303.out 1).trans rfl, (blk_cell BK303.out 2).trans rfl, (blk_cell BK303.out 3).trans rfl, (blk_cell BK303.out 4).trans rfl, (blk_cell BK303.out 5).trans rfl⟩ (fun hHeld => ?_)
         clear hK K
         refine norm_ (a' := ?_) ?_ ?_
         rotate_left
         ·show Act.put _ (some 3) _ = _
          simp only [Act.put, sA_, s0_, s1_, i64_w, i32_w]
          rfl
         exact norm_ (by first | (simp only [putAll, Act.put, sA_, s0_, s1_]; done) | (simp only [putAll, Act.put, sA_, s0_, s1_]; rfl)) (hJ6 (gb304) _ ⟨hHeld, (by (with_reducible repeat (first | refine bN ?_ _ | refine bD ?_ | refine bA ?_ _)); exact BK303.out), (by (with_reducible repeat (first | refine bN ?_ _ | refine bD ?_ | refine bA ?_ _)); exact BK304.out), GW304.out, GE304.out, NB303_304.out, NB304_303.out, (by repeat (first | (with_reducible first | exact HB.out | apply wA | apply wN | apply wD | refine below_set ?_ GE303.out | refine below_set ?_ GE304.out) | exact HB.out))⟩)
        ·skip
         refine box_step ?hg (N := 4) ?hd (cs := #[.int .i64 0, .int .i64 0]) (t := 24) ?hr ?_; (case hd => rfl); (case hg => rfl); (case hr => first | (go_simp; done) | (go_simp; rfl))
         intro gb305 hg w5 hbox hb
         have n0_ := ak (blk_below (g := gb303) (o := .cells #[.int .i64 a0_0, .int .i64 a0_1, .int .i64 a0_2, .int .i64 a0_3, .int .i64 a0_4, .int .i64 a0_5] 37 (0, 0)) (by (with_reducible repeat (first | refine bN ?_ _ | refine bD ?_ | refine bA ?_ _)); exact BK303.out) hb)
         have n1_ := ak (below_step (by repeat (first | (with_reducible first | exact HB.out | apply wA | apply wN | apply wD | refine below_set ?_ GE303.out) | exact HB.out)) hb)
         have n2_ := ak (hbox)
         have n3_ := ak ((by rw [hg]; exact (below_size (by repeat (first | (with_reducible first | exact HB.out | apply wA | apply wN | apply wD | refine below_set ?_ GE303.out) | exact HB.out))) : w.heap.size ≤ gb305))
         have n4_ := ak ((by rw [hg]; exact (below_size (by repeat (first | (with_reducible first | exact HB.out | apply wA | apply wN | apply wD | refine below_set ?_ GE303.out) | exact HB.out))) : w.heap.size ≤ gb305))
         have n5_ := ak ((by rw [hg]; exact Nat.ne_of_lt (blk_lt (g := gb303) (o := .cells #[.int .i64 a0_0, .int .i64 a0_1, .int .i64 a0_2, .int .i64 a0_3, .int .i64 a0_4, .int .i64 a0_5] 37 (0, 0)) (by (with_reducible repeat (first | refine bN ?_ _ | refine bD ?_ | refine bA ?_ _)); exact BK303.out)) : gb303 ≠ gb305))
         have n6_ := ak ((by rw [hg]; exact Nat.ne_of_gt (blk_lt (g := gb303) (o := .cells #[.int .i64 a0_0, .int .i64 a0_1, .int .i64 a0_2, .int .i64 a0_3, .int .i64 a0_4, .int .i64 a0_5] 37 (0, 0)) (by (with_reducible repeat (first | refine bN ?_ _ | refine bD ?_ | refine bA ?_ _)); exact BK303.out)) : gb305 ≠ gb303))
         clear BK303 HB
         have BK303 := n0_
         have HB := n1_
         have BK305 := n2_
         have GW305 := n3_
         have GE305 := n4_
         have NB303_305 := n5_
         have NB305_303 := n6_
         clear n0_ n1_ n2_ n3_ n4_ n5_ n6_ hb hbox hg
         refine hK.out _ _ ⟨(blk_cell BK303.out 0).trans rfl, (blk_cell BK303.out 1).trans rfl, (blk_cell BK303.out 2).trans rfl, (blk_cell BK303.out 3).trans rfl, (blk_cell BK303.out 4).trans rfl, (blk_cell BK303.out 5).trans rfl⟩ (fun hHeld => ?_)
         clear hK K
         refine norm_ (a' := ?_) ?_ ?_
         rotate_left
         ·show Act.put _ (some 4) _ = _
          simp only [Act.put, sA_, s0_, s1_, i64_w, i32_w]
          rfl
         exact norm_ (by first | (simp only [putAll, Act.put, sA_, s0_, s1_]; done) | (simp only [putAll, Act.put, sA_, s0_, s1_]; rfl)) (hJ7 (gb305) _ ⟨hHeld, (by (with_reducible repeat (first | refine bN ?_ _ | refine bD ?_ | refine bA ?_ _)); exact BK303.out), (by (with_reducible repeat (first | refine bN ?_ _ | refine bD ?_ | refine bA ?_ _)); exact BK305.out), GW305.out, GE305.out, NB303_305.out, NB305_303.out, (by repeat (first | (with_reducible first | exact HB.out | apply wA | apply wN | apply wD | refine below_set ?_ GE303.out | refine below_set ?_ GE305.out) | exact HB.out))⟩)
        ·skip
         refine box_step ?hg (N := 5) ?hd (cs := #[.int .i64 0, .int .i64 0]) (t := 24) ?hr ?_; (case hd => rfl); (case hg => rfl); (case hr => first | (go_simp; done) | (go_simp; rfl))
         intro gb306 hg w5 hbox hb
         have n0_ := ak (blk_below (g := gb303) (o := .cells #[.int .i64 a0_0, .int .i64 a0_1, .int .i64 a0_2, .int .i64 a0_3, .int .i64 a0_4, .int .i64 a0_5] 37 (0, 0)) (by (with_reducible repeat (first | refine bN ?_ _ | refine bD ?_ | refine bA ?_ _)); exact BK303.out) hb)
         have n1_ := ak (below_step (by repeat (first | (with_reducible first | exact HB.out | apply wA | apply wN | apply wD | refine below_set ?_ GE303.out) | exact HB.out)) hb)
         have n2_ := ak (hbox)
         have n3_ := ak ((by rw [hg]; exact (below_size (by repeat (first | (with_reducible first | exact HB.out | apply wA | apply wN | apply wD | refine below_set ?_ GE303.out) | exact HB.out))) : w.heap.size ≤ gb306))
         have n4_ := ak ((by rw [hg]; exact (below_size (by repeat (first | (with_reducible first | exact HB.out | apply wA | apply wN | apply wD | refine below_set ?_ GE303.out) | exact HB.out))) : w.heap.size ≤ gb306))
         have n5_ := ak ((by rw [hg]; exact Nat.ne_of_lt (blk_lt (g := gb303) (o := .cells #[.int .i64 a0_0, .int .i64 a0_1, .int .i64 a0_2, .int .i64 a0_3, .int .i64 a0_4, .int .i64 a0_5] 37 (0, 0)) (by (with_reducible repeat (first | refine bN ?_ _ | refine bD ?_ | refine bA ?_ _)); exact BK303.out)) : gb303 ≠ gb306))
         have n6_ := ak ((by rw [hg]; exact Nat.ne_of_gt (blk_lt (g := gb303) (o := .cells #[.int .i64 a0_0, .int .i64 a0_1, .int .i64 a0_2, .int .i64 a0_3, .int .i64 a0_4, .int .i64 a0_5] 37 (0, 0)) (by (with_reducible repeat (first | refine bN ?_ _ | refine bD ?_ | refine bA ?_ _)); exact BK303.out)) : gb306 ≠ gb303))
         clear BK303 HB
         have BK303 := n0_
         have HB := n1_
         have BK306 := n2_
         have GW306 := n3_
         have GE306 := n4_
         have NB303_306 := n5_
         have NB306_303 := n6_
         clear n0_ n1_ n2_ n3_ n4_ n5_ n6_ hb hbox hg
         refine hK.out _ _ ⟨(blk_cell BK303.out 0).trans rfl, (blk_cell BK303.out 1).trans rfl, (blk_cell BK303.out 2).trans rfl, (blk_cell BK303.out 3).trans rfl, (blk_cell BK303.out 4).trans rfl, (blk_cell BK303.out 5).trans rfl⟩ (fun hHeld => ?_)
         clear hK K
         refine norm_ (a' := ?_) ?_ ?_
         rotate_left
         ·show Act.put _ (some 5) _ = _
          simp only [Act.put, sA_, s0_, s1_, i64_w, i32_w]
          rfl
         exact norm_ (by first | (simp only [putAll, Act.put, sA_, s0_, s1_]; done) | (simp only [putAll, Act.put, sA_, s0_, s1_]; rfl)) (hJ8 (gb306) _ ⟨hHeld, (by (with_reducible repeat (first | refine bN ?_ _ | refine bD ?_ | refine bA ?_ _)); exact BK303.out), (by (with_reducible repeat (first | refine bN ?_ _ | refine bD ?_ | refine bA ?_ _)); exact BK306.out), GW306.out, GE306.out, NB303_306.out, NB306_303.out, (by repeat (first | (with_reducible first | exact HB.out | apply wA | apply wN | apply wD | refine below_set ?_ GE303.out | refine below_set ?_ GE306.out) | exact HB.out))⟩)
       ·skip
        rintro gb306 w6 ⟨hS_, h0_, h1_, h2_, h3_, h4_, h5_, h6_⟩
        have n0_ : Aside0 (w6.heap[gb303]? = some (.cells #[.int .i64 a0_0, .int .i64 a0_1, .int .i64 a0_2, .int .i64 a0_3, .int .i64 a0_4, .int .i64 a0_5] 37 (0, 0))) := ⟨h0_⟩
        have n1_ : Aside0 (w6.heap[gb306]? = some (.cells #[.int .i64 0, .int .i64 0] 24 (0, 0))) := ⟨h1_⟩
        have n2_ : Aside0 (w.heap.size ≤ gb306) := ⟨h2_⟩
        have n3_ : Aside0 (w.heap.size ≤ gb306) := ⟨h3_⟩
        have n4_ : Aside0 (gb303 ≠ gb306) := ⟨h4_⟩
        have n5_ : Aside0 (gb306 ≠ gb303) := ⟨h5_⟩
        have n6_ : Aside0 (Below w.heap.size w w6) := ⟨h6_⟩
        clear BK303 HB h0_ h1_ h2_ h3_ h4_ h5_ h6_
        have BK303 := n0_
        have BK306 := n1_
        have GW306 := n2_
        have GE306 := n3_
        have NB303_306 := n4_
        have NB306_303 := n5_
        have HB := n6_
        clear n0_ n1_ n2_ n3_ n4_ n5_ n6_
        have hHeld : w6.cell? ⟨gb303, 0, none⟩ = some (.int .i64 a0_0) ∧ w6.cell? ⟨gb303, 1, none⟩ = some (.int .i64 a0_1) ∧ w6.cell? ⟨gb303, 2, none⟩ = some (.int .i64 a0_2) ∧ w6.cell? ⟨gb303, 3, none⟩ = some (.int .i64 a0_3) ∧ w6.cell? ⟨gb303, 4, none⟩ = some (.int .i64 a0_4) ∧ w6.cell? ⟨gb303, 5, none⟩ = some (.int .i64 a0_5) := hS_
        refine norm_ (a' := ?_) ?_ ?_
        rotate_left
        ·simp only [putAll, Act.put, sA_, s0_, s1_]
         rfl
        refine two_ (i := 6) (j := 7) (Ni := some 3) (Nj := some 4) q4_2 q4_3 rfl rfl rfl rfl (two_of HT_.out (by kernel_rfl)) (by decide) (by decide) (fun K hK => ?_) (fun K hK => ?_)
        ·skip
         refine box_step ?hg (N := 3) ?hd (cs := #[.int .i64 0, .int .i64 0]) (t := 24) ?hr ?_; (case hd => rfl); (case hg => rfl); (case hr => first | (go_simp; done) | (go_simp; rfl))
         intro gb304 hg w7 hbox hb
         have n0_ := ak (blk_below (g := gb303) (o := .cells #[.int .i64 a0_0, .int .i64 a0_1, .int .i64 a0_2, .int .i64 a0_3, .int .i64 a0_4, .int .i64 a0_5] 37 (0, 0)) (by (with_reducible repeat (first | refine bN ?_ _ | refine bD ?_ | refine bA ?_ _)); exact BK303.out) hb)
         have n1_ := ak (blk_below (g := gb306) (o := .cells #[.int .i64 0, .int .i64 0] 24 (0, 0)) (by (with_reducible repeat (first | refine bN ?_ _ | refine bD ?_ | refine bA ?_ _)); exact BK306.out) hb)
         have n2_ := ak (below_step (by repeat (first | (with_reducible first | exact HB.out | apply wA | apply wN | apply wD | refine below_set ?_ GE303.out | refine below_set ?_ GE306.out) | exact HB.out)) hb)
         have n3_ := ak (hbox)
         have n4_ := ak ((by rw [hg]; exact (below_size (by repeat (first | (with_reducible first | exact HB.out | apply wA | apply wN | apply wD | refine below_set ?_ GE303.out | refine below_set ?_ GE306.out) | exact HB.out))) : w.heap.size ≤ gb304))
         have n5_ := ak ((by rw [hg]; exact (below_size (by repeat (first | (with_reducible first | exact HB.out | apply wA | apply wN | apply wD | refine below_set ?_ GE303.out | refine below_set ?_ GE306.out) | exact HB.out))) : w.heap.size ≤ gb304))
         have n6_ := ak ((by rw [hg]; exact Nat.ne_of_lt (blk_lt (g := gb303) (o := .cells #[.int .i64 a0_0, .int .i64 a0_1, .int .i64 a0_2, .int .i64 a0_3, .int .i64 a0_4, .int .i64 a0_5] 37 (0, 0)) (by (with_reducible repeat (first | refine bN ?_ _ | refine bD ?_ | refine bA ?_ _)); exact BK303.out)) : gb303 ≠ gb304))
         have n7_ := ak ((by rw [hg]; exact Nat.ne_of_gt (blk_lt (g := gb303) (o := .cells #[.int .i64 a0_0, .int .i64 a0_1, .int .i64 a0_2, .int .i64 a0_3, .int .i64 a0_4, .int .i64 a0_5] 37 (0, 0)) (by (with_reducible repeat (first | refine bN ?_ _ | refine bD ?_ | refine bA ?_ _)); exact BK303.out)) : gb304 ≠ gb303))
         have n8_ := ak ((by rw [hg]; exact Nat.ne_of_lt (blk_lt (g := gb306) (o := .cells #[.int .i64 0, .int .i64 0] 24 (0, 0)) (by (with_reducible repeat (first | refine bN ?_ _ | refine bD ?_ | refine bA ?_ _)); exact BK306.out)) : gb306 ≠ gb304))
         have n9_ := ak ((by rw [hg]; exact Nat.ne_of_gt (blk_lt (g := gb306) (o := .cells #[.int .i64 0, .int .i64 0] 24 (0, 0)) (by (with_reducible repeat (first | refine bN ?_ _ | refine bD ?_ | refine bA ?_ _)); exact BK306.out)) : gb304 ≠ gb306))
         clear BK303 BK306 HB
         have BK303 := n0_
         have BK306 := n1_
         have HB := n2_
         have BK304 := n3_
         have GW304 := n4_
         have GE304 := n5_
         have NB303_304 := n6_
         have NB304_303 := n7_
         have NB306_304 := n8_
         have NB304_306 := n9_
         clear n0_ n1_ n2_ n3_ n4_ n5_ n6_ n7_ n8_ n9_ hb hbox hg
         refine hK.out _ _ ⟨(blk_cell BK303.out 0).trans rfl, (blk_cell BK303.out 1).trans rfl, (blk_cell BK303.out 2).trans rfl, (blk_cell BK303.out 3).trans rfl, (blk_cell BK303.out 4).trans rfl, (blk_cell BK303.out 5).trans rfl⟩ (fun hHeld => ?_)
         clear hK K
         refine norm_ (a' := ?_) ?_ ?_
         rotate_left
         ·show Act.put _ (some 3) _ = _
          simp only [Act.put, sA_, s0_, s1_, i64_w, i32_w]
          rfl
         exact norm_ (by first | (simp only [putAll, Act.put, sA_, s0_, s1_]; done) | (simp only [putAll, Act.put, sA_, s0_, s1_]; rfl)) (hJ6_8 (gb304, gb306) _ ⟨hHeld, (by (with_reducible repeat (first | refine bN ?_ _ | refine bD ?_ | refine bA ?_ _)); exact BK303.out), (by (with_reducible repeat (first | refine bN ?_ _ | refine bD ?_ | refine bA ?_ _)); exact BK304.out), (by (with_reducible repeat (first | refine bN ?_ _ | refine bD ?_ | refine bA ?_ _)); exact BK306.out), GW304.out, GE304.out, NB303_304.out, NB304_303.out, NB306_304.out, NB304_306.out, GW306.out, GE306.out, NB303_306.out, NB306_303.out, (by repeat (first | (with_reducible first | exact HB.out | apply wA | apply wN | apply wD | refine below_set ?_ GE303.out | refine below_set ?_ GE306.out | refine below_set ?_ GE304.out) | exact HB.out))⟩)
        ·skip
         refine box_step ?hg (N := 4) ?hd (cs := #[.int .i64 0, .int .i64 0]) (t := 24) ?hr ?_; (case hd => rfl); (case hg => rfl); (case hr => first | (go_simp; done) | (go_simp; rfl))
         intro gb305 hg w7 hbox hb
         have n0_ := ak (blk_below (g := gb303) (o := .cells #[.int .i64 a0_0, .int .i64 a0_1, .int .i64 a0_2, .int .i64 a0_3, .int .i64 a0_4, .int .i64 a0_5] 37 (0, 0)) (by (with_reducible repeat (first | refine bN ?_ _ | refine bD ?_ | refine bA ?_ _)); exact BK303.out) hb)
         have n1_ := ak (blk_below (g := gb306) (o := .cells #[.int .i64 0, .int .i64 0] 24 (0, 0)) (by (with_reducible repeat (first | refine bN ?_ _ | refine bD ?_ | refine bA ?_ _)); exact BK306.out) hb)
         have n2_ := ak (below_step (by repeat (first | (with_reducible first | exact HB.out | apply wA | apply wN | apply wD | refine below_set ?_ GE303.out | refine below_set ?_ GE306.out) | exact HB.out)) hb)
         have n3_ := ak (hbox)
         have n4_ := ak ((by rw [hg]; exact (below_size (by repeat (first | (with_reducible first | exact HB.out | apply wA | apply wN | apply wD | refine below_set ?_ GE303.out | refine below_set ?_ GE306.out) | exact HB.out))) : w.heap.size ≤ gb305))
         have n5_ := ak ((by rw [hg]; exact (below_size (by repeat (first | (with_reducible first | exact HB.out | apply wA | apply wN | apply wD | refine below_set ?_ GE303.out | refine below_set ?_ GE306.out) | exact HB.out))) : w.heap.size ≤ gb305))
         have n6_ := ak ((by rw [hg]; exact Nat.ne_of_lt (blk_lt (g := gb303) (o := .cells #[.int .i64 a0_0, .int .i64 a0_1, .int .i64 a0_2, .int .i64 a0_3, .int .i64 a0_4, .int .i64 a0_5] 37 (0, 0)) (by (with_reducible repeat (first | refine bN ?_ _ | refine bD ?_ | refine bA ?_ _)); exact BK303.out)) : gb303 ≠ gb305))
         have n7_ := ak ((by rw [hg]; exact Nat.ne_of_gt (blk_lt (g := gb303) (o := .cells #[.int .i64 a0_0, .int .i64 a0_1, .int .i64 a0_2, .int .i64 a0_3, .int .i64 a0_4, .int .i64 a0_5] 37 (0, 0)) (by (with_reducible repeat (first | refine bN ?_ _ | refine bD ?_ | refine bA ?_ _)); exact BK303.out)) : gb305 ≠ gb303))
         have n8_ := ak ((by rw [hg]; exact Nat.ne_of_lt (blk_lt (g := gb306) (o := .cells #[.int .i64 0, .int .i64 0] 24 (0, 0)) (by (with_reducible repeat (first | refine bN ?_ _ | refine bD ?_ | refine bA ?_ _)); exact BK306.out)) : gb306 ≠ gb305))
         have n9_ := ak ((by rw [hg]; exact Nat.ne_of_gt (blk_lt (g := gb306) (o := .cells #[.int .i64 0, .int .i64 0] 24 (0, 0)) (by (with_reducible repeat (first | refine bN ?_ _ | refine bD ?_ | refine bA ?_ _)); exact BK306.out)) : gb305 ≠ gb306))
         clear BK303 BK306 HB
         have BK303 := n0_
         have BK306 := n1_
         have HB := n2_
         have BK305 := n3_
         have GW305 := n4_
         have GE305 := n5_
         have NB303_305 := n6_
         have NB305_303 := n7_
         have NB306_305 := n8_
         have NB305_306 := n9_
         clear n0_ n1_ n2_ n3_ n4_ n5_ n6_ n7_ n8_ n9_ hb hbox hg
         refine hK.out _ _ ⟨(blk_cell BK303.out 0).trans rfl, (blk_cell BK303.out 1).trans rfl, (blk_cell BK303.out 2).trans rfl, (blk_cell BK303.out 3).trans rfl, (blk_cell BK303.out 4).trans rfl, (blk_cell BK303.out 5).trans rfl⟩ (fun hHeld => ?_)
         clear hK K
         refine norm_ (a' := ?_) ?_ ?_
         rotate_left
         ·show Act.put _ (some 4) _ = _
          simp only [Act.put, sA_, s0_, s1_, i64_w, i32_w]
          rfl
         exact norm_ (by first | (simp only [putAll, Act.put, sA_, s0_, s1_]; done) | (simp only [putAll, Act.put, sA_, s0_, s1_]; rfl)) (hJ7_8 (gb305, gb306) _ ⟨hHeld, (by (with_reducible repeat (first | refine bN ?_ _ | refine bD ?_ | refine bA ?_ _)); exact BK303.out), (by (with_reducible repeat (first | refine bN ?_ _ | refine bD ?_ | refine bA ?_ _)); exact BK305.out), (by (with_reducible repeat (first | refine bN ?_ _ | refine bD ?_ | refine bA ?_ _)); exact BK306.out), GW305.out, GE305.out, NB303_305.out, NB305_303.out, NB306_305.out, NB305_306.out, GW306.out, GE306.out, NB303_306.out, NB306_303.out, (by repeat (first | (with_reducible first | exact HB.out | apply wA | apply wN | apply wD | refine below_set ?_ GE303.out | refine below_set ?_ GE306.out | refine below_set ?_ GE305.out) | exact HB.out))⟩)
      ·skip
       rintro gb305 w6 ⟨hS_, h0_, h1_, h2_, h3_, h4_, h5_, h6_⟩
       have n0_ : Aside0 (w6.heap[gb303]? = some (.cells #[.int .i64 a0_0, .int .i64 a0_1, .int .i64 a0_2, .int .i64 a0_3, .int .i64 a0_4, .int .i64 a0_5] 37 (0, 0))) := ⟨h0_⟩
       have n1_ : Aside0 (w6.heap[gb305]? = some (.cells #[.int .i64 0, .int .i64 0] 24 (0, 0))) := ⟨h1_⟩
       have n2_ : Aside0 (w.heap.size ≤ gb305) := ⟨h2_⟩
       have n3_ : Aside0 (w.heap.size ≤ gb305) := ⟨h3_⟩
       have n4_ : Aside0 (gb303 ≠ gb305) := ⟨h4_⟩
       have n5_ : Aside0 (gb305 ≠ gb303) := ⟨h5_⟩
       have n6_ : Aside0 (Below w.heap.size w w6) := ⟨h6_⟩
       clear BK303 HB h0_ h1_ h2_ h3_ h4_ h5_ h6_
       have BK303 := n0_
       have BK305 := n1_
       have GW305 := n2_
       have GE305 := n3_
       have NB303_305 := n4_
       have NB305_303 := n5_
       have HB := n6_
       clear n0_ n1_ n2_ n3_ n4_ n5_ n6_
       have hHeld : w6.cell? ⟨gb303, 0, none⟩ = some (.int .i64 a0_0) ∧ w6.cell? ⟨gb303, 1, none⟩ = some (.int .i64 a0_1) ∧ w6.cell? ⟨gb303, 2, none⟩ = some (.int .i64 a0_2) ∧ w6.cell? ⟨gb303, 3, none⟩ = some (.int .i64 a0_3) ∧ w6.cell? ⟨gb303, 4, none⟩ = some (.int .i64 a0_4) ∧ w6.cell? ⟨gb303, 5, none⟩ = some (.int .i64 a0_5) := hS_
       refine norm_ (a' := ?_) ?_ ?_
       rotate_left
       ·simp only [putAll, Act.put, sA_, s0_, s1_]
        rfl
       refine two_ (i := 6) (j := 8) (Ni := some 3) (Nj := some 5) q4_1 q4_3 rfl rfl rfl rfl (two_of HT_.out (by kernel_rfl)) (by decide) (by decide) (fun K hK => ?_) (fun K hK => ?_)
       ·skip
        refine box_step ?hg (N := 3) ?hd (cs := #[.int .i64 0, .int .i64 0]) (t := 24) ?hr ?_; (case hd => rfl); (case hg => rfl); (case hr => first | (go_simp; done) | (go_simp; rfl))
        intro gb304 hg w7 hbox hb
        have n0_ := ak (blk_below (g := gb303) (o := .cells #[.int .i64 a0_0, .int .i64 a0_1, .int .i64 a0_2, .int .i64 a0_3, .int .i64 a0_4, .int .i64 a0_5] 37 (0, 0)) (by (with_reducible repeat (first | refine bN ?_ _ | refine bD ?_ | refine bA ?_ _)); exact BK303.out) hb)
        have n1_ := ak (blk_below (g := gb305) (o := .cells #[.int .i64 0, .int .i64 0] 24 (0, 0)) (by (with_reducible repeat (first | refine bN ?_ _ | refine bD ?_ | refine bA ?_ _)); exact BK305.out) hb)
        have n2_ := ak (below_step (by repeat (first | (with_reducible first | exact HB.out | apply wA | apply wN | apply wD | refine below_set ?_ GE303.out | refine below_set ?_ GE305.out) | exact HB.out)) hb)
        have n3_ := ak (hbox)
        have n4_ := ak ((by rw [hg]; exact (below_size (by repeat (first | (with_reducible first | exact HB.out | apply wA | apply wN | apply wD | refine below_set ?_ GE303.out | refine below_set ?_ GE305.out) | exact HB.out))) : w.heap.size ≤ gb304))
        have n5_ := ak ((by rw [hg]; exact (below_size (by repeat (first | (with_reducible first | exact HB.out | apply wA | apply wN | apply wD | refine below_set ?_ GE303.out | refine below_set ?_ GE305.out) | exact HB.out))) : w.heap.size ≤ gb304))
        have n6_ := ak ((by rw [hg]; exact Nat.ne_of_lt (blk_lt (g := gb303) (o := .cells #[.int .i64 a0_0, .int .i64 a0_1, .int .i64 a0_2, .int .i64 a0_3, .int .i64 a0_4, .int .i64 a0_5] 37 (0, 0)) (by (with_reducible repeat (first | refine bN ?_ _ | refine bD ?_ | refine bA ?_ _)); exact BK303.out)) : gb303 ≠ gb304))
        have n7_ := ak ((by rw [hg]; exact Nat.ne_of_gt (blk_lt (g := gb303) (o := .cells #[.int .i64 a0_0, .int .i64 a0_1, .int .i64 a0_2, .int .i64 a0_3, .int .i64 a0_4, .int .i64 a0_5] 37 (0, 0)) (by (with_reducible repeat (first | refine bN ?_ _ | refine bD ?_ | refine bA ?_ _)); exact BK303.out)) : gb304 ≠ gb303))
        have n8_ := ak ((by rw [hg]; exact Nat.ne_of_lt (blk_lt (g := gb305) (o := .cells #[.int .i64 0, .int .i64 0] 24 (0, 0)) (by (with_reducible repeat (first | refine bN ?_ _ | refine bD ?_ | refine bA ?_ _)); exact BK305.out)) : gb305 ≠ gb304))
        have n9_ := ak ((by rw [hg]; exact Nat.ne_of_gt (blk_lt (g := gb305) (o := .cells #[.int .i64 0, .int .i64 0] 24 (0, 0)) (by (with_reducible repeat (first | refine bN ?_ _ | refine bD ?_ | refine bA ?_ _)); exact BK305.out)) : gb304 ≠ gb305))
        clear BK303 BK305 HB
        have BK303 := n0_
        have BK305 := n1_
        have HB := n2_
        have BK304 := n3_
        have GW304 := n4_
        have GE304 := n5_
        have NB303_304 := n6_
        have NB304_303 := n7_
        have NB305_304 := n8_
        have NB304_305 := n9_
        clear n0_ n1_ n2_ n3_ n4_ n5_ n6_ n7_ n8_ n9_ hb hbox hg
        refine hK.out _ _ ⟨(blk_cell BK303.out 0).trans rfl, (blk_cell BK303.out 1).trans rfl, (blk_cell BK303.out 2).trans rfl, (blk_cell BK303.out 3).trans rfl, (blk_cell BK303.out 4).trans rfl, (blk_cell BK303.out 5).trans rfl⟩ (fun hHeld => ?_)
        clear hK K
        refine norm_ (a' := ?_) ?_ ?_
        rotate_left
        ·show Act.put _ (some 3) _ = _
         simp only [Act.put, sA_, s0_, s1_, i64_w, i32_w]
         rfl
        exact norm_ (by first | (simp only [putAll, Act.put, sA_, s0_, s1_]; done) | (simp only [putAll, Act.put, sA_, s0_, s1_]; rfl)) (hJ6_7 (gb304, gb305) _ ⟨hHeld, (by (with_reducible repeat (first | refine bN ?_ _ | refine bD ?_ | refine bA ?_ _)); exact BK303.out), (by (with_reducible repeat (first | refine bN ?_ _ | refine bD ?_ | refine bA ?_ _)); exact BK304.out), (by (with_reducible repeat (first | refine bN ?_ _ | refine bD ?_ | refine bA ?_ _)); exact BK305.out), GW304.out, GE304.out, NB303_304.out, NB304_303.out, NB305_304.out, NB304_305.out, GW305.out, GE305.out, NB303_305.out, NB305_303.out, (by repeat (first | (with_reducible first | exact HB.out | apply wA | apply wN | apply wD | refine below_set ?_ GE303.out | refine below_set ?_ GE305.out | refine below_set ?_ GE304.out) | exact HB.out))⟩)
       ·skip
        refine box_step ?hg (N := 5) ?hd (cs := #[.int .i64 0, .int .i64 0]) (t := 24) ?hr ?_; (case hd => rfl); (case hg => rfl); (case hr => first | (go_simp; done) | (go_simp; rfl))
        intro gb306 hg w7 hbox hb
        have n0_ := ak (blk_below (g := gb303) (o := .cells #[.int .i64 a0_0, .int .i64 a0_1, .int .i64 a0_2, .int .i64 a0_3, .int .i64 a0_4, .int .i64 a0_5] 37 (0, 0)) (by (with_reducible repeat (first | refine bN ?_ _ | refine bD ?_ | refine bA ?_ _)); exact BK303.out) hb)
        have n1_ := ak (blk_below (g := gb305) (o := .cells #[.int .i64 0, .int .i64 0] 24 (0, 0)) (by (with_reducible repeat (first | refine bN ?_ _ | refine bD ?_ | refine bA ?_ _)); exact BK305.out) hb)
        have n2_ := ak (below_step (by repeat (first | (with_reducible first | exact HB.out | apply wA | apply wN | apply wD | refine below_set ?_ GE303.out | refine below_set ?_ GE305.out) | exact HB.out)) hb)
        have n3_ := ak (hbox)
        have n4_ := ak ((by rw [hg]; exact (below_size (by repeat (first | (with_reducible first | exact HB.out | apply wA | apply wN | apply wD | refine below_set ?_ GE303.out | refine below_set ?_ GE305.out) | exact HB.out))) : w.heap.size ≤ gb306))
        have n5_ := ak ((by rw [hg]; exact (below_size (by repeat (first | (with_reducible first | exact HB.out | apply wA | apply wN | apply wD | refine below_set ?_ GE303.out | refine below_set ?_ GE305.out) | exact HB.out))) : w.heap.size ≤ gb306))
        have n6_ := ak ((by rw [hg]; exact Nat.ne_of_lt (blk_lt (g := gb303) (o := .cells #[.int .i64 a0_0, .int .i64 a0_1, .int .i64 a0_2, .int .i64 a0_3, .int .i64 a0_4, .int .i64 a0_5] 37 (0, 0)) (by (with_reducible repeat (first | refine bN ?_ _ | refine bD ?_ | refine bA ?_ _)); exact BK303.out)) : gb303 ≠ gb306))
        have n7_ := ak ((by rw [hg]; exact Nat.ne_of_gt (blk_lt (g := gb303) (o := .cells #[.int .i64 a0_0, .int .i64 a0_1, .int .i64 a0_2, .int .i64 a0_3, .int .i64 a0_4, .int .i64 a0_5] 37 (0, 0)) (by (with_reducible repeat (first | refine bN ?_ _ | refine bD ?_ | refine bA ?_ _)); exact BK303.out)) : gb306 ≠ gb303))
        have n8_ := ak ((by rw [hg]; exact Nat.ne_of_lt (blk_lt (g := gb305) (o := .cells #[.int .i64 0, .int .i64 0] 24 (0, 0)) (by (with_reducible repeat (first | refine bN ?_ _ | refine bD ?_ | refine bA ?_ _)); exact BK305.out)) : gb305 ≠ gb306))
        have n9_ := ak ((by rw [hg]; exact Nat.ne_of_gt (blk_lt (g := gb305) (o := .cells #[.int .i64 0, .int .i64 0] 24 (0, 0)) (by (with_reducible repeat (first | refine bN ?_ _ | refine bD ?_ | refine bA ?_ _)); exact BK305.out)) : gb306 ≠ gb305))
        clear BK303 BK305 HB
        have BK303 := n0_
        have BK305 := n1_
        have HB := n2_
        have BK306 := n3_
        have GW306 := n4_
        have GE306 := n5_
        have NB303_306 := n6_
        have NB306_303 := n7_
        have NB305_306 := n8_
        have NB306_305 := n9_
        clear n0_ n1_ n2_ n3_ n4_ n5_ n6_ n7_ n8_ n9_ hb hbox hg
        refine hK.out _ _ ⟨(blk_cell BK303.out 0).trans rfl, (blk_cell BK303.out 1).trans rfl, (blk_cell BK303.out 2).trans rfl, (blk_cell BK303.out 3).trans rfl, (blk_cell BK303.out 4).trans rfl, (blk_cell BK303.out 5).trans rfl⟩ (fun hHeld => ?_)
        clear hK K
        refine norm_ (a' := ?_) ?_ ?_
        rotate_left
        ·show Act.put _ (some 5) _ = _
         simp only [Act.put, sA_, s0_, s1_, i64_w, i32_w]
         rfl
        exact norm_ (by first | (simp only [putAll, Act.put, sA_, s0_, s1_]; done) | (simp only [putAll, Act.put, sA_, s0_, s1_]; rfl)) (hJ7_8 (gb305, gb306) _ ⟨hHeld, (by (with_reducible repeat (first | refine bN ?_ _ | refine bD ?_ | refine bA ?_ _)); exact BK303.out), (by (with_reducible repeat (first | refine bN ?_ _ | refine bD ?_ | refine bA ?_ _)); exact BK305.out), (by (with_reducible repeat (first | refine bN ?_ _ | refine bD ?_ | refine bA ?_ _)); exact BK306.out), GW305.out, GE305.out, NB303_305.out, NB305_303.out, NB306_305.out, NB305_306.out, GW306.out, GE306.out, NB303_306.out, NB306_303.out, (by repeat (first | (with_reducible first | exact HB.out | apply wA | apply wN | apply wD | refine below_set ?_ GE303.out | refine below_set ?_ GE305.out | refine below_set ?_ GE306.out) | exact HB.out))⟩)
     ·skip
      rintro gb304 w6 ⟨hS_, h0_, h1_, h2_, h3_, h4_, h5_, h6_⟩
      have n0_ : Aside0 (w6.heap[gb303]? = some (.cells #[.int .i64 a0_0, .int .i64 a0_1, .int .i64 a0_2, .int .i64 a0_3, .int .i64 a0_4, .int .i64 a0_5] 37 (0, 0))) := ⟨h0_⟩
      have n1_ : Aside0 (w6.heap[gb304]? = some (.cells #[.int .i64 0, .int .i64 0] 24 (0, 0))) := ⟨h1_⟩
      have n2_ : Aside0 (w.heap.size ≤ gb304) := ⟨h2_⟩
      have n3_ : Aside0 (w.heap.size ≤ gb304) := ⟨h3_⟩
      have n4_ : Aside0 (gb303 ≠ gb304) := ⟨h4_⟩
      have n5_ : Aside0 (gb304 ≠ gb303) := ⟨h5_⟩
      have n6_ : Aside0 (Below w.heap.size w w6) := ⟨h6_⟩
      clear BK303 HB h0_ h1_ h2_ h3_ h4_ h5_ h6_
      have BK303 := n0_
      have BK304 := n1_
      have GW304 := n2_
      have GE304 := n3_
      have NB303_304 := n4_
      have NB304_303 := n5_
      have HB := n6_
      clear n0_ n1_ n2_ n3_ n4_ n5_ n6_
      have hHeld : w6.cell? ⟨gb303, 0, none⟩ = some (.int .i64 a0_0) ∧ w6.cell? ⟨gb303, 1, none⟩ = some (.int .i64 a0_1) ∧ w6.cell? ⟨gb303, 2, none⟩ = some (.int .i64 a0_2) ∧ w6.cell? ⟨gb303, 3, none⟩ = some (.int .i64 a0_3) ∧ w6.cell? ⟨gb303, 4, none⟩ = some (.int .i64 a0_4) ∧ w6.cell? ⟨gb303, 5, none⟩ = some (.int .i64 a0_5) := hS_
      refine norm_ (a' := ?_) ?_ ?_
      rotate_left
      ·simp only [putAll, Act.put, sA_, s0_, s1_]
       rfl
      refine two_ (i := 7) (j := 8) (Ni := some 4) (Nj := some 5) q4_1 q4_2 rfl rfl rfl rfl (two_of HT_.out (by kernel_rfl)) (by decide) (by decide) (fun K hK => ?_) (fun K hK => ?_)
      ·skip
       refine box_step ?hg (N := 4) ?hd (cs := #[.int .i64 0, .int .i64 0]) (t := 24) ?hr ?_; (case hd => rfl); (case hg => rfl); (case hr => first | (go_simp; done) | (go_simp; rfl))
       intro gb305 hg w7 hbox hb
       have n0_ := ak (blk_below (g := gb303) (o := .cells #[.int .i64 a0_0, .int .i64 a0_1, .int .i64 a0_2, .int .i64 a0_3, .int .i64 a0_4, .int .i64 a0_5] 37 (0, 0)) (by (with_reducible repeat (first | refine bN ?_ _ | refine bD ?_ | refine bA ?_ _)); exact BK303.out) hb)
       have n1_ := ak (blk_below (g := gb304) (o := .cells #[.int .i64 0, .int .i64 0] 24 (0, 0)) (by (with_reducible repeat (first | refine bN ?_ _ | refine bD ?_ | refine bA ?_ _)); exact BK304.out) hb)
       have n2_ := ak (below_step (by repeat (first | (with_reducible first | exact HB.out | apply wA | apply wN | apply wD | refine below_set ?_ GE303.out | refine below_set ?_ GE304.out) | exact HB.out)) hb)
       have n3_ := ak (hbox)
       have n4_ := ak ((by rw [hg]; exact (below_size (by repeat (first | (with_reducible first | exact HB.out | apply wA | apply wN | apply wD | refine below_set ?_ GE303.out | refine below_set ?_ GE304.out) | exact HB.out))) : w.heap.size ≤ gb305))
       have n5_ := ak ((by rw [hg]; exact (below_size (by repeat (first | (with_reducible first | exact HB.out | apply wA | apply wN | apply wD | refine below_set ?_ GE303.out | refine below_set ?_ GE304.out) | exact HB.out))) : w.heap.size ≤ gb305))
       have n6_ := ak ((by rw [hg]; exact Nat.ne_of_lt (blk_lt (g := gb303) (o := .cells #[.int .i64 a0_0, .int .i64 a0_1, .int .i64 a0_2, .int .i64 a0_3, .int .i64 a0_4, .int .i64 a0_5] 37 (0, 0)) (by (with_reducible repeat (first | refine bN ?_ _ | refine bD ?_ | refine bA ?_ _)); exact BK303.out)) : gb303 ≠ gb305))
       have n7_ := ak ((by rw [hg]; exact Nat.ne_of_gt (blk_lt (g := gb303) (o := .cells #[.int .i64 a0_0, .int .i64 a0_1, .int .i64 a0_2, .int .i64 a0_3, .int .i64 a0_4, .int .i64 a0_5] 37 (0, 0)) (by (with_reducible repeat (first | refine bN ?_ _ | refine bD ?_ | refine bA ?_ _)); exact BK303.out)) : gb305 ≠ gb303))
       have n8_ := ak ((by rw [hg]; exact Nat.ne_of_lt (blk_lt (g := gb304) (o := .cells #[.int .i64 0, .int .i64 0] 24 (0, 0)) (by (with_reducible repeat (first | refine bN ?_ _ | refine bD ?_ | refine bA ?_ _)); exact BK304.out)) : gb304 ≠ gb305))
       have n9_ := ak ((by rw [hg]; exact Nat.ne_of_gt (blk_lt (g := gb304) (o := .cells #[.int .i64 0, .int .i64 0] 24 (0, 0)) (by (with_reducible repeat (first | refine bN ?_ _ | refine bD ?_ | refine bA ?_ _)); exact BK304.out)) : gb305 ≠ gb304))
       clear BK303 BK304 HB
       have BK303 := n0_
       have BK304 := n1_
       have HB := n2_
       have BK305 := n3_
       have GW305 := n4_
       have GE305 := n5_
       have NB303_305 := n6_
       have NB305_303 := n7_
       have NB304_305 := n8_
       have NB305_304 := n9_
       clear n0_ n1_ n2_ n3_ n4_ n5_ n6_ n7_ n8_ n9_ hb hbox hg
       refine hK.out _ _ ⟨(blk_cell BK303.out 0).trans rfl, (blk_cell BK303.out 1).trans rfl, (blk_cell BK303.out 2).trans rfl, (blk_cell BK303.out 3).trans rfl, (blk_cell BK303.out 4).trans rfl, (blk_cell BK303.out 5).trans rfl⟩ (fun hHeld => ?_)
       clear hK K
       refine norm_ (a' := ?_) ?_ ?_
       rotate_left
       ·show Act.put _ (some 4) _ = _
        simp only [Act.put, sA_, s0_, s1_, i64_w, i32_w]
        rfl
       exact norm_ (by first | (simp only [putAll, Act.put, sA_, s0_, s1_]; done) | (simp only [putAll, Act.put, sA_, s0_, s1_]; rfl)) (hJ6_7 (gb304, gb305) _ ⟨hHeld, (by (with_reducible repeat (first | refine bN ?_ _ | refine bD ?_ | refine bA ?_ _)); exact BK303.out), (by (with_reducible repeat (first | refine bN ?_ _ | refine bD ?_ | refine bA ?_ _)); exact BK304.out), (by (with_reducible repeat (first | refine bN ?_ _ | refine bD ?_ | refine bA ?_ _)); exact BK305.out), GW304.out, GE304.out, NB303_304.out, NB304_303.out, NB305_304.out, NB304_305.out, GW305.out, GE305.out, NB303_305.out, NB305_303.out, (by repeat (first | (with_reducible first | exact HB.out | apply wA | apply wN | apply wD | refine below_set ?_ GE303.out | refine below_set ?_ GE304.out | refine below_set ?_ GE305.out) | exact HB.out))⟩)
      ·skip
       refine box_step ?hg (N := 5) ?hd (cs := #[.int .i64 0, .int .i64 0]) (t := 24) ?hr ?_; (case hd => rfl); (case hg => rfl); (case hr => first | (go_simp; done) | (go_simp; rfl))
       intro gb306 hg w7 hbox hb
       have n0_ := ak (blk_below (g := gb303) (o := .cells #[.int .i64 a0_0, .int .i64 a0_1, .int .i64 a0_2, .int .i64 a0_3, .int .i64 a0_4, .int .i64 a0_5] 37 (0, 0)) (by (with_reducible repeat (first | refine bN ?_ _ | refine bD ?_ | refine bA ?_ _)); exact BK303.out) hb)
       have n1_ := ak (blk_below (g := gb304) (o := .cells #[.int .i64 0, .int .i64 0] 24 (0, 0)) (by (with_reducible repeat (first | refine bN ?_ _ | refine bD ?_ | refine bA ?_ _)); exact BK304.out) hb)
       have n2_ := ak (below_step (by repeat (first | (with_reducible first | exact HB.out | apply wA | apply wN | apply wD | refine below_set ?_ GE303.out | refine below_set ?_ GE304.out) | exact HB.out)) hb)
       have n3_ := ak (hbox)
       have n4_ := ak ((by rw [hg]; exact (below_size (by repeat (first | (with_reducible first | exact HB.out | apply wA | apply wN | apply wD | refine below_set ?_ GE303.out | refine below_set ?_ GE304.out) | exact HB.out))) : w.heap.size ≤ gb306))
       have n5_ := ak ((by rw [hg]; exact (below_size (by repeat (first | (with_reducible first | exact HB.out | apply wA | apply wN | apply wD | refine below_set ?_ GE303.out | refine below_set ?_ GE304.out) | exact HB.out))) : w.heap.size ≤ gb306))
       have n6_ := ak ((by rw [hg]; exact Nat.ne_of_lt (blk_lt (g := gb303) (o := .cells #[.int .i64 a0_0, .int .i64 a0_1, .int .i64 a0_2, .int .i64 a0_3, .int .i64 a0_4, .int .i64 a0_5] 37 (0, 0)) (by (with_reducible repeat (first | refine bN ?_ _ | refine bD ?_ | refine bA ?_ _)); exact BK303.out)) : gb303 ≠ gb306))
       have n7_ := ak ((by rw [hg]; exact Nat.ne_of_gt (blk_lt (g := gb303) (o := .cells #[.int .i64 a0_0, .int .i64 a0_1, .int .i64 a0_2, .int .i64 a0_3, .int .i64 a0_4, .int .i64 a0_5] 37 (0, 0)) (by (with_reducible repeat (first | refine bN ?_ _ | refine bD ?_ | refine bA ?_ _)); exact BK303.out)) : gb306 ≠ gb303))
       have n8_ := ak ((by rw [hg]; exact Nat.ne_of_lt (blk_lt (g := gb304) (o := .cells #[.int .i64 0, .int .i64 0] 24 (0, 0)) (by (with_reducible repeat (first | refine bN ?_ _ | refine bD ?_ | refine bA ?_ _)); exact BK304.out)) : gb304 ≠ gb306))
       have n9_ := ak ((by rw [hg]; exact Nat.ne_of_gt (blk_lt (g := gb304) (o := .cells #[.int .i64 0, .int .i64 0] 24 (0, 0)) (by (with_reducible repeat (first | refine bN ?_ _ | refine bD ?_ | refine bA ?_ _)); exact BK304.out)) : gb306 ≠ gb304))
       clear BK303 BK304 HB
       have BK303 := n0_
       have BK304 := n1_
       have HB := n2_
       have BK306 := n3_
       have GW306 := n4_
       have GE306 := n5_
       have NB303_306 := n6_
       have NB306_303 := n7_
       have NB304_306 := n8_
       have NB306_304 := n9_
       clear n0_ n1_ n2_ n3_ n4_ n5_ n6_ n7_ n8_ n9_ hb hbox hg
       refine hK.out _ _ ⟨(blk_cell BK303.out 0).trans rfl, (blk_cell BK303.out 1).trans rfl, (blk_cell BK303.out 2).trans rfl, (blk_cell BK303.out 3).trans rfl, (blk_cell BK303.out 4).trans rfl, (blk_cell BK303.out 5).trans rfl⟩ (fun hHeld => ?_)
       clear hK K
       refine norm_ (a' := ?_) ?_ ?_
       rotate_left
       ·show Act.put _ (some 5) _ = _
        simp only [Act.put, sA_, s0_, s1_, i64_w, i32_w]
        rfl
       exact norm_ (by first | (simp only [putAll, Act.put, sA_, s0_, s1_]; done) | (simp only [putAll, Act.put, sA_, s0_, s1_]; rfl)) (hJ6_8 (gb304, gb306) _ ⟨hHeld, (by (with_reducible repeat (first | refine bN ?_ _ | refine bD ?_ | refine bA ?_ _)); exact BK303.out), (by (with_reducible repeat (first | refine bN ?_ _ | refine bD ?_ | refine bA ?_ _)); exact BK304.out), (by (with_reducible repeat (first | refine bN ?_ _ | refine bD ?_ | refine bA ?_ _)); exact BK306.out), GW304.out, GE304.out, NB303_304.out, NB304_303.out, NB306_304.out, NB304_306.out, GW306.out, GE306.out, NB303_306.out, NB306_303.out, (by repeat (first | (with_reducible first | exact HB.out | apply wA | apply wN | apply wD | refine below_set ?_ GE303.out | refine below_set ?_ GE304.out | refine below_set ?_ GE306.out) | exact HB.out))⟩)
    ·skip
     rintro ⟨gb305, gb306⟩ w7 ⟨hS_, h0_, h1_, h2_, h3_, h4_, h5_, h6_, h7_, h8_, h9_, h10_, h11_, h12_, h13_⟩
     have n0_ : Aside0 (w7.heap[gb303]? = some (.cells #[.int .i64 a0_0, .int .i64 a0_1, .int .i64 a0_2, .int .i64 a0_3, .int .i64 a0_4, .int .i64 a0_5] 37 (0, 0))) := ⟨h0_⟩
     have n1_ : Aside0 (w7.heap[gb305]? = some (.cells #[.int .i64 0, .int .i64 0] 24 (0, 0))) := ⟨h1_⟩
     have n2_ : Aside0 (w7.heap[gb306]? = some (.cells #[.int .i64 0, .int .i64 0] 24 (0, 0))) := ⟨h2_⟩
     have n3_ : Aside0 (w.heap.size ≤ gb305) := ⟨h3_⟩
     have n4_ : Aside0 (w.heap.size ≤ gb305) := ⟨h4_⟩
     have n5_ : Aside0 (gb303 ≠ gb305) := ⟨h5_⟩
     have n6_ : Aside0 (gb305 ≠ gb303) := ⟨h6_⟩
     have n7_ : Aside0 (gb306 ≠ gb305) := ⟨h7_⟩
     have n8_ : Aside0 (gb305 ≠ gb306) := ⟨h8_⟩
     have n9_ : Aside0 (w.heap.size ≤ gb306) := ⟨h9_⟩
     have n10_ : Aside0 (w.heap.size ≤ gb306) := ⟨h10_⟩
     have n11_ : Aside0 (gb303 ≠ gb306) := ⟨h11_⟩
     have n12_ : Aside0 (gb306 ≠ gb303) := ⟨h12_⟩
     have n13_ : Aside0 (Below w.heap.size w w7) := ⟨h13_⟩
     clear BK303 HB h0_ h1_ h2_ h3_ h4_ h5_ h6_ h7_ h8_ h9_ h10_ h11_ h12_ h13_
     have BK303 := n0_
     have BK305 := n1_
     have BK306 := n2_
     have GW305 := n3_
     have GE305 := n4_
     have NB303_305 := n5_
     have NB305_303 := n6_
     have NB306_305 := n7_
     have NB305_306 := n8_
     have GW306 := n9_
     have GE306 := n10_
     have NB303_306 := n11_
     have NB306_303 := n12_
     have HB := n13_
     clear n0_ n1_ n2_ n3_ n4_ n5_ n6_ n7_ n8_ n9_ n10_ n11_ n12_ n13_
     have hHeld : w7.cell? ⟨gb303, 0, none⟩ = some (.int .i64 a0_0) ∧ w7.cell? ⟨gb303, 1, none⟩ = some (.int .i64 a0_1) ∧ w7.cell? ⟨gb303, 2, none⟩ = some (.int .i64 a0_2) ∧ w7.cell? ⟨gb303, 3, none⟩ = some (.int .i64 a0_3) ∧ w7.cell? ⟨gb303, 4, none⟩ = some (.int .i64 a0_4) ∧ w7.cell? ⟨gb303, 5, none⟩ = some (.int .i64 a0_5) := hS_
     refine norm_ (a' := ?_) ?_ ?_
     rotate_left
     ·simp only [putAll, Act.put, sA_, s0_, s1_]
      rfl
     refine one_ (i := 6) (N := some 3) q4_0 rfl rfl (one_of HT_.out (by kernel_rfl)) (by decide) (fun K hK => ?_)
     refine box_step ?hg (N := 3) ?hd (cs := #[.int .i64 0, .int .i64 0]) (t := 24) ?hr ?_; (case hd => rfl); (case hg => rfl); (case hr => first | (go_simp; done) | (go_simp; rfl))
     intro gb304 hg w8 hbox hb
     have n0_ := ak (blk_below (g := gb303) (o := .cells #[.int .i64 a0_0, .int .i64 a0_1, .int .i64 a0_2, .int .i64 a0_3, .int .i64 a0_4, .int .i64 a0_5] 37 (0, 0)) (by (with_reducible repeat (first | refine bN ?_ _ | refine bD ?_ | refine bA ?_ _)); exact BK303.out) hb)
     have n1_ := ak (blk_below (g := gb305) (o := .cells #[.int .i64 0, .int .i64 0] 24 (0, 0)) (by (with_reducible repeat (first | refine bN ?_ _ | refine bD ?_ | refine bA ?_ _)); exact BK305.out) hb)
     have n2_ := ak (blk_below (g := gb306) (o := .cells #[.int .i64 0, .int .i64 0] 24 (0, 0)) (by (with_reducible repeat (first | refine bN ?_ _ | refine bD ?_ | refine bA ?_ _)); exact BK306.out) hb)
     have n3_ := ak (below_step (by repeat (first | (with_reducible first | exact HB.out | apply wA | apply wN | apply wD | refine below_set ?_ GE303.out | refine below_set ?_ GE305.out | refine below_set ?_ GE306.out) | exact HB.out)) hb)
     have n4_ := ak (hbox)
     have n5_ := ak ((by rw [hg]; exact (below_size (by repeat (first | (with_reducible first | exact HB.out | apply wA | apply wN | apply wD | refine below_set ?_ GE303.out | refine below_set ?_ GE305.out | refine below_set ?_ GE306.out) | exact HB.out))) : w.heap.size ≤ gb304))
     have n6_ := ak ((by rw [hg]; exact (below_size (by repeat (first | (with_reducible first | exact HB.out | apply wA | apply wN | apply wD | refine below_set ?_ GE303.out | refine below_set ?_ GE305.out | refine below_set ?_ GE306.out) | exact HB.out))) : w.heap.size ≤ gb304))
     have n7_ := ak ((by rw [hg]; exact Nat.ne_of_lt (blk_lt (g := gb303) (o := .cells #[.int .i64 a0_0, .int .i64 a0_1, .int .i64 a0_2, .int .i64 a0_3, .int .i64 a0_4, .int .i64 a0_5] 37 (0, 0)) (by (with_reducible repeat (first | refine bN ?_ _ | refine bD ?_ | refine bA ?_ _)); exact BK303.out)) : gb303 ≠ gb304))
     have n8_ := ak ((by rw [hg]; exact Nat.ne_of_gt (blk_lt (g := gb303) (o := .cells #[.int .i64 a0_0, .int .i64 a0_1, .int .i64 a0_2, .int .i64 a0_3, .int .i64 a0_4, .int .i64 a0_5] 37 (0, 0)) (by (with_reducible repeat (first | refine bN ?_ _ | refine bD ?_ | refine bA ?_ _)); exact BK303.out)) : gb304 ≠ gb303))
     have n9_ := ak ((by rw [hg]; exact Nat.ne_of_lt (blk_lt (g := gb305) (o := .cells #[.int .i64 0, .int .i64 0] 24 (0, 0)) (by (with_reducible repeat (first | refine bN ?_ _ | refine bD ?_ | refine bA ?_ _)); exact BK305.out)) : gb305 ≠ gb304))
     have n10_ := ak ((by rw [hg]; exact Nat.ne_of_gt (blk_lt (g := gb305) (o := .cells #[.int .i64 0, .int .i64 0] 24 (0, 0)) (by (with_reducible repeat (first | refine bN ?_ _ | refine bD ?_ | refine bA ?_ _)); exact BK305.out)) : gb304 ≠ gb305))
     have n11_ := ak ((by rw [hg]; exact Nat.ne_of_lt (blk_lt (g := gb306) (o := .cells #[.int .i64 0, .int .i64 0] 24 (0, 0)) (by (with_reducible repeat (first | refine bN ?_ _ | refine bD ?_ | refine bA ?_ _)); exact BK306.out)) : gb306 ≠ gb304))
     have n12_ := ak ((by rw [hg]; exact Nat.ne_of_gt (blk_lt (g := gb306) (o := .cells #[.int .i64 0, .int .i64 0] 24 (0, 0)) (by (with_reducible repeat (first | refine bN ?_ _ | refine bD ?_ | refine bA ?_ _)); exact BK306.out)) : gb304 ≠ gb306))
     clear BK303 BK305 BK306 HB
     have BK303 := n0_
     have BK305 := n1_
     have BK306 := n2_
     have HB := n3_
     have BK304 := n4_
     have GW304 := n5_
     have GE304 := n6_
     have NB303_304 := n7_
     have NB304_303 := n8_
     have NB305_304 := n9_
     have NB304_305 := n10_
     have NB306_304 := n11_
     have NB304_306 := n12_
     clear n0_ n1_ n2_ n3_ n4_ n5_ n6_ n7_ n8_ n9_ n10_ n11_ n12_ hb hbox hg
     refine hK.out _ _ ⟨(blk_cell BK303.out 0).trans rfl, (blk_cell BK303.out 1).trans rfl, (blk_cell BK303.out 2).trans rfl, (blk_cell BK303.out 3).trans rfl, (blk_cell BK303.out 4).trans rfl, (blk_cell BK303.out 5).trans rfl⟩ (fun hHeld => ?_)
     clear hK K
     refine norm_ (a' := ?_) ?_ ?_
     rotate_left
     ·show Act.put _ (some 3) _ = _
      simp only [Act.put, sA_, s0_, s1_, i64_w, i32_w]
      rfl
     exact norm_ (by first | (simp only [putAll, Act.put, sA_, s0_, s1_]; done) | (simp only [putAll, Act.put, sA_, s0_, s1_]; rfl)) (hJ6_7_8 (gb304, gb305, gb306) _ ⟨hHeld, (by (with_reducible repeat (first | refine bN ?_ _ | refine bD ?_ | refine bA ?_ _)); exact BK303.out), (by (with_reducible repeat (first | refine bN ?_ _ | refine bD ?_ | refine bA ?_ _)); exact BK304.out), (by (with_reducible repeat (first | refine bN ?_ _ | refine bD ?_ | refine bA ?_ _)); exact BK305.out), (by (with_reducible repeat (first | refine bN ?_ _ | refine bD ?_ | refine bA ?_ _)); exact BK306.out), GW304.out, GE304.out, NB303_304.out, NB304_303.out, NB305_304.out, NB304_305.out, NB306_304.out, NB304_306.out, GW305.out, GE305.out, NB303_305.out, NB305_303.out, NB306_305.out, NB305_306.out, GW306.out, GE306.out, NB303_306.out, NB306_303.out, (by repeat (first | (with_reducible first | exact HB.out | apply wA | apply wN | apply wD | refine below_set ?_ GE303.out | refine below_set ?_ GE305.out | refine below_set ?_ GE306.out | refine below_set ?_ GE304.out) | exact HB.out))⟩)
   ·skip
    rintro ⟨gb304, gb306⟩ w7 ⟨hS_, h0_, h1_, h2_, h3_, h4_, h5_, h6_, h7_, h8_, h9_, h10_, h11_, h12_, h13_⟩
    have n0_ : Aside0 (w7.heap[gb303]? = some (.cells #[.int .i64 a0_0, .int .i64 a0_1, .int .i64 a0_2, .int .i64 a0_3, .int .i64 a0_4, .int .i64 a0_5] 37 (0, 0))) := ⟨h0_⟩
    have n1_ : Aside0 (w7.heap[gb304]? = some (.cells #[.int .i64 0, .int .i64 0] 24 (0, 0))) := ⟨h1_⟩
    have n2_ : Aside0 (w7.heap[gb306]? = some (.cells #[.int .i64 0, .int .i64 0] 24 (0, 0))) := ⟨h2_⟩
    have n3_ : Aside0 (w.heap.size ≤ gb304) := ⟨h3_⟩
    have n4_ : Aside0 (w.heap.size ≤ gb304) := ⟨h4_⟩
    have n5_ : Aside0 (gb303 ≠ gb304) := ⟨h5_⟩
    have n6_ : Aside0 (gb304 ≠ gb303) := ⟨h6_⟩
    have n7_ : Aside0 (gb306 ≠ gb304) := ⟨h7_⟩
    have n8_ : Aside0 (gb304 ≠ gb306) := ⟨h8_⟩
    have n9_ : Aside0 (w.heap.size ≤ gb306) := ⟨h9_⟩
    have n10_ : Aside0 (w.heap.size ≤ gb306) := ⟨h10_⟩
    have n11_ : Aside0 (gb303 ≠ gb306) := ⟨h11_⟩
    have n12_ : Aside0 (gb306 ≠ gb303) := ⟨h12_⟩
    have n13_ : Aside0 (Below w.heap.size w w7) := ⟨h13_⟩
    clear BK303 HB h0_ h1_ h2_ h3_ h4_ h5_ h6_ h7_ h8_ h9_ h10_ h11_ h12_ h13_
    have BK303 := n0_
    have BK304 := n1_
    have BK306 := n2_
    have GW304 := n3_
    have GE304 := n4_
    have NB303_304 := n5_
    have NB304_303 := n6_
    have NB306_304 := n7_
    have NB304_306 := n8_
    have GW306 := n9_
    have GE306 := n10_
    have NB303_306 := n11_
    have NB306_303 := n12_
    have HB := n13_
    clear n0_ n1_ n2_ n3_ n4_ n5_ n6_ n7_ n8_ n9_ n10_ n11_ n12_ n13_
    have hHeld : w7.cell? ⟨gb303, 0, none⟩ = some (.int .i64 a0_0) ∧ w7.cell? ⟨gb303, 1, none⟩ = some (.int .i64 a0_1) ∧ w7.cell? ⟨gb303, 2, none⟩ = some (.int .i64 a0_2) ∧ w7.cell? ⟨gb303, 3, none⟩ = some (.int .i64 a0_3) ∧ w7.cell? ⟨gb303, 4, none⟩ = some (.int .i64 a0_4) ∧ w7.cell? ⟨gb303, 5, none⟩ = some (.int .i64 a0_5) := hS_
    refine norm_ (a' := ?_) ?_ ?_
    rotate_left
    ·simp only [putAll, Act.put, sA_, s0_, s1_]
     rfl
    refine one_ (i := 7) (N := some 4) q4_0 rfl rfl (one_of HT_.out (by kernel_rfl)) (by decide) (fun K hK => ?_)
    refine box_step ?hg (N := 4) ?hd (cs := #[.int .i64 0, .int .i64 0]) (t := 24) ?hr ?_; (case hd => rfl); (case hg => rfl); (case hr => first | (go_simp; done) | (go_simp; rfl))
    intro gb305 hg w8 hbox hb
    have n0_ := ak (blk_below (g := gb303) (o := .cells #[.int .i64 a0_0, .int .i64 a0_1, .int .i64 a0_2, .int .i64 a0_3, .int .i64 a0_4, .int .i64 a0_5] 37 (0, 0)) (by (with_reducible repeat (first | refine bN ?_ _ | refine bD ?_ | refine bA ?_ _)); exact BK303.out) hb)
    have n1_ := ak (blk_below (g := gb304) (o := .cells #[.int .i64 0, .int .i64 0] 24 (0, 0)) (by (with_reducible repeat (first | refine bN ?_ _ | refine bD ?_ | refine bA ?_ _)); exact BK304.out) hb)
    have n2_ := ak (blk_below (g := gb306) (o := .cells #[.int .i64 0, .int .i64 0] 24 (0, 0)) (by (with_reducible repeat (first | refine bN ?_ _ | refine bD ?_ | refine bA ?_ _)); exact BK306.out) hb)
    have n3_ := ak (below_step (by repeat (first | (with_reducible first | exact HB.out | apply wA | apply wN | apply wD | refine below_set ?_ GE303.out | refine below_set ?_ GE304.out | refine below_set ?_ GE306.out) | exact HB.out)) hb)
    have n4_ := ak (hbox)
    have n5_ := ak ((by rw [hg]; exact (below_size (by repeat (first | (with_reducible first | exact HB.out | apply wA | apply wN | apply wD | refine below_set ?_ GE303.out | refine below_set ?_ GE304.out | refine below_set ?_ GE306.out) | exact HB.out))) : w.heap.size ≤ gb305))
    have n6_ := ak ((by rw [hg]; exact (below_size (by repeat (first | (with_reducible first | exact HB.out | apply wA | apply wN | apply wD | refine below_set ?_ GE303.out | refine below_set ?_ GE304.out | refine below_set ?_ GE306.out) | exact HB.out))) : w.heap.size ≤ gb305))
    have n7_ := ak ((by rw [hg]; exact Nat.ne_of_lt (blk_lt (g := gb303) (o := .cells #[.int .i64 a0_0, .int .i64 a0_1, .int .i64 a0_2, .int .i64 a0_3, .int .i64 a0_4, .int .i64 a0_5] 37 (0, 0)) (by (with_reducible repeat (first | refine bN ?_ _ | refine bD ?_ | refine bA ?_ _)); exact BK303.out)) : gb303 ≠ gb305))
    have n8_ := ak ((by rw [hg]; exact Nat.ne_of_gt (blk_lt (g := gb303) (o := .cells #[.int .i64 a0_0, .int .i64 a0_1, .int .i64 a0_2, .int .i64 a0_3, .int .i64 a0_4, .int .i64 a0_5] 37 (0, 0)) (by (with_reducible repeat (first | refine bN ?_ _ | refine bD ?_ | refine bA ?_ _)); exact BK303.out)) : gb305 ≠ gb303))
    have n9_ := ak ((by rw [hg]; exact Nat.ne_of_lt (blk_lt (g := gb304) (o := .cells #[.int .i64 0, .int .i64 0] 24 (0, 0)) (by (with_reducible repeat (first | refine bN ?_ _ | refine bD ?_ | refine bA ?_ _)); exact BK304.out)) : gb304 ≠ gb305))
    have n10_ := ak ((by rw [hg]; exact Nat.ne_of_gt (blk_lt (g := gb304) (o := .cells #[.int .i64 0, .int .i64 0] 24 (0, 0)) (by (with_reducible repeat (first | refine bN ?_ _ | refine bD ?_ | refine bA ?_ _)); exact BK304.out)) : gb305 ≠ gb304))
    have n11_ := ak ((by rw [hg]; exact Nat.ne_of_lt (blk_lt (g := gb306) (o := .cells #[.int .i64 0, .int .i64 0] 24 (0, 0)) (by (with_reducible repeat (first | refine bN ?_ _ | refine bD ?_ | refine bA ?_ _)); exact BK306.out)) : gb306 ≠ gb305))
    have n12_ := ak ((by rw [hg]; exact Nat.ne_of_gt (blk_lt (g := gb306) (o := .cells #[.int .i64 0, .int .i64 0] 24 (0, 0)) (by (with_reducible repeat (first | refine bN ?_ _ | refine bD ?_ | refine bA ?_ _)); exact BK306.out)) : gb305 ≠ gb306))
    clear BK303 BK304 BK306 HB
    have BK303 := n0_
    have BK304 := n1_
    have BK306 := n2_
    have HB := n3_
    have BK305 := n4_
    have GW305 := n5_
    have GE305 := n6_
    have NB303_305 := n7_
    have NB305_303 := n8_
    have NB304_305 := n9_
    have NB305_304 := n10_
    have NB306_305 := n11_
    have NB305_306 := n12_
    clear n0_ n1_ n2_ n3_ n4_ n5_ n6_ n7_ n8_ n9_ n10_ n11_ n12_ hb hbox hg
    refine hK.out _ _ ⟨(blk_cell BK303.out 0).trans rfl, (blk_cell BK303.out 1).trans rfl, (blk_cell BK303.out 2).trans rfl, (blk_cell BK303.out 3).trans rfl, (blk_cell BK303.out 4).trans rfl, (blk_cell BK303.out 5).trans rfl⟩ (fun hHeld => ?_)
    clear hK K
    refine norm_ (a' := ?_) ?_ ?_
    rotate_left
    ·show Act.put _ (some 4) _ = _
     simp only [Act.put, sA_, s0_, s1_, i64_w, i32_w]
     rfl
    exact norm_ (by first | (simp only [putAll, Act.put, sA_, s0_, s1_]; done) | (simp only [putAll, Act.put, sA_, s0_, s1_]; rfl)) (hJ6_7_8 (gb304, gb305, gb306) _ ⟨hHeld, (by (with_reducible repeat (first | refine bN ?_ _ | refine bD ?_ | refine bA ?_ _)); exact BK303.out), (by (with_reducible repeat (first | refine bN ?_ _ | refine bD ?_ | refine bA ?_ _)); exact BK304.out), (by (with_reducible repeat (first | refine bN ?_ _ | refine bD ?_ | refine bA ?_ _)); exact BK305.out), (by (with_reducible repeat (first | refine bN ?_ _ | refine bD ?_ | refine bA ?_ _)); exact BK306.out), GW304.out, GE304.out, NB303_304.out, NB304_303.out, NB305_304.out, NB304_305.out, NB306_304.out, NB304_306.out, GW305.out, GE305.out, NB303_305.out, NB305_303.out, NB306_305.out, NB305_306.out, GW306.out, GE306.out, NB303_306.out, NB306_303.out, (by repeat (first | (with_reducible first | exact HB.out | apply wA | apply wN | apply wD | refine below_set ?_ GE303.out | refine below_set ?_ GE304.out | refine below_set ?_ GE306.out | refine below_set ?_ GE305.out) | exact HB.out))⟩)
  ·skip
   rintro ⟨gb304, gb305⟩ w7 ⟨hS_, h0_, h1_, h2_, h3_, h4_, h5_, h6_, h7_, h8_, h9_, h10_, h11_, h12_, h13_⟩
   have n0_ : Aside0 (w7.heap[gb303]? = some (.cells #[.int .i64 a0_0, .int .i64 a0_1, .int .i64 a0_2, .int .i64 a0_3, .int .i64 a0_4, .int .i64 a0_5] 37 (0, 0))) := ⟨h0_⟩
   have n1_ : Aside0 (w7.heap[gb304]? = some (.cells #[.int .i64 0, .int .i64 0] 24 (0, 0))) := ⟨h1_⟩
   have n2_ : Aside0 (w7.heap[gb305]? = some (.cells #[.int .i64 0, .int .i64 0] 24 (0, 0))) := ⟨h2_⟩
   have n3_ : Aside0 (w.heap.size ≤ gb304) := ⟨h3_⟩
   have n4_ : Aside0 (w.heap.size ≤ gb304) := ⟨h4_⟩
   have n5_ : Aside0 (gb303 ≠ gb304) := ⟨h5_⟩
   have n6_ : Aside0 (gb304 ≠ gb303) := ⟨h6_⟩
   have n7_ : Aside0 (gb305 ≠ gb304) := ⟨h7_⟩
   have n8_ : Aside0 (gb304 ≠ gb305) := ⟨h8_⟩
   have n9_ : Aside0 (w.heap.size ≤ gb305) := ⟨h9_⟩
   have n10_ : Aside0 (w.heap.size ≤ gb305) := ⟨h10_⟩
   have n11_ : Aside0 (gb303 ≠ gb305) := ⟨h11_⟩
   have n12_ : Aside0 (gb305 ≠ gb303) := ⟨h12_⟩
   have n13_ : Aside0 (Below w.heap.size w w7) := ⟨h13_⟩
   clear BK303 HB h0_ h1_ h2_ h3_ h4_ h5_ h6_ h7_ h8_ h9_ h10_ h11_ h12_ h13_
   have BK303 := n0_
   have BK304 := n1_
   have BK305 := n2_
   have GW304 := n3_
   have GE304 := n4_
   have NB303_304 := n5_
   have NB304_303 := n6_
   have NB305_304 := n7_
   have NB304_305 := n8_
   have GW305 := n9_
   have GE305 := n10_
   have NB303_305 := n11_
   have NB305_303 := n12_
   have HB := n13_
   clear n0_ n1_ n2_ n3_ n4_ n5_ n6_ n7_ n8_ n9_ n10_ n11_ n12_ n13_
   have hHeld : w7.cell? ⟨gb303, 0, none⟩ = some (.int .i64 a0_0) ∧ w7.cell? ⟨gb303, 1, none⟩ = some (.int .i64 a0_1) ∧ w7.cell? ⟨gb303, 2, none⟩ = some (.int .i64 a0_2) ∧ w7.cell? ⟨gb303, 3, none⟩ = some (.int .i64 a0_3) ∧ w7.cell? ⟨gb303, 4, none⟩ = some (.int .i64 a0_4) ∧ w7.cell? ⟨gb303, 5, none⟩ = some (.int .i64 a0_5) := hS_
   refine norm_ (a' := ?_) ?_ ?_
   rotate_left
   ·simp only [putAll, Act.put, sA_, s0_, s1_]
    rfl
   refine one_ (i := 8) (N := some 5) q4_0 rfl rfl (one_of HT_.out (by kernel_rfl)) (by decide) (fun K hK => ?_)
   refine box_step ?hg (N := 5) ?hd (cs := #[.int .i64 0, .int .i64 0]) (t := 24) ?hr ?_; (case hd => rfl); (case hg => rfl); (case hr => first | (go_simp; done) | (go_simp; rfl))
   intro gb306 hg w8 hbox hb
   have n0_ := ak (blk_below (g := gb303) (o := .cells #[.int .i64 a0_0, .int .i64 a0_1, .int .i64 a0_2, .int .i64 a0_3, .int .i64 a0_4, .int .i64 a0_5] 37 (0, 0)) (by (with_reducible repeat (first | refine bN ?_ _ | refine bD ?_ | refine bA ?_ _)); exact BK303.out) hb)
   have n1_ := ak (blk_below (g := gb304) (o := .cells #[.int .i64 0, .int .i64 0] 24 (0, 0)) (by (with_reducible repeat (first | refine bN ?_ _ | refine bD ?_ | refine bA ?_ _)); exact BK304.out) hb)
   have n2_ := ak (blk_below (g := gb305) (o := .cells #[.int .i64 0, .int .i64 0] 24 (0, 0)) (by (with_reducible repeat (first | refine bN ?_ _ | refine bD ?_ | refine bA ?_ _)); exact BK305.out) hb)
   have n3_ := ak (below_step (by repeat (first | (with_reducible first | exact HB.out | apply wA | apply wN | apply wD | refine below_set ?_ GE303.out | refine below_set ?_ GE304.out | refine below_set ?_ GE305.out) | exact HB.out)) hb)
   have n4_ := ak (hbox)
   have n5_ := ak ((by rw [hg]; exact (below_size (by repeat (first | (with_reducible first | exact HB.out | apply wA | apply wN | apply wD | refine below_set ?_ GE303.out | refine below_set ?_ GE304.out | refine below_set ?_ GE305.out) | exact HB.out))) : w.heap.size ≤ gb306))
   have n6_ := ak ((by rw [hg]; exact (below_size (by repeat (first | (with_reducible first | exact HB.out | apply wA | apply wN | apply wD | refine below_set ?_ GE303.out | refine below_set ?_ GE304.out | refine below_set ?_ GE305.out) | exact HB.out))) : w.heap.size ≤ gb306))
   have n7_ := ak ((by rw [hg]; exact Nat.ne_of_lt (blk_lt (g := gb303) (o := .cells #[.int .i64 a0_0, .int .i64 a0_1, .int .i64 a0_2, .int .i64 a0_3, .int .i64 a0_4, .int .i64 a0_5] 37 (0, 0)) (by (with_reducible repeat (first | refine bN ?_ _ | refine bD ?_ | refine bA ?_ _)); exact BK303.out)) : gb303 ≠ gb306))
   have n8_ := ak ((by rw [hg]; exact Nat.ne_of_gt (blk_lt (g := gb303) (o := .cells #[.int .i64 a0_0, .int .i64 a0_1, .int .i64 a0_2, .int .i64 a0_3, .int .i64 a0_4, .int .i64 a0_5] 37 (0, 0)) (by (with_reducible repeat (first | refine bN ?_ _ | refine bD ?_ | refine bA ?_ _)); exact BK303.out)) : gb306 ≠ gb303))
   have n9_ := ak ((by rw [hg]; exact Nat.ne_of_lt (blk_lt (g := gb304) (o := .cells #[.int .i64 0, .int .i64 0] 24 (0, 0)) (by (with_reducible repeat (first | refine bN ?_ _ | refine bD ?_ | refine bA ?_ _)); exact BK304.out)) : gb304 ≠ gb306))
   have n10_ := ak ((by rw [hg]; exact Nat.ne_of_gt (blk_lt (g := gb304) (o := .cells #[.int .i64 0, .int .i64 0] 24 (0, 0)) (by (with_reducible repeat (first | refine bN ?_ _ | refine bD ?_ | refine bA ?_ _)); exact BK304.out)) : gb306 ≠ gb304))
   have n11_ := ak ((by rw [hg]; exact Nat.ne_of_lt (blk_lt (g := gb305) (o := .cells #[.int .i64 0, .int .i64 0] 24 (0, 0)) (by (with_reducible repeat (first | refine bN ?_ _ | refine bD ?_ | refine bA ?_ _)); exact BK305.out)) : gb305 ≠ gb306))
   have n12_ := ak ((by rw [hg]; exact Nat.ne_of_gt (blk_lt (g := gb305) (o := .cells #[.int .i64 0, .int .i64 0] 24 (0, 0)) (by (with_reducible repeat (first | refine bN ?_ _ | refine bD ?_ | refine bA ?_ _)); exact BK305.out)) : gb306 ≠ gb305))
   clear BK303 BK304 BK305 HB
   have BK303 := n0_
   have BK304 := n1_
   have BK305 := n2_
   have HB := n3_
   have BK306 := n4_
   have GW306 := n5_
   have GE306 := n6_
   have NB303_306 := n7_
   have NB306_303 := n8_
   have NB304_306 := n9_
   have NB306_304 := n10_
   have NB305_306 := n11_
   have NB306_305 := n12_
   clear n0_ n1_ n2_ n3_ n4_ n5_ n6_ n7_ n8_ n9_ n10_ n11_ n12_ hb hbox hg
   refine hK.out _ _ ⟨(blk_cell BK303.out 0).trans rfl, (blk_cell BK303.out 1).trans rfl, (blk_cell BK303.out 2).trans rfl, (blk_cell BK303.out 3).trans rfl, (blk_cell BK303.out 4).trans rfl, (blk_cell BK303.out 5).trans rfl⟩ (fun hHeld => ?_)
   clear hK K
   refine norm_ (a' := ?_) ?_ ?_
   rotate_left
   ·show Act.put _ (some 5) _ = _
    simp only [Act.put, sA_, s0_, s1_, i64_w, i32_w]
    rfl
   exact norm_ (by first | (simp only [putAll, Act.put, sA_, s0_, s1_]; done) | (simp only [putAll, Act.put, sA_, s0_, s1_]; rfl)) (hJ6_7_8 (gb304, gb305, gb306) _ ⟨hHeld, (by (with_reducible repeat (first | refine bN ?_ _ | refine bD ?_ | refine bA ?_ _)); exact BK303.out), (by (with_reducible repeat (first | refine bN ?_ _ | refine bD ?_ | refine bA ?_ _)); exact BK304.out), (by (with_reducible repeat (first | refine bN ?_ _ | refine bD ?_ | refine bA ?_ _)); exact BK305.out), (by (with_reducible repeat (first | refine bN ?_ _ | refine bD ?_ | refine bA ?_ _)); exact BK306.out), GW304.out, GE304.out, NB303_304.out, NB304_303.out, NB305_304.out, NB304_305.out, NB306_304.out, NB304_306.out, GW305.out, GE305.out, NB303_305.out, NB305_303.out, NB306_305.out, NB305_306.out, GW306.out, GE306.out, NB303_306.out, NB306_303.out, (by repeat (first | (with_reducible first | exact HB.out | apply wA | apply wN | apply wD | refine below_set ?_ GE303.out | refine below_set ?_ GE304.out | refine below_set ?_ GE305.out | refine below_set ?_ GE306.out) | exact HB.out))⟩)
 rintro ⟨gb304, gb305, gb306⟩ w8 ⟨hS_, h0_, h1_, h2_, h3_, h4_, h5_, h6_, h7_, h8_, h9_, h10_, h11_, h12_, h13_, h14_, h15_, h16_, h17_, h18_, h19_, h20_, h21_, h22_⟩
 have n0_ : Aside0 (w8.heap[gb303]? = some (.cells #[.int .i64 a0_0, .int .i64 a0_1, .int .i64 a0_2, .int .i64 a0_3, .int .i64 a0_4, .int .i64 a0_5] 37 (0, 0))) := ⟨h0_⟩
 have n1_ : Aside0 (w8.heap[gb304]? = some (.cells #[.int .i64 0, .int .i64 0] 24 (0, 0))) := ⟨h1_⟩
 have n2_ : Aside0 (w8.heap[gb305]? = some (.cells #[.int .i64 0, .int .i64 0] 24 (0, 0))) := ⟨h2_⟩
 have n3_ : Aside0 (w8.heap[gb306]? = some (.cells #[.int .i64 0, .int .i64 0] 24 (0, 0))) := ⟨h3_⟩
 have n4_ : Aside0 (w.heap.size ≤ gb304) := ⟨h4_⟩
 have n5_ : Aside0 (w.heap.size ≤ gb304) := ⟨h5_⟩
 have n6_ : Aside0 (gb303 ≠ gb304) := ⟨h6_⟩
 have n7_ : Aside0 (gb304 ≠ gb303) := ⟨h7_⟩
 have n8_ : Aside0 (gb305 ≠ gb304) := ⟨h8_⟩
 have n9_ : Aside0 (gb304 ≠ gb305) := ⟨h9_⟩
 have n10_ : Aside0 (gb306 ≠ gb304) := ⟨h10_⟩
 have n11_ : Aside0 (gb304 ≠ gb306) := ⟨h11_⟩
 have n12_ : Aside0 (w.heap.size ≤ gb305) := ⟨h12_⟩
 have n13_ : Aside0 (w.heap.size ≤ gb305) := ⟨h13_⟩
 have n14_ : Aside0 (gb303 ≠ gb305) := ⟨h14_⟩
 have n15_ : Aside0 (gb305 ≠ gb303) := ⟨h15_⟩
 have n16_ : Aside0 (gb306 ≠ gb305) := ⟨h16_⟩
 have n17_ : Aside0 (gb305 ≠ gb306) := ⟨h17_⟩
 have n18_ : Aside0 (w.heap.size ≤ gb306) := ⟨h18_⟩
 have n19_ : Aside0 (w.heap.size ≤ gb306) := ⟨h19_⟩
 have n20_ : Aside0 (gb303 ≠ gb306) := ⟨h20_⟩
 have n21_ : Aside0 (gb306 ≠ gb303) := ⟨h21_⟩
 have n22_ : Aside0 (Below w.heap.size w w8) := ⟨h22_⟩
 clear BK303 HB h0_ h1_ h2_ h3_ h4_ h5_ h6_ h7_ h8_ h9_ h10_ h11_ h12_ h13_ h14_ h15_ h16_ h17_ h18_ h19_ h20_ h21_ h22_
 have BK303 := n0_
 have BK304 := n1_
 have BK305 := n2_
 have BK306 := n3_
 have GW304 := n4_
 have GE304 := n5_
 have NB303_304 := n6_
 have NB304_303 := n7_
 have NB305_304 := n8_
 have NB304_305 := n9_
 have NB306_304 := n10_
 have NB304_306 := n11_
 have GW305 := n12_
 have GE305 := n13_
 have NB303_305 := n14_
 have NB305_303 := n15_
 have NB306_305 := n16_
 have NB305_306 := n17_
 have GW306 := n18_
 have GE306 := n19_
 have NB303_306 := n20_
 have NB306_303 := n21_
 have HB := n22_
 clear n0_ n1_ n2_ n3_ n4_ n5_ n6_ n7_ n8_ n9_ n10_ n11_ n12_ n13_ n14_ n15_ n16_ n17_ n18_ n19_ n20_ n21_ n22_
 have hHeld : w8.cell? ⟨gb303, 0, none⟩ = some (.int .i64 a0_0) ∧ w8.cell? ⟨gb303, 1, none⟩ = some (.int .i64 a0_1) ∧ w8.cell? ⟨gb303, 2, none⟩ = some (.int .i64 a0_2) ∧ w8.cell? ⟨gb303, 3, none⟩ = some (.int .i64 a0_3) ∧ w8.cell? ⟨gb303, 4, none⟩ = some (.int .i64 a0_4) ∧ w8.cell? ⟨gb303, 5, none⟩ = some (.int .i64 a0_5) := hS_
 refine norm_ (a' := ?_) ?_ ?_
 rotate_left
 ·simp only [putAll, Act.put, sA_, s0_, s1_]
  rfl
 refine one_ (i := 9) (N := none) #[Y,Y,Y,Y,Y,Y,Y,Y,Y,Y,Z,Z] rfl rfl (one_of HT_.out (by kernel_rfl)) (by decide) (fun K hK => ?_)
 have hs9 : w8.cell? ⟨gb304, 0, none⟩ = some (.int .i64 0) := (blk_cell BK304.out 0).trans rfl
 have hfs9 := blk_frozen BK304.out 0
 have hns9_0 := NB303_304.out
 have hns9_2 := NB305_304.out
 have hns9_3 := NB306_304.out
 have hms9_0 := NB304_303.out
 have hms9_2 := NB304_305.out
 have hms9_3 := NB304_306.out
 have hs10 : w8.cell? ⟨gb304, 1, none⟩ = some (.int .i64 0) := (blk_cell BK304.out 1).trans rfl
 have hfs10 := blk_frozen BK304.out 1
 have hns10_0 := NB303_304.out
 have hns10_2 := NB305_304.out
 have hns10_3 := NB306_304.out
 have hms10_0 := NB304_303.out
 have hms10_2 := NB304_305.out
 have hms10_3 := NB304_306.out
 refine skip_ (w1 := ?_) (by rfl) rfl ?_ ?_
 rotate_left
 ·go_simp
  rfl
 refine hK.out _ _ ⟨((cell_far (p := ⟨gb304, _, none⟩) NB303_304.out _).trans (((cell_far (p := ⟨gb304, _, none⟩) NB303_304.out _).trans (hHeld.1)))), ((cell_far (p := ⟨gb304, _, none⟩) NB303_304.out _).trans (((cell_far (p := ⟨gb304, _, none⟩) NB303_304.out _).trans (hHeld.2.1)))), ((cell_far (p := ⟨gb304, _, none⟩) NB303_304.out _).trans (((cell_far (p := ⟨gb304, _, none⟩) NB303_304.out _).trans (hHeld.2.2.1)))), ((cell_far (p := ⟨gb304, _, none⟩) NB303_304.out _).trans (((cell_far (p := ⟨gb304, _, none⟩) NB303_304.out _).trans (hHeld.2.2.2.1)))), ((cell_far (p := ⟨gb304, _, none⟩) NB303_304.out _).trans (((cell_far (p := ⟨gb304, _, none⟩) NB303_304.out _).trans (hHeld.2.2.2.2.1)))), ((cell_far (p := ⟨gb304, _, none⟩) NB303_304.out _).trans (((cell_far (p := ⟨gb304, _, none⟩) NB303_304.out _).trans (hHeld.2.2.2.2.2))))⟩ (fun hHeld => ?_)
 clear hK K
 refine one_ (i := 10) (N := none) #[Y,Y,Y,Y,Y,Y,Y,Y,Y,Y,Y,Z] rfl rfl (one_of HT_.out (by kernel_rfl)) (by decide) (fun K hK => ?_)
 have hs11 : w8.cell? ⟨gb305, 0, none⟩ = some (.int .i64 0) := (blk_cell BK305.out 0).trans rfl
 have hfs11 := blk_frozen BK305.out 0
 have hns11_0 := NB303_305.out
 have hns11_1 := NB304_305.out
 have hns11_3 := NB306_305.out
 have hms11_0 := NB305_303.out
 have hms11_1 := NB305_304.out
 have hms11_3 := NB305_306.out
 have hs12 : w8.cell? ⟨gb305, 1, none⟩ = some (.int .i64 0) := (blk_cell BK305.out 1).trans rfl
 have hfs12 := blk_frozen BK305.out 1
 have hns12_0 := NB303_305.out
 have hns12_1 := NB304_305.out
 have hns12_3 := NB306_305.out
 have hms12_0 := NB305_303.out
 have hms12_1 := NB305_304.out
 have hms12_3 := NB305_306.out
 refine skip_ (w1 := ?_) (by rfl) rfl ?_ ?_
 rotate_left
 ·go_simp
  rfl
 refine hK.out _ _ ⟨((cell_far (p := ⟨gb305, _, none⟩) NB303_305.out _).trans (((cell_far (p := ⟨gb305, _, none⟩) NB303_305.out _).trans (hHeld.1)))), ((cell_far (p := ⟨gb305, _, none⟩) NB303_305.out _).trans (((cell_far (p := ⟨gb305, _, none⟩) NB303_305.out _).trans (hHeld.2.1)))), ((cell_far (p := ⟨gb305, _, none⟩) NB303_305.out _).trans (((cell_far (p := ⟨gb305, _, none⟩) NB303_305.out _).trans (hHeld.2.2.1)))), ((cell_far (p := ⟨gb305, _, none⟩) NB303_305.out _).trans (((cell_far (p := ⟨gb305, _, none⟩) NB303_305.out _).trans (hHeld.2.2.2.1)))), ((cell_far (p := ⟨gb305, _, none⟩) NB303_305.out _).trans (((cell_far (p := ⟨gb305, _, none⟩) NB303_305.out _).trans (hHeld.2.2.2.2.1)))), ((cell_far (p := ⟨gb305, _, none⟩) NB303_305.out _).trans (((cell_far (p := ⟨gb305, _, none⟩) NB303_305.out _).trans (hHeld.2.2.2.2.2))))⟩ (fun hHeld => ?_)
 clear hK K
 refine one_ (i := 11) (N := none) #[Y,Y,Y,Y,Y,Y,Y,Y,Y,Y,Y,Y] rfl rfl (one_of HT_.out (by kernel_rfl)) (by decide) (fun K hK => ?_)
 have hs13 : w8.cell? ⟨gb306, 0, none⟩ = some (.int .i64 0) := (blk_cell BK306.out 0).trans rfl
 have hfs13 := blk_frozen BK306.out 0
 have hns13_0 := NB303_306.out
 have hns13_1 := NB304_306.out
 have hns13_2 := NB305_306.out
 have hms13_0 := NB306_303.out
 have hms13_1 := NB306_304.out
 have hms13_2 := NB306_305.out
 have hs14 : w8.cell? ⟨gb306, 1, none⟩ = some (.int .i64 0) := (blk_cell BK306.out 1).trans rfl
 have hfs14 := blk_frozen BK306.out 1
 have hns14_0 := NB303_306.out
 have hns14_1 := NB304_306.out
 have hns14_2 := NB305_306.out
 have hms14_0 := NB306_303.out
 have hms14_1 := NB306_304.out
 have hms14_2 := NB306_305.out
 refine skip_ (w1 := ?_) (by rfl) rfl ?_ ?_
 rotate_left
 ·go_simp
  rfl
 refine hK.out _ _ ⟨((cell_far (p := ⟨gb306, _, none⟩) NB303_306.out _).trans (((cell_far (p := ⟨gb306, _, none⟩) NB303_306.out _).trans (hHeld.1)))), ((cell_far (p := ⟨gb306, _, none⟩) NB303_306.out _).trans (((cell_far (p := ⟨gb306, _, none⟩) NB303_306.out _).trans (hHeld.2.1)))), ((cell_far (p := ⟨gb306, _, none⟩) NB303_306.out _).trans (((cell_far (p := ⟨gb306, _, none⟩) NB303_306.out _).trans (hHeld.2.2.1)))), ((cell_far (p := ⟨gb306, _, none⟩) NB303_306.out _).trans (((cell_far (p := ⟨gb306, _, none⟩) NB303_306.out _).trans (hHeld.2.2.2.1)))), ((cell_far (p := ⟨gb306, _, none⟩) NB303_306.out _).trans (((cell_far (p := ⟨gb306, _, none⟩) NB303_306.out _).trans (hHeld.2.2.2.2.1)))), ((cell_far (p := ⟨gb306, _, none⟩) NB303_306.out _).trans (((cell_far (p := ⟨gb306, _, none⟩) NB303_306.out _).trans (hHeld.2.2.2.2.2))))⟩ (fun hHeld => ?_)
 clear hK K
 refine done_ (done_of HT_.out (by kernel_rfl)) ?_
 go_upto_region 2 with (fail)
 go_cut [40] (fun v40 wc => ∃ (kq : Nat) (x40_1 : Bool), v40 = .bool x40_1 ∧ Aside0 (mummerlaw03_SpansOrder.j0 kq x40_1 a0_0 a0_1 a0_2 a0_3 a0_4 a0_5 = some r) ∧ Aside0 (kq ≤ k) ∧ Aside0 (wc.heap[gb303]? = some (.cells #[.int .i64 a0_0, .int .i64 a0_1, .int .i64 a0_2, .int .i64 a0_3, .int .i64 a0_4, .int .i64 a0_5] 37 (0, 0))) ∧ Aside0 (wc.heap[gb304]? = some (.cells #[.int .i64 a0_0, .int .i64 a0_1] 24 (0, 0))) ∧ Aside0 (wc.heap[gb305]? = some (.cells #[.int .i64 a0_2, .int .i64 a0_3] 24 (0, 0))) ∧ Aside0 (wc.heap[gb306]? = some (.cells #[.int .i64 a0_4, .int .i64 a0_5] 24 (0, 0))) ∧ Aside0 (Below w.heap.size w wc))
 case first =>
  have H := HC2.out
  clear HC2
  replace H := Option.bind_eq_some_iff.mp H
  obtain ⟨t307, A150, H⟩ := H
  replace H : (if t307 = true then ((mummerlaw03_valid.f a0_2 a0_3).bind fun t308 => (if t308 = true then ((mummerlaw03_valid.f a0_4 a0_5).bind fun t309 => (mummerlaw03_SpansOrder.j0 k (!t309) a0_0 a0_1 a0_2 a0_3 a0_4 a0_5)) else (mummerlaw03_SpansOrder.j0 k true a0_0 a0_1 a0_2 a0_3 a0_4 a0_5))) else (mummerlaw03_SpansOrder.j0 k true a0_0 a0_1 a0_2 a0_3 a0_4 a0_5)) = some r := H
  have A15 := ak A150
  clear A150
  by_cases c16 : t307 = true
  ·subst c16
   have H1 : ((mummerlaw03_valid.f a0_2 a0_3).bind fun t308 => (if t308 = true then ((mummerlaw03_valid.f a0_4 a0_5).bind fun t309 => (mummerlaw03_SpansOrder.j0 k (!t309) a0_0 a0_1 a0_2 a0_3 a0_4 a0_5)) else (mummerlaw03_SpansOrder.j0 k true a0_0 a0_1 a0_2 a0_3 a0_4 a0_5))) = some r := by rw [if_pos rfl] at H; exact H
   clear H
   have H := H1
   clear H1
   replace H := Option.bind_eq_some_iff.mp H
   obtain ⟨t308, A170, H⟩ := H
   replace H : (if t308 = true then ((mummerlaw03_valid.f a0_4 a0_5).bind fun t309 => (mummerlaw03_SpansOrder.j0 k (!t309) a0_0 a0_1 a0_2 a0_3 a0_4 a0_5)) else (mummerlaw03_SpansOrder.j0 k true a0_0 a0_1 a0_2 a0_3 a0_4 a0_5)) = some r := H
   have A17 := ak A170
   clear A170
   by_cases c18 : t308 = true
   ·subst c18
    have H1 : ((mummerlaw03_valid.f a0_4 a0_5).bind fun t309 => (mummerlaw03_SpansOrder.j0 k (!t309) a0_0 a0_1 a0_2 a0_3 a0_4 a0_5)) = some r := by rw [if_pos rfl] at H; exact H
    clear H
    have H := H1
    clear H1
    replace H := Option.bind_eq_some_iff.mp H
    obtain ⟨t309, A190, H⟩ := H
    replace H : (mummerlaw03_SpansOrder.j0 k (!t309) a0_0 a0_1 a0_2 a0_3 a0_4 a0_5) = some r := H
    have A19 := ak A190
    clear A190
    have H' := ak H
    clear H
    have hnb20 := NB304_303.out
    have hnc20 := NB303_304.out
    have hnb21 := NB304_305.out
    have hnc21 := NB305_304.out
    have hnb22 := NB304_306.out
    have hnc22 := NB306_304.out
    have hcz23_0 : w8.cell? ⟨gb304, 0, none⟩ = some (.int .i64 0) := (blk_cell BK304.out 0).trans rfl
    have hcz23_1 : w8.cell? ⟨gb304, 1, none⟩ = some (.int .i64 0) := (blk_cell BK304.out 1).trans rfl
    have hfz23_0 := blk_frozen BK304.out 0
    have hfz23_1 := blk_frozen BK304.out 1
    go_wp2_with (first | ((with_reducible refine gate_callee (f := 18) rfl ?_); refine goesL_ (some 29) rfl rfl Tryd.func18 (by kernel_rfl) rfl #[.agg #[.int .i64 a0_0, .int .i64 a0_1]] rfl (by (try simp only [List.map_toArray, List.map_cons, List.map_nil]); first | done | rfl | (simp only [List.length_drop, List.length_take]; rfl)) ?_; (with_reducible refine (mummerlaw03_valid.calls a0_0 a0_1 true _ A15.out).mono ?_); rintro e w24 ⟨rfl, hb⟩; refine ⟨_, rfl, ?_⟩; have n0_ := ak (blk_below (g := gb303) (o := .cells #[.int .i64 a0_0, .int .i64 a0_1, .int .i64 a0_2, .int .i64 a0_3, .int .i64 a0_4, .int .i64 a0_5] 37 (0, 0)) (by (with_reducible repeat (first | refine bN ?_ _ | refine bD ?_ | refine bA ?_ _)); refine blk_far ?_ NB303_306.out _; (with_reducible repeat (first | refine bN ?_ _ | refine bD ?_ | refine bA ?_ _)); refine blk_far ?_ NB303_306.out _; (with_reducible repeat (first | refine bN ?_ _ | refine bD ?_ | refine bA ?_ _)); refine blk_far ?_ NB303_305.out _; (with_reducible repeat (first | refine bN ?_ _ | refine bD ?_ | refine bA ?_ _)); refine blk_far ?_ NB303_305.out _; (with_reducible repeat (first | refine bN ?_ _ | refine bD ?_ | refine bA ?_ _)); refine blk_far ?_ NB303_304.out _; (with_reducible repeat (first | refine bN ?_ _ | refine bD ?_ | refine bA ?_ _)); refine blk_far ?_ NB303_304.out _; (with_reducible repeat (first | refine bN ?_ _ | refine bD ?_ | refine bA ?_ _)); exact BK303.out) hb); have n1_ := ak (blk_below (g := gb304) (o := .cells #[.int .i64 a0_0, .int .i64 a0_1] 24 (0, 0)) (by (with_reducible repeat (first | refine bN ?_ _ | refine bD ?_ | refine bA ?_ _)); refine blk_far ?_ NB304_306.out _; (with_reducible repeat (first | refine bN ?_ _ | refine bD ?_ | refine bA ?_ _)); refine blk_far ?_ NB304_306.out _; (with_reducible repeat (first | refine bN ?_ _ | refine bD ?_ | refine bA ?_ _)); refine blk_far ?_ NB304_305.out _; (with_reducible repeat (first | refine bN ?_ _ | refine bD ?_ | refine bA ?_ _)); refine blk_far ?_ NB304_305.out _; (with_reducible repeat (first | refine bN ?_ _ | refine bD ?_ | refine bA ?_ _)); refine blk_put (cs := #[.int .i64 a0_0, .int .i64 0]) ?_ 1 _ rfl; (with_reducible repeat (first | refine bN ?_ _ | refine bD ?_ | refine bA ?_ _)); refine blk_put (cs := #[.int .i64 0, .int .i64 0]) ?_ 0 _ rfl; (with_reducible repeat (first | refine bN ?_ _ | refine bD ?_ | refine bA ?_ _)); exact BK304.out) hb); have n2_ := ak (blk_below (g := gb305) (o := .cells #[.int .i64 a0_2, .int .i64 a0_3] 24 (0, 0)) (by (with_reducible repeat (first | refine bN ?_ _ | refine bD ?_ | refine bA ?_ _)); refine blk_far ?_ NB305_306.out _; (with_reducible repeat (first | refine bN ?_ _ | refine bD ?_ | refine bA ?_ _)); refine blk_far ?_ NB305_306.out _; (with_reducible repeat (first | refine bN ?_ _ | refine bD ?_ | refine bA ?_ _)); refine blk_put (cs := #[.int .i64 a0_2, .int .i64 0]) ?_ 1 _ rfl; (with_reducible repeat (first | refine bN ?_ _ | refine bD ?_ | refine bA ?_ _)); refine blk_put (cs := #[.int .i64 0, .int .i64 0]) ?_ 0 _ rfl; (with_reducible repeat (first | refine bN ?_ _ | refine bD ?_ | refine bA ?_ _)); refine blk_far ?_ NB305_304.out _; (with_reducible repeat (first | refine bN ?_ _ | refine bD ?_ | refine bA ?_ _)); refine blk_far ?_ NB305_304.out _; (with_reducible repeat (first | refine bN ?_ _ | refine bD ?_ | refine bA ?_ _)); exact BK305.out) hb); have n3_ := ak (blk_below (g := gb306) (o := .cells #[.int .i64 a0_4, .int .i64 a0_5] 24 (0, 0)) (by (with_reducible repeat (first | refine bN ?_ _ | refine bD ?_ | refine bA ?_ _)); refine blk_put (cs := #[.int .i64 a0_4, .int .i64 0]) ?_ 1 _ rfl; (with_reducible repeat (first | refine bN ?_ _ | refine bD ?_ | refine bA ?_ _)); refine blk_put (cs := #[.int .i64 0, .int .i64 0]) ?_ 0 _ rfl; (with_reducible repeat (first | refine bN ?_ _ | refine bD ?_ | refine bA ?_ _)); refine blk_far ?_ NB306_305.out _; (with_reducible repeat (first | refine bN ?_ _ | refine bD ?_ | refine bA ?_ _)); refine blk_far ?_ NB306_305.out _; (with_reducible repeat (first | refine bN ?_ _ | refine bD ?_ | refine bA ?_ _)); refine blk_far ?_ NB306_304.out _; (with_reducible repeat (first | refine bN ?_ _ | refine bD ?_ | refine bA ?_ _)); refine blk_far ?_ NB306_304.out _; (with_reducible repeat (first | refine bN ?_ _ | refine bD ?_ | refine bA ?_ _)); exact BK306.out) hb); have n4_ := ak (below_step (by repeat (first | (with_reducible first | exact HB.out | apply wA | apply wN | apply wD | refine below_set ?_ GE303.out | refine below_set ?_ GE304.out | refine below_set ?_ GE305.out | refine below_set ?_ GE306.out) | exact HB.out)) hb); clear BK303; clear BK304; clear BK305; clear BK306; clear HB; have BK303 := n0_; have BK304 := n1_; have BK305 := n2_; have BK306 := n3_; have HB := n4_; clear n0_ n1_ n2_ n3_ n4_; (try clear hb); (try clear hb2); (try clear hk); (try clear hi); have hnb25 := NB305_303.out; have hnc25 := NB303_305.out; have hnb26 := NB305_306.out; have hnc26 := NB306_305.out; have hcz27_0 : w24.cell? ⟨gb305, 0, none⟩ = some (.int .i64 a0_2) := (blk_cell BK305.out 0).trans rfl; have hcz27_1 : w24.cell? ⟨gb305, 1, none⟩ = some (.int .i64 a0_3) := (blk_cell BK305.out 1).trans rfl; have hfz27_0 := blk_frozen BK305.out 0; have hfz27_1 := blk_frozen BK305.out 1) | (go_at_call 18; (with_reducible refine (mummerlaw03_valid.calls a0_2 a0_3 true _ A17.out).mono ?_); rintro e w28 ⟨rfl, hb⟩; have n0_ := ak (blk_below (g := gb303) (o := .cells #[.int .i64 a0_0, .int .i64 a0_1, .int .i64 a0_2, .int .i64 a0_3, .int .i64 a0_4, .int .i64 a0_5] 37 (0, 0)) (by (with_reducible repeat (first | refine bN ?_ _ | refine bD ?_ | refine bA ?_ _)); exact BK303.out) hb); have n1_ := ak (blk_below (g := gb304) (o := .cells #[.int .i64 a0_0, .int .i64 a0_1] 24 (0, 0)) (by (with_reducible repeat (first | refine bN ?_ _ | refine bD ?_ | refine bA ?_ _)); exact BK304.out) hb); have n2_ := ak (blk_below (g := gb305) (o := .cells #[.int .i64 a0_2, .int .i64 a0_3] 24 (0, 0)) (by (with_reducible repeat (first | refine bN ?_ _ | refine bD ?_ | refine bA ?_ _)); exact BK305.out) hb); have n3_ := ak (blk_below (g := gb306) (o := .cells #[.int .i64 a0_4, .int .i64 a0_5] 24 (0, 0)) (by (with_reducible repeat (first | refine bN ?_ _ | refine bD ?_ | refine bA ?_ _)); exact BK306.out) hb); have n4_ := ak (below_step (by repeat (first | (with_reducible first | exact HB.out | apply wA | apply wN | apply wD | refine below_set ?_ GE303.out | refine below_set ?_ GE304.out | refine below_set ?_ GE305.out | refine below_set ?_ GE306.out) | exact HB.out)) hb); clear BK303; clear BK304; clear BK305; clear BK306; clear HB; have BK303 := n0_; have BK304 := n1_; have BK305 := n2_; have BK306 := n3_; have HB := n4_; clear n0_ n1_ n2_ n3_ n4_; (try clear hb); (try clear hb2); (try clear hk); (try clear hi); have hnb29 := NB306_303.out; have hnc29 := NB303_306.out; have hcz30_0 : w28.cell? ⟨gb306, 0, none⟩ = some (.int .i64 a0_4) := (blk_cell BK306.out 0).trans rfl; have hcz30_1 : w28.cell? ⟨gb306, 1, none⟩ = some (.int .i64 a0_5) := (blk_cell BK306.out 1).trans rfl; have hfz30_0 := blk_frozen BK306.out 0; have hfz30_1 := blk_frozen BK306.out 1) | (go_at_call 18; (with_reducible refine (mummerlaw03_valid.calls a0_4 a0_5 t309 _ A19.out).mono ?_); rintro e w31 ⟨rfl, hb⟩; have n0_ := ak (blk_below (g := gb303) (o := .cells #[.int .i64 a0_0, .int .i64 a0_1, .int .i64 a0_2, .int .i64 a0_3, .int .i64 a0_4, .int .i64 a0_5] 37 (0, 0)) (by (with_reducible repeat (first | refine bN ?_ _ | refine bD ?_ | refine bA ?_ _)); exact BK303.out) hb); have n1_ := ak (blk_below (g := gb304) (o := .cells #[.int .i64 a0_0, .int .i64 a0_1] 24 (0, 0)) (by (with_reducible repeat (first | refine bN ?_ _ | refine bD ?_ | refine bA ?_ _)); exact BK304.out) hb); have n2_ := ak (blk_below (g := gb305) (o := .cells #[.int .i64 a0_2, .int .i64 a0_3] 24 (0, 0)) (by (with_reducible repeat (first | refine bN ?_ _ | refine bD ?_ | refine bA ?_ _)); exact BK305.out) hb); have n3_ := ak (blk_below (g := gb306) (o := .cells #[.int .i64 a0_4, .int .i64 a0_5] 24 (0, 0)) (by (with_reducible repeat (first | refine bN ?_ _ | refine bD ?_ | refine bA ?_ _)); exact BK306.out) hb); have n4_ := ak (below_step (by repeat (first | (with_reducible first | exact HB.out | apply wA | apply wN | apply wD | refine below_set ?_ GE303.out | refine below_set ?_ GE304.out | refine below_set ?_ GE305.out | refine below_set ?_ GE306.out) | exact HB.out)) hb); clear BK303; clear BK304; clear BK305; clear BK306; clear HB; have BK303 := n0_; have BK304 := n1_; have BK305 := n2_; have BK306 := n3_; have HB := n4_; clear n0_ n1_ n2_ n3_ n4_; (try clear hb); (try clear hb2); (try clear hk); (try clear hi)))
    go_meet
    case rel => exact ⟨_, (!t309), (by first | rfl | (simp; done) | (simp [*]; done)), H', ⟨by first | omega | exact Nat.le_refl _⟩, ⟨by (with_reducible repeat (first | refine bN ?_ _ | refine bD ?_ | refine bA ?_ _)); exact BK303.out⟩, ⟨by (with_reducible repeat (first | refine bN ?_ _ | refine bD ?_ | refine bA ?_ _)); exact BK304.out⟩, ⟨by (with_reducible repeat (first | refine bN ?_ _ | refine bD ?_ | refine bA ?_ _)); exact BK305.out⟩, ⟨by (with_reducible repeat (first | refine bN ?_ _ | refine bD ?_ | refine bA ?_ _)); exact BK306.out⟩, ⟨by repeat (first | (with_reducible first | exact HB.out | apply wA | apply wN | apply wD | refine below_set ?_ GE303.out | refine below_set ?_ GE304.out | refine below_set ?_ GE305.out | refine below_set ?_ GE306.out) | exact HB.out)⟩⟩
   ·replace c18 := Bool.eq_false_iff.mpr c18
    subst c18
    have H1 : (mummerlaw03_SpansOrder.j0 k true a0_0 a0_1 a0_2 a0_3 a0_4 a0_5) = some r := by rw [if_neg (show ¬ (false = true) by decide)] at H; exact H
    clear H
    have H := H1
    clear H1
    have H' := ak H
    clear H
    have hnb32 := NB304_303.out
    have hnc32 := NB303_304.out
    have hnb33 := NB304_305.out
    have hnc33 := NB305_304.out
    have hnb34 := NB304_306.out
    have hnc34 := NB306_304.out
    have hcz35_0 : w8.cell? ⟨gb304, 0, none⟩ = some (.int .i64 0) := (blk_cell BK304.out 0).trans rfl
    have hcz35_1 : w8.cell? ⟨gb304, 1, none⟩ = some (.int .i64 0) := (blk_cell BK304.out 1).trans rfl
    have hfz35_0 := blk_frozen BK304.out 0
    have hfz35_1 := blk_frozen BK304.out 1
    go_wp2_with (first | ((with_reducible refine gate_callee (f := 18) rfl ?_); refine goesL_ (some 29) rfl rfl Tryd.func18 (by kernel_rfl) rfl #[.agg #[.int .i64 a0_0, .int .i64 a0_1]] rfl (by (try simp only [List.map_toArray, List.map_cons, List.map_nil]); first | done | rfl | (simp only [List.length_drop, List.length_take]; rfl)) ?_; (with_reducible refine (mummerlaw03_valid.calls a0_0 a0_1 true _ A15.out).mono ?_); rintro e w36 ⟨rfl, hb⟩; refine ⟨_, rfl, ?_⟩; have n0_ := ak (blk_below (g := gb303) (o := .cells #[.int .i64 a0_0, .int .i64 a0_1, .int .i64 a0_2, .int .i64 a0_3, .int .i64 a0_4, .int .i64 a0_5] 37 (0, 0)) (by (with_reducible repeat (first | refine bN ?_ _ | refine bD ?_ | refine bA ?_ _)); refine blk_far ?_ NB303_306.out _; (with_reducible repeat (first | refine bN ?_ _ | refine bD ?_ | refine bA ?_ _)); refine blk_far ?_ NB303_306.out _; (with_reducible repeat (first | refine bN ?_ _ | refine bD ?_ | refine bA ?_ _)); refine blk_far ?_ NB303_305.out _; (with_reducible repeat (first | refine bN ?_ _ | refine bD ?_ | refine bA ?_ _)); refine blk_far ?_ NB303_305.out _; (with_reducible repeat (first | refine bN ?_ _ | refine bD ?_ | refine bA ?_ _)); refine blk_far ?_ NB303_304.out _; (with_reducible repeat (first | refine bN ?_ _ | refine bD ?_ | refine bA ?_ _)); refine blk_far ?_ NB303_304.out _; (with_reducible repeat (first | refine bN ?_ _ | refine bD ?_ | refine bA ?_ _)); exact BK303.out) hb); have n1_ := ak (blk_below (g := gb304) (o := .cells #[.int .i64 a0_0, .int .i64 a0_1] 24 (0, 0)) (by (with_reducible repeat (first | refine bN ?_ _ | refine bD ?_ | refine bA ?_ _)); refine blk_far ?_ NB304_306.out _; (with_reducible repeat (first | refine bN ?_ _ | refine bD ?_ | refine bA ?_ _)); refine blk_far ?_ NB304_306.out _; (with_reducible repeat (first | refine bN ?_ _ | refine bD ?_ | refine bA ?_ _)); refine blk_far ?_ NB304_305.out _; (with_reducible repeat (first | refine bN ?_ _ | refine bD ?_ | refine bA ?_ _)); refine blk_far ?_ NB304_305.out _; (with_reducible repeat (first | refine bN ?_ _ | refine bD ?_ | refine bA ?_ _)); refine blk_put (cs := #[.int .i64 a0_0, .int .i64 0]) ?_ 1 _ rfl; (with_reducible repeat (first | refine bN ?_ _ | refine bD ?_ | refine bA ?_ _)); refine blk_put (cs := #[.int .i64 0, .int .i64 0]) ?_ 0 _ rfl; (with_reducible repeat (first | refine bN ?_ _ | refine bD ?_ | refine bA ?_ _)); exact BK304.out) hb); have n2_ := ak (blk_below (g := gb305) (o := .cells #[.int .i64 a0_2, .int .i64 a0_3] 24 (0, 0)) (by (with_reducible repeat (first | refine bN ?_ _ | refine bD ?_ | refine bA ?_ _)); refine blk_far ?_ NB305_306.out _; (with_reducible repeat (first | refine bN ?_ _ | refine bD ?_ | refine bA ?_ _)); refine blk_far ?_ NB305_306.out _; (with_reducible repeat (first | refine bN ?_ _ | refine bD ?_ | refine bA ?_ _)); refine blk_put (cs := #[.int .i64 a0_2, .int .i64 0]) ?_ 1 _ rfl; (with_reducible repeat (first | refine bN ?_ _ | refine bD ?_ | refine bA ?_ _)); refine blk_put (cs := #[.int .i64 0, .int .i64 0]) ?_ 0 _ rfl; (with_reducible repeat (first | refine bN ?_ _ | refine bD ?_ | refine bA ?_ _)); refine blk_far ?_ NB305_304.out _; (with_reducible repeat (first | refine bN ?_ _ | refine bD ?_ | refine bA ?_ _)); refine blk_far ?_ NB305_304.out _; (with_reducible repeat (first | refine bN ?_ _ | refine bD ?_ | refine bA ?_ _)); exact BK305.out) hb); have n3_ := ak (blk_below (g := gb306) (o := .cells #[.int .i64 a0_4, .int .i64 a0_5] 24 (0, 0)) (by (with_reducible repeat (first | refine bN ?_ _ | refine bD ?_ | refine bA ?_ _)); refine blk_put (cs := #[.int .i64 a0_4, .int .i64 0]) ?_ 1 _ rfl; (with_reducible repeat (first | refine bN ?_ _ | refine bD ?_ | refine bA ?_ _)); refine blk_put (cs := #[.int .i64 0, .int .i64 0]) ?_ 0 _ rfl; (with_reducible repeat (first | refine bN ?_ _ | refine bD ?_ | refine bA ?_ _)); refine blk_far ?_ NB306_305.out _; (with_reducible repeat (first | refine bN ?_ _ | refine bD ?_ | refine bA ?_ _)); refine blk_far ?_ NB306_305.out _; (with_reducible repeat (first | refine bN ?_ _ | refine bD ?_ | refine bA ?_ _)); refine blk_far ?_ NB306_304.out _; (with_reducible repeat (first | refine bN ?_ _ | refine bD ?_ | refine bA ?_ _)); refine blk_far ?_ NB306_304.out _; (with_reducible repeat (first | refine bN ?_ _ | refine bD ?_ | refine bA ?_ _)); exact BK306.out) hb); have n4_ := ak (below_step (by repeat (first | (with_reducible first | exact HB.out | apply wA | apply wN | apply wD | refine below_set ?_ GE303.out | refine below_set ?_ GE304.out | refine below_set ?_ GE305.out | refine below_set ?_ GE306.out) | exact HB.out)) hb); clear BK303; clear BK304; clear BK305; clear BK306; clear HB; have BK303 := n0_; have BK304 := n1_; have BK305 := n2_; have BK306 := n3_; have HB := n4_; clear n0_ n1_ n2_ n3_ n4_; (try clear hb); (try clear hb2); (try clear hk); (try clear hi); have hnb37 := NB305_303.out; have hnc37 := NB303_305.out; have hnb38 := NB305_306.out; have hnc38 := NB306_305.out; have hcz39_0 : w36.cell? ⟨gb305, 0, none⟩ = some (.int .i64 a0_2) := (blk_cell BK305.out 0).trans rfl; have hcz39_1 : w36.cell? ⟨gb305, 1, none⟩ = some (.int .i64 a0_3) := (blk_cell BK305.out 1).trans rfl; have hfz39_0 := blk_frozen BK305.out 0; have hfz39_1 := blk_frozen BK305.out 1) | (go_at_call 18; (with_reducible refine (mummerlaw03_valid.calls a0_2 a0_3 false _ A17.out).mono ?_); rintro e w40 ⟨rfl, hb⟩; have n0_ := ak (blk_below (g := gb303) (o := .cells #[.int .i64 a0_0, .int .i64 a0_1, .int .i64 a0_2, .int .i64 a0_3, .int .i64 a0_4, .int .i64 a0_5] 37 (0, 0)) (by (with_reducible repeat (first | refine bN ?_ _ | refine bD ?_ | refine bA ?_ _)); exact BK303.out) hb); have n1_ := ak (blk_below (g := gb304) (o := .cells #[.int .i64 a0_0, .int .i64 a0_1] 24 (0, 0)) (by (with_reducible repeat (first | refine bN ?_ _ | refine bD ?_ | refine bA ?_ _)); exact BK304.out) hb); have n2_ := ak (blk_below (g := gb305) (o := .cells #[.int .i64 a0_2, .int .i64 a0_3] 24 (0, 0)) (by (with_reducible repeat (first | refine bN ?_ _ | refine bD ?_ | refine bA ?_ _)); exact BK305.out) hb); have n3_ := ak (blk_below (g := gb306) (o := .cells #[.int .i64 a0_4, .int .i64 a0_5] 24 (0, 0)) (by (with_reducible repeat (first | refine bN ?_ _ | refine bD ?_ | refine bA ?_ _)); exact BK306.out) hb); have n4_ := ak (below_step (by repeat (first | (with_reducible first | exact HB.out | apply wA | apply wN | apply wD | refine below_set ?_ GE303.out | refine below_set ?_ GE304.out | refine below_set ?_ GE305.out | refine below_set ?_ GE306.out) | exact HB.out)) hb); clear BK303; clear BK304; clear BK305; clear BK306; clear HB; have BK303 := n0_; have BK304 := n1_; have BK305 := n2_; have BK306 := n3_; have HB := n4_; clear n0_ n1_ n2_ n3_ n4_; (try clear hb); (try clear hb2); (try clear hk); (try clear hi)))
    go_meet
    case rel => exact ⟨_, (true), (by first | rfl | (simp; done) | (simp [*]; done)), H', ⟨by first | omega | exact Nat.le_refl _⟩, ⟨by (with_reducible repeat (first | refine bN ?_ _ | refine bD ?_ | refine bA ?_ _)); exact BK303.out⟩, ⟨by (with_reducible repeat (first | refine bN ?_ _ | refine bD ?_ | refine bA ?_ _)); exact BK304.out⟩, ⟨by (with_reducible repeat (first | refine bN ?_ _ | refine bD ?_ | refine bA ?_ _)); exact BK305.out⟩, ⟨by (with_reducible repeat (first | refine bN ?_ _ | refine bD ?_ | refine bA ?_ _)); exact BK306.out⟩, ⟨by repeat (first | (with_reducible first | exact HB.out | apply wA | apply wN | apply wD | refine below_set ?_ GE303.out | refine below_set ?_ GE304.out | refine below_set ?_ GE305.out | refine below_set ?_ GE306.out) | exact HB.out)⟩⟩
  ·replace c16 := Bool.eq_false_iff.mpr c16
   subst c16
   have H1 : (mummerlaw03_SpansOrder.j0 k true a0_0 a0_1 a0_2 a0_3 a0_4 a0_5) = some r := by rw [if_neg (show ¬ (false = true) by decide)] at H; exact H
   clear H
   have H := H1
   clear H1
   have H' := ak H
   clear H
   have hnb41 := NB304_303.out
   have hnc41 := NB303_304.out
   have hnb42 := NB304_305.out
   have hnc42 := NB305_304.out
   have hnb43 := NB304_306.out
   have hnc43 := NB306_304.out
   have hcz44_0 : w8.cell? ⟨gb304, 0, none⟩ = some (.int .i64 0) := (blk_cell BK304.out 0).trans rfl
   have hcz44_1 : w8.cell? ⟨gb304, 1, none⟩ = some (.int .i64 0) := (blk_cell BK304.out 1).trans rfl
   have hfz44_0 := blk_frozen BK304.out 0
   have hfz44_1 := blk_frozen BK304.out 1
   go_wp2_with (first | ((with_reducible refine gate_callee (f := 18) rfl ?_); refine goesL_ (some 29) rfl rfl Tryd.func18 (by kernel_rfl) rfl #[.agg #[.int .i64 a0_0, .int .i64 a0_1]] rfl (by (try simp only [List.map_toArray, List.map_cons, List.map_nil]); first | done | rfl | (simp only [List.length_drop, List.length_take]; rfl)) ?_; (with_reducible refine (mummerlaw03_valid.calls a0_0 a0_1 false _ A15.out).mono ?_); rintro e w45 ⟨rfl, hb⟩; refine ⟨_, rfl, ?_⟩; have n0_ := ak (blk_below (g := gb303) (o := .cells #[.int .i64 a0_0, .int .i64 a0_1, .int .i64 a0_2, .int .i64 a0_3, .int .i64 a0_4, .int .i64 a0_5] 37 (0, 0)) (by (with_reducible repeat (first | refine bN ?_ _ | refine bD ?_ | refine bA ?_ _)); refine blk_far ?_ NB303_306.out _; (with_reducible repeat (first | refine bN ?_ _ | refine bD ?_ | refine bA ?_ _)); refine blk_far ?_ NB303_306.out _; (with_reducible repeat (first | refine bN ?_ _ | refine bD ?_ | refine bA ?_ _)); refine blk_far ?_ NB303_305.out _; (with_reducible repeat (first | refine bN ?_ _ | refine bD ?_ | refine bA ?_ _)); refine blk_far ?_ NB303_305.out _; (with_reducible repeat (first | refine bN ?_ _ | refine bD ?_ | refine bA ?_ _)); refine blk_far ?_ NB303_304.out _; (with_reducible repeat (first | refine bN ?_ _ | refine bD ?_ | refine bA ?_ _)); refine blk_far ?_ NB303_304.out _; (with_reducible repeat (first | refine bN ?_ _ | refine bD ?_ | refine bA ?_ _)); exact BK303.out) hb); have n1_ := ak (blk_below (g := gb304) (o := .cells #[.int .i64 a0_0, .int .i64 a0_1] 24 (0, 0)) (by (with_reducible repeat (first | refine bN ?_ _ | refine bD ?_ | refine bA ?_ _)); refine blk_far ?_ NB304_306.out _; (with_reducible repeat (first | refine bN ?_ _ | refine bD ?_ | refine bA ?_ _)); refine blk_far ?_ NB304_306.out _; (with_reducible repeat (first | refine bN ?_ _ | refine bD ?_ | refine bA ?_ _)); refine blk_far ?_ NB304_305.out _; (with_reducible repeat (first | refine bN ?_ _ | refine bD ?_ | refine bA ?_ _)); refine blk_far ?_ NB304_305.out _; (with_reducible repeat (first | refine bN ?_ _ | refine bD ?_ | refine bA ?_ _)); refine blk_put (cs := #[.int .i64 a0_0, .int .i64 0]) ?_ 1 _ rfl; (with_reducible repeat (first | refine bN ?_ _ | refine bD ?_ | refine bA ?_ _)); refine blk_put (cs := #[.int .i64 0, .int .i64 0]) ?_ 0 _ rfl; (with_reducible repeat (first | refine bN ?_ _ | refine bD ?_ | refine bA ?_ _)); exact BK304.out) hb); have n2_ := ak (blk_below (g := gb305) (o := .cells #[.int .i64 a0_2, .int .i64 a0_3] 24 (0, 0)) (by (with_reducible repeat (first | refine bN ?_ _ | refine bD ?_ | refine bA ?_ _)); refine blk_far ?_ NB305_306.out _; (with_reducible repeat (first | refine bN ?_ _ | refine bD ?_ | refine bA ?_ _)); refine blk_far ?_ NB305_306.out _; (with_reducible repeat (first | refine bN ?_ _ | refine bD ?_ | refine bA ?_ _)); refine blk_put (cs := #[.int .i64 a0_2, .int .i64 0]) ?_ 1 _ rfl; (with_reducible repeat (first | refine bN ?_ _ | refine bD ?_ | refine bA ?_ _)); refine blk_put (cs := #[.int .i64 0, .int .i64 0]) ?_ 0 _ rfl; (with_reducible repeat (first | refine bN ?_ _ | refine bD ?_ | refine bA ?_ _)); refine blk_far ?_ NB305_304.out _; (with_reducible repeat (first | refine bN ?_ _ | refine bD ?_ | refine bA ?_ _)); refine blk_far ?_ NB305_304.out _; (with_reducible repeat (first | refine bN ?_ _ | refine bD ?_ | refine bA ?_ _)); exact BK305.out) hb); have n3_ := ak (blk_below (g := gb306) (o := .cells #[.int .i64 a0_4, .int .i64 a0_5] 24 (0, 0)) (by (with_reducible repeat (first | refine bN ?_ _ | refine bD ?_ | refine bA ?_ _)); refine blk_put (cs := #[.int .i64 a0_4, .int .i64 0]) ?_ 1 _ rfl; (with_reducible repeat (first | refine bN ?_ _ | refine bD ?_ | refine bA ?_ _)); refine blk_put (cs := #[.int .i64 0, .int .i64 0]) ?_ 0 _ rfl; (with_reducible repeat (first | refine bN ?_ _ | refine bD ?_ | refine bA ?_ _)); refine blk_far ?_ NB306_305.out _; (with_reducible repeat (first | refine bN ?_ _ | refine bD ?_ | refine bA ?_ _)); refine blk_far ?_ NB306_305.out _; (with_reducible repeat (first | refine bN ?_ _ | refine bD ?_ | refine bA ?_ _)); refine blk_far ?_ NB306_304.out _; (with_reducible repeat (first | refine bN ?_ _ | refine bD ?_ | refine bA ?_ _)); refine blk_far ?_ NB306_304.out _; (with_reducible repeat (first | refine bN ?_ _ | refine bD ?_ | refine bA ?_ _)); exact BK306.out) hb); have n4_ := ak (below_step (by repeat (first | (with_reducible first | exact HB.out | apply wA | apply wN | apply wD | refine below_set ?_ GE303.out | refine below_set ?_ GE304.out | refine below_set ?_ GE305.out | refine below_set ?_ GE306.out) | exact HB.out)) hb); clear BK303; clear BK304; clear BK305; clear BK306; clear HB; have BK303 := n0_; have BK304 := n1_; have BK305 := n2_; have BK306 := n3_; have HB := n4_; clear n0_ n1_ n2_ n3_ n4_; (try clear hb); (try clear hb2); (try clear hk); (try clear hi)))
   go_meet
   case rel => exact ⟨_, (true), (by first | rfl | (simp; done) | (simp [*]; done)), H', ⟨by first | omega | exact Nat.le_refl _⟩, ⟨by (with_reducible repeat (first | refine bN ?_ _ | refine bD ?_ | refine bA ?_ _)); exact BK303.out⟩, ⟨by (with_reducible repeat (first | refine bN ?_ _ | refine bD ?_ | refine bA ?_ _)); exact BK304.out⟩, ⟨by (with_reducible repeat (first | refine bN ?_ _ | refine bD ?_ | refine bA ?_ _)); exact BK305.out⟩, ⟨by (with_reducible repeat (first | refine bN ?_ _ | refine bD ?_ | refine bA ?_ _)); exact BK306.out⟩, ⟨by repeat (first | (with_reducible first | exact HB.out | apply wA | apply wN | apply wD | refine below_set ?_ GE303.out | refine below_set ?_ GE304.out | refine below_set ?_ GE305.out | refine below_set ?_ GE306.out) | exact HB.out)⟩⟩
 case rest =>
  clear HC2
  try clear c1
  try clear c2
  try clear p2
  try clear c3
  try clear c4
  try clear c16
  try clear c18
  try clear c20
  try clear c21
  try clear c22
  try clear c25
  try clear c26
  try clear c29
  try clear c32
  try clear c33
  try clear c34
  try clear c37
  try clear c38
  try clear c41
  try clear c42
  try clear c43
  try clear hcz23_0
  try clear hcz23_1
  try clear hcz27_0
  try clear hcz27_1
  try clear hcz30_0
  try clear hcz30_1
  try clear hcz35_0
  try clear hcz35_1
  try clear hcz39_0
  try clear hcz39_1
  try clear hcz44_0
  try clear hcz44_1
  try clear hfz23_0
  try clear hfz23_1
  try clear hfz27_0
  try clear hfz27_1
  try clear hfz30_0
  try clear hfz30_1
  try clear hfz35_0
  try clear hfz35_1
  try clear hfz39_0
  try clear hfz39_1
  try clear hfz44_0
  try clear hfz44_1
  obtain ⟨kq, x40_1, rfl, HA, HJ1, BK303, BK304, BK305, BK306, HB⟩ := hcut
  cases kq with
  | zero => exact absurd HA.out (by simp [mummerlaw03_SpansOrder.j0])
  | succ kj1 =>
   have H := HA.out
   clear HA
   simp only [mummerlaw03_SpansOrder.j0] at H
   by_cases c46 : x40_1 = true
   ·subst c46
    have H1 : ((mummerlaw03_awake.f kj1).bind fun t310 => (some t310)) = some r := by rw [if_pos rfl] at H; exact H
    clear H
    have H := H1
    clear H1
    replace H := Option.bind_eq_some_iff.mp H
    obtain ⟨t310, A470, H⟩ := H
    replace H : (some t310) = some r := H
    have A47 := ak A470
    clear A470
    obtain rfl := Option.some.inj H
    go_wp2_with (first | ((with_reducible refine gate_callee (f := 12) rfl ?_); refine goesL_ (some 41) rfl rfl Tryd.func12 (by kernel_rfl) rfl #[] rfl (by (try simp only [List.map_toArray, List.map_cons, List.map_nil]); first | done | rfl | (simp only [List.length_drop, List.length_take]; rfl)) ?_; (with_reducible refine (mummerlaw03_awake.calls kj1  t310 _ hrt A47.out ⟨Sc.Tab.stay HT.out (by repeat (first | (with_reducible first | exact HB.out | apply wA | apply wN | apply wD) | exact HB.out | (refine below_set ?_ (by assumption)) | (refine below_set ?_ (Aside0.out (by assumption)))))⟩).mono ?_); rintro e w48 ⟨rfl, hb⟩; refine ⟨_, rfl, ?_⟩; have n0_ := ak (blk_below (g := gb303) (o := .cells #[.int .i64 a0_0, .int .i64 a0_1, .int .i64 a0_2, .int .i64 a0_3, .int .i64 a0_4, .int .i64 a0_5] 37 (0, 0)) (by (with_reducible repeat (first | refine bN ?_ _ | refine bD ?_ | refine bA ?_ _)); exact BK303.out) hb); have n1_ := ak (blk_below (g := gb304) (o := .cells #[.int .i64 a0_0, .int .i64 a0_1] 24 (0, 0)) (by (with_reducible repeat (first | refine bN ?_ _ | refine bD ?_ | refine bA ?_ _)); exact BK304.out) hb); have n2_ := ak (blk_below (g := gb305) (o := .cells #[.int .i64 a0_2, .int .i64 a0_3] 24 (0, 0)) (by (with_reducible repeat (first | refine bN ?_ _ | refine bD ?_ | refine bA ?_ _)); exact BK305.out) hb); have n3_ := ak (blk_below (g := gb306) (o := .cells #[.int .i64 a0_4, .int .i64 a0_5] 24 (0, 0)) (by (with_reducible repeat (first | refine bN ?_ _ | refine bD ?_ | refine bA ?_ _)); exact BK306.out) hb); have n4_ := ak (below_step (by repeat (first | (with_reducible first | exact HB.out | apply wA | apply wN | apply wD | refine below_set ?_ GE303.out | refine below_set ?_ GE304.out | refine below_set ?_ GE305.out | refine below_set ?_ GE306.out) | exact HB.out)) hb); clear BK303; clear BK304; clear BK305; clear BK306; clear HB; have BK303 := n0_; have BK304 := n1_; have BK305 := n2_; have BK306 := n3_; have HB := n4_; clear n0_ n1_ n2_ n3_ n4_; (try clear hb); (try clear hb2); (try clear hk); (try clear hi)))
    go_ret
    exact ⟨by first | rfl | (simp [errW_none, errW_some] <;> rfl) | (simp [*, errW_none, errW_some] <;> rfl), by repeat (first | (with_reducible first | exact HB.out | apply wA | apply wN | apply wD | refine below_set ?_ GE303.out | refine below_set ?_ GE304.out | refine below_set ?_ GE305.out | refine below_set ?_ GE306.out) | exact HB.out)⟩
   ·replace c46 := Bool.eq_false_iff.mpr c46
    subst c46
    have H1 : ((spans_Before.f kj1 a0_0 a0_1 a0_2 a0_3).bind fun bt311 => ((spans_Before.f kj1 a0_2 a0_3 a0_0 a0_1).bind fun bt313 => ((spans_Before.f kj1 a0_2 a0_3 a0_4 a0_5).bind fun bt315 => ((spans_Before.f kj1 a0_0 a0_1 a0_4 a0_5).bind fun bt317 => ((spans_Before.f kj1 a0_0 a0_1 a0_0 a0_1).bind fun bt319 => (if bt311.2 = 0 then (if bt313.2 = 0 then (if bt315.2 = 0 then (if bt317.2 = 0 then (if bt319.2 = 0 then (if bt319.1 = true then (some false) else (if bt311.1 = true then (if bt313.1 = true then (some false) else (if a0_0 < a0_1 then (if a0_2 < a0_3 then (if a0_4 < a0_5 then (if bt315.1 = true then (mummerlaw03_SpansOrder.j1 kj1 bt311.1 bt313.1 (!bt317.1) a0_0 a0_1 a0_2 a0_3) else (mummerlaw03_SpansOrder.j1 kj1 bt311.1 bt313.1 false a0_0 a0_1 a0_2 a0_3)) else (mummerlaw03_SpansOrder.j1 kj1 bt311.1 bt313.1 false a0_0 a0_1 a0_2 a0_3)) else (mummerlaw03_SpansOrder.j1 kj1 bt311.1 bt313.1 false a0_0 a0_1 a0_2 a0_3)) else (mummerlaw03_SpansOrder.j1 kj1 bt311.1 bt313.1 false a0_0 a0_1 a0_2 a0_3))) else (if a0_0 < a0_1 then (if a0_2 < a0_3 then (if a0_4 < a0_5 then (mummerlaw03_SpansOrder.j1 kj1 bt311.1 bt313.1 false a0_0 a0_1 a0_2 a0_3) else (mummerlaw03_SpansOrder.j1 kj1 bt311.1 bt313.1 false a0_0 a0_1 a0_2 a0_3)) else (mummerlaw03_SpansOrder.j1 kj1 bt311.1 bt313.1 false a0_0 a0_1 a0_2 a0_3)) else (mummerlaw03_SpansOrder.j1 kj1 bt311.1 bt313.1 false a0_0 a0_1 a0_2 a0_3)))) else (some false)) else (some false)) else (some false)) else (some false)) else (some false))))))) = some r := by rw [if_neg (show ¬ (false = true) by decide)] at H; exact H
    clear H
    have H := H1
    clear H1
    replace H := Option.bind_eq_some_iff.mp H
    obtain ⟨⟨t311, t312⟩, A490, H⟩ := H
    replace H : ((spans_Before.f kj1 a0_2 a0_3 a0_0 a0_1).bind fun bt313 => ((spans_Before.f kj1 a0_2 a0_3 a0_4 a0_5).bind fun bt315 => ((spans_Before.f kj1 a0_0 a0_1 a0_4 a0_5).bind fun bt317 => ((spans_Before.f kj1 a0_0 a0_1 a0_0 a0_1).bind fun bt319 => (if t312 = 0 then (if bt313.2 = 0 then (if bt315.2 = 0 then (if bt317.2 = 0 then (if bt319.2 = 0 then (if bt319.1 = true then (some false) else (if t311 = true then (if bt313.1 = true then (some false) else (if a0_0 < a0_1 then (if a0_2 < a0_3 then (if a0_4 < a0_5 then (if bt315.1 = true then (mummerlaw03_SpansOrder.j1 kj1 t311 bt313.1 (!bt317.1) a0_0 a0_1 a0_2 a0_3) else (mummerlaw03_SpansOrder.j1 kj1 t311 bt313.1 false a0_0 a0_1 a0_2 a0_3)) else (mummerlaw03_SpansOrder.j1 kj1 t311 bt313.1 false a0_0 a0_1 a0_2 a0_3)) else (mummerlaw03_SpansOrder.j1 kj1 t311 bt313.1 false a0_0 a0_1 a0_2 a0_3)) else (mummerlaw03_SpansOrder.j1 kj1 t311 bt313.1 false a0_0 a0_1 a0_2 a0_3))) else (if a0_0 < a0_1 then (if a0_2 < a0_3 then (if a0_4 < a0_5 then (mummerlaw03_SpansOrder.j1 kj1 t311 bt313.1 false a0_0 a0_1 a0_2 a0_3) else (mummerlaw03_SpansOrder.j1 kj1 t311 bt313.1 false a0_0 a0_1 a0_2 a0_3)) else (mummerlaw03_SpansOrder.j1 kj1 t311 bt313.1 false a0_0 a0_1 a0_2 a0_3)) else (mummerlaw03_SpansOrder.j1 kj1 t311 bt313.1 false a0_0 a0_1 a0_2 a0_3)))) else (some false)) else (some false)) else (some false)) else (some false)) else (some false)))))) = some r := H
    have A49 := ak A490
    clear A490
    replace H := Option.bind_eq_some_iff.mp H
    obtain ⟨⟨t313, t314⟩, A500, H⟩ := H
    replace H : ((spans_Before.f kj1 a0_2 a0_3 a0_4 a0_5).bind fun bt315 => ((spans_Before.f kj1 a0_0 a0_1 a0_4 a0_5).bind fun bt317 => ((spans_Before.f kj1 a0_0 a0_1 a0_0 a0_1).bind fun bt319 => (if t312 = 0 then (if t314 = 0 then (if bt315.2 = 0 then (if bt317.2 = 0 then (if bt319.2 = 0 then (if bt319.1 = true then (some false) else (if t311 = true then (if t313 = true then (some false) else (if a0_0 < a0_1 then (if a0_2 < a0_3 then (if a0_4 < a0_5 then (if bt315.1 = true then (mummerlaw03_SpansOrder.j1 kj1 t311 t313 (!bt317.1) a0_0 a0_1 a0_2 a0_3) else (mummerlaw03_SpansOrder.j1 kj1 t311 t313 false a0_0 a0_1 a0_2 a0_3)) else (mummerlaw03_SpansOrder.j1 kj1 t311 t313 false a0_0 a0_1 a0_2 a0_3)) else (mummerlaw03_SpansOrder.j1 kj1 t311 t313 false a0_0 a0_1 a0_2 a0_3)) else (mummerlaw03_SpansOrder.j1 kj1 t311 t313 false a0_0 a0_1 a0_2 a0_3))) else (if a0_0 < a0_1 then (if a0_2 < a0_3 then (if a0_4 < a0_5 then (mummerlaw03_SpansOrder.j1 kj1 t311 t313 false a0_0 a0_1 a0_2 a0_3) else (mummerlaw03_SpansOrder.j1 kj1 t311 t313 false a0_0 a0_1 a0_2 a0_3)) else (mummerlaw03_SpansOrder.j1 kj1 t311 t313 false a0_0 a0_1 a0_2 a0_3)) else (mummerlaw03_SpansOrder.j1 kj1 t311 t313 false a0_0 a0_1 a0_2 a0_3)))) else (some false)) else (some false)) else (some false)) else (some false)) else (some false))))) = some r := H
    have A50 := ak A500
    clear A500
    replace H := Option.bind_eq_some_iff.mp H
    obtain ⟨⟨t315, t316⟩, A510, H⟩ := H
    replace H : ((spans_Before.f kj1 a0_0 a0_1 a0_4 a0_5).bind fun bt317 => ((spans_Before.f kj1 a0_0 a0_1 a0_0 a0_1).bind fun bt319 => (if t312 = 0 then (if t314 = 0 then (if t316 = 0 then (if bt317.2 = 0 then (if bt319.2 = 0 then (if bt319.1 = true then (some false) else (if t311 = true then (if t313 = true then (some false) else (if a0_0 < a0_1 then (if a0_2 < a0_3 then (if a0_4 < a0_5 then (if t315 = true then (mummerlaw03_SpansOrder.j1 kj1 t311 t313 (!bt317.1) a0_0 a0_1 a0_2 a0_3) else (mummerlaw03_SpansOrder.j1 kj1 t311 t313 false a0_0 a0_1 a0_2 a0_3)) else (mummerlaw03_SpansOrder.j1 kj1 t311 t313 false a0_0 a0_1 a0_2 a0_3)) else (mummerlaw03_SpansOrder.j1 kj1 t311 t313 false a0_0 a0_1 a0_2 a0_3)) else (mummerlaw03_SpansOrder.j1 kj1 t311 t313 false a0_0 a0_1 a0_2 a0_3))) else (if a0_0 < a0_1 then (if a0_2 < a0_3 then (if a0_4 < a0_5 then (mummerlaw03_SpansOrder.j1 kj1 t311 t313 false a0_0 a0_1 a0_2 a0_3) else (mummerlaw03_SpansOrder.j1 kj1 t311 t313 false a0_0 a0_1 a0_2 a0_3)) else (mummerlaw03_SpansOrder.j1 kj1 t311 t313 false a0_0 a0_1 a0_2 a0_3)) else (mummerlaw03_SpansOrder.j1 kj1 t311 t313 false a0_0 a0_1 a0_2 a0_3)))) else (some false)) else (some false)) else (some false)) else (some false)) else (some false)))) = some r := H
    have A51 := ak A510
    clear A510
    replace H := Option.bind_eq_some_iff.mp H
    obtain ⟨⟨t317, t318⟩, A520, H⟩ := H
    replace H : ((spans_Before.f kj1 a0_0 a0_1 a0_0 a0_1).bind fun bt319 => (if t312 = 0 then (if t314 = 0 then (if t316 = 0 then (if t318 = 0 then (if bt319.2 = 0 then (if bt319.1 = true then (some false) else (if t311 = true then (if t313 = true then (some false) else (if a0_0 < a0_1 then (if a0_2 < a0_3 then (if a0_4 < a0_5 then (if t315 = true then (mummerlaw03_SpansOrder.j1 kj1 t311 t313 (!t317) a0_0 a0_1 a0_2 a0_3) else (mummerlaw03_SpansOrder.j1 kj1 t311 t313 false a0_0 a0_1 a0_2 a0_3)) else (mummerlaw03_SpansOrder.j1 kj1 t311 t313 false a0_0 a0_1 a0_2 a0_3)) else (mummerlaw03_SpansOrder.j1 kj1 t311 t313 false a0_0 a0_1 a0_2 a0_3)) else (mummerlaw03_SpansOrder.j1 kj1 t311 t313 false a0_0 a0_1 a0_2 a0_3))) else (if a0_0 < a0_1 then (if a0_2 < a0_3 then (if a0_4 < a0_5 then (mummerlaw03_SpansOrder.j1 kj1 t311 t313 false a0_0 a0_1 a0_2 a0_3) else (mummerlaw03_SpansOrder.j1 kj1 t311 t313 false a0_0 a0_1 a0_2 a0_3)) else (mummerlaw03_SpansOrder.j1 kj1 t311 t313 false a0_0 a0_1 a0_2 a0_3)) else (mummerlaw03_SpansOrder.j1 kj1 t311 t313 false a0_0 a0_1 a0_2 a0_3)))) else (some false)) else (some false)) else (some false)) else (some false)) else (some false))) = some r := H
    have A52 := ak A520
    clear A520
    replace H := Option.bind_eq_some_iff.mp H
    obtain ⟨⟨t319, t320⟩, A530, H⟩ := H
    replace H : (if t312 = 0 then (if t314 = 0 then (if t316 = 0 then (if t318 = 0 then (if t320 = 0 then (if t319 = true then (some false) else (if t311 = true then (if t313 = true then (some false) else (if a0_0 < a0_1 then (if a0_2 < a0_3 then (if a0_4 < a0_5 then (if t315 = true then (mummerlaw03_SpansOrder.j1 kj1 t311 t313 (!t317) a0_0 a0_1 a0_2 a0_3) else (mummerlaw03_SpansOrder.j1 kj1 t311 t313 false a0_0 a0_1 a0_2 a0_3)) else (mummerlaw03_SpansOrder.j1 kj1 t311 t313 false a0_0 a0_1 a0_2 a0_3)) else (mummerlaw03_SpansOrder.j1 kj1 t311 t313 false a0_0 a0_1 a0_2 a0_3)) else (mummerlaw03_SpansOrder.j1 kj1 t311 t313 false a0_0 a0_1 a0_2 a0_3))) else (if a0_0 < a0_1 then (if a0_2 < a0_3 then (if a0_4 < a0_5 then (mummerlaw03_SpansOrder.j1 kj1 t311 t313 false a0_0 a0_1 a0_2 a0_3) else (mummerlaw03_SpansOrder.j1 kj1 t311 t313 false a0_0 a0_1 a0_2 a0_3)) else (mummerlaw03_SpansOrder.j1 kj1 t311 t313 false a0_0 a0_1 a0_2 a0_3)) else (mummerlaw03_SpansOrder.j1 kj1 t311 t313 false a0_0 a0_1 a0_2 a0_3)))) else (some false)) else (some false)) else (some false)) else (some false)) else (some false)) = some r := H
    have A53 := ak A530
    clear A530
    have HC54 := ak H
    clear H
    have hnb55 := NB304_303.out
    have hnc55 := NB303_304.out
    have hnb56 := NB304_305.out
    have hnc56 := NB305_304.out
    have hnb57 := NB304_306.out
    have hnc57 := NB306_304.out
    have hcz58_0 : wc.cell? ⟨gb304, 0, none⟩ = some (.int .i64 a0_0) := (blk_cell BK304.out 0).trans rfl
    have hcz58_1 : wc.cell? ⟨gb304, 1, none⟩ = some (.int .i64 a0_1) := (blk_cell BK304.out 1).trans rfl
    have hfz58_0 := blk_frozen BK304.out 0
    have hfz58_1 := blk_frozen BK304.out 1
    have hnb59 := NB305_303.out
    have hnc59 := NB303_305.out
    have hnb60 := NB305_306.out
    have hnc60 := NB306_305.out
    have hcz61_0 : wc.cell? ⟨gb305, 0, none⟩ = some (.int .i64 a0_2) := (blk_cell BK305.out 0).trans rfl
    have hcz61_1 : wc.cell? ⟨gb305, 1, none⟩ = some (.int .i64 a0_3) := (blk_cell BK305.out 1).trans rfl
    have hfz61_0 := blk_frozen BK305.out 0
    have hfz61_1 := blk_frozen BK305.out 1
    go_upto_region 9 with (first | ((with_reducible refine gate_callee (f := 19) rfl ?_); refine goesL_ (some 45) rfl rfl Tryd.func19 (by kernel_rfl) rfl #[.agg #[.int .i64 a0_0, .int .i64 a0_1], .agg #[.int .i64 a0_2, .int .i64 a0_3]] rfl (by (try simp only [List.map_toArray, List.map_cons, List.map_nil]); first | done | rfl | (simp only [List.length_drop, List.length_take]; rfl)) ?_; (with_reducible refine (spans_Before.calls kj1 a0_0 a0_1 a0_2 a0_3 t311 t312 _ A49.out).mono ?_); rintro e w62 ⟨rfl, hb⟩; refine ⟨_, rfl, ?_⟩; have n0_ := ak (blk_below (g := gb303) (o := .cells #[.int .i64 a0_0, .int .i64 a0_1, .int .i64 a0_2, .int .i64 a0_3, .int .i64 a0_4, .int .i64 a0_5] 37 (0, 0)) (by (with_reducible repeat (first | refine bN ?_ _ | refine bD ?_ | refine bA ?_ _)); exact BK303.out) hb); have n1_ := ak (blk_below (g := gb304) (o := .cells #[.int .i64 a0_0, .int .i64 a0_1] 24 (0, 0)) (by (with_reducible repeat (first | refine bN ?_ _ | refine bD ?_ | refine bA ?_ _)); exact BK304.out) hb); have n2_ := ak (blk_below (g := gb305) (o := .cells #[.int .i64 a0_2, .int .i64 a0_3] 24 (0, 0)) (by (with_reducible repeat (first | refine bN ?_ _ | refine bD ?_ | refine bA ?_ _)); exact BK305.out) hb); have n3_ := ak (blk_below (g := gb306) (o := .cells #[.int .i64 a0_4, .int .i64 a0_5] 24 (0, 0)) (by (with_reducible repeat (first | refine bN ?_ _ | refine bD ?_ | refine bA ?_ _)); exact BK306.out) hb); have n4_ := ak (below_step (by repeat (first | (with_reducible first | exact HB.out | apply wA | apply wN | apply wD | refine below_set ?_ GE303.out | refine below_set ?_ GE304.out | refine below_set ?_ GE305.out | refine below_set ?_ GE306.out) | exact HB.out)) hb); clear BK303; clear BK304; clear BK305; clear BK306; clear HB; have BK303 := n0_; have BK304 := n1_; have BK305 := n2_; have BK306 := n3_; have HB := n4_; clear n0_ n1_ n2_ n3_ n4_; (try clear hb); (try clear hb2); (try clear hk); (try clear hi); have hcz63_0 : w62.cell? ⟨gb305, 0, none⟩ = some (.int .i64 a0_2) := (blk_cell BK305.out 0).trans rfl; have hcz63_1 : w62.cell? ⟨gb305, 1, none⟩ = some (.int .i64 a0_3) := (blk_cell BK305.out 1).trans rfl; have hfz63_0 := blk_frozen BK305.out 0; have hfz63_1 := blk_frozen BK305.out 1; have hcz64_0 : w62.cell? ⟨gb304, 0, none⟩ = some (.int .i64 a0_0) := (blk_cell BK304.out 0).trans rfl; have hcz64_1 : w62.cell? ⟨gb304, 1, none⟩ = some (.int .i64 a0_1) := (blk_cell BK304.out 1).trans rfl; have hfz64_0 := blk_frozen BK304.out 0; have hfz64_1 := blk_frozen BK304.out 1) | ((with_reducible refine gate_callee (f := 19) rfl ?_); refine goesL_ (some 51) rfl rfl Tryd.func19 (by kernel_rfl) rfl #[.agg #[.int .i64 a0_2, .int .i64 a0_3], .agg #[.int .i64 a0_0, .int .i64 a0_1]] rfl (by (try simp only [List.map_toArray, List.map_cons, List.map_nil]); first | done | rfl | (simp only [List.length_drop, List.length_take]; rfl)) ?_; (with_reducible refine (spans_Before.calls kj1 a0_2 a0_3 a0_0 a0_1 t313 t314 _ A50.out).mono ?_); rintro e w65 ⟨rfl, hb⟩; refine ⟨_, rfl, ?_⟩; have n0_ := ak (blk_below (g := gb303) (o := .cells #[.int .i64 a0_0, .int .i64 a0_1, .int .i64 a0_2, .int .i64 a0_3, .int .i64 a0_4, .int .i64 a0_5] 37 (0, 0)) (by (with_reducible repeat (first | refine bN ?_ _ | refine bD ?_ | refine bA ?_ _)); exact BK303.out) hb); have n1_ := ak (blk_below (g := gb304) (o := .cells #[.int .i64 a0_0, .int .i64 a0_1] 24 (0, 0)) (by (with_reducible repeat (first | refine bN ?_ _ | refine bD ?_ | refine bA ?_ _)); exact BK304.out) hb); have n2_ := ak (blk_below (g := gb305) (o := .cells #[.int .i64 a0_2, .int .i64 a0_3] 24 (0, 0)) (by (with_reducible repeat (first | refine bN ?_ _ | refine bD ?_ | refine bA ?_ _)); exact BK305.out) hb); have n3_ := ak (blk_below (g := gb306) (o := .cells #[.int .i64 a0_4, .int .i64 a0_5] 24 (0, 0)) (by (with_reducible repeat (first | refine bN ?_ _ | refine bD ?_ | refine bA ?_ _)); exact BK306.out) hb); have n4_ := ak (below_step (by repeat (first | (with_reducible first | exact HB.out | apply wA | apply wN | apply wD | refine below_set ?_ GE303.out | refine below_set ?_ GE304.out | refine below_set ?_ GE305.out | refine below_set ?_ GE306.out) | exact HB.out)) hb); clear BK303; clear BK304; clear BK305; clear BK306; clear HB; have BK303 := n0_; have BK304 := n1_; have BK305 := n2_; have BK306 := n3_; have HB := n4_; clear n0_ n1_ n2_ n3_ n4_; (try clear hb); (try clear hb2); (try clear hk); (try clear hi); have hcz66_0 : w65.cell? ⟨gb305, 0, none⟩ = some (.int .i64 a0_2) := (blk_cell BK305.out 0).trans rfl; have hcz66_1 : w65.cell? ⟨gb305, 1, none⟩ = some (.int .i64 a0_3) := (blk_cell BK305.out 1).trans rfl; have hfz66_0 := blk_frozen BK305.out 0; have hfz66_1 := blk_frozen BK305.out 1; have hnb67 := NB306_303.out; have hnc67 := NB303_306.out; have hcz68_0 : w65.cell? ⟨gb306, 0, none⟩ = some (.int .i64 a0_4) := (blk_cell BK306.out 0).trans rfl; have hcz68_1 : w65.cell? ⟨gb306, 1, none⟩ = some (.int .i64 a0_5) := (blk_cell BK306.out 1).trans rfl; have hfz68_0 := blk_frozen BK306.out 0; have hfz68_1 := blk_frozen BK306.out 1) | ((with_reducible refine gate_callee (f := 19) rfl ?_); refine goesL_ (some 57) rfl rfl Tryd.func19 (by kernel_rfl) rfl #[.agg #[.int .i64 a0_2, .int .i64 a0_3], .agg #[.int .i64 a0_4, .int .i64 a0_5]] rfl (by (try simp only [List.map_toArray, List.map_cons, List.map_nil]); first | done | rfl | (simp only [List.length_drop, List.length_take]; rfl)) ?_; (with_reducible refine (spans_Before.calls kj1 a0_2 a0_3 a0_4 a0_5 t315 t316 _ A51.out).mono ?_); rintro e w69 ⟨rfl, hb⟩; refine ⟨_, rfl, ?_⟩; have n0_ := ak (blk_below (g := gb303) (o := .cells #[.int .i64 a0_0, .int .i64 a0_1, .int .i64 a0_2, .int .i64 a0_3, .int .i64 a0_4, .int .i64 a0_5] 37 (0, 0)) (by (with_reducible repeat (first | refine bN ?_ _ | refine bD ?_ | refine bA ?_ _)); exact BK303.out) hb); have n1_ := ak (blk_below (g := gb304) (o := .cells #[.int .i64 a0_0, .int .i64 a0_1] 24 (0, 0)) (by (with_reducible repeat (first | refine bN ?_ _ | refine bD ?_ | refine bA ?_ _)); exact BK304.out) hb); have n2_ := ak (blk_below (g := gb305) (o := .cells #[.int .i64 a0_2, .int .i64 a0_3] 24 (0, 0)) (by (with_reducible repeat (first | refine bN ?_ _ | refine bD ?_ | refine bA ?_ _)); exact BK305.out) hb); have n3_ := ak (blk_below (g := gb306) (o := .cells #[.int .i64 a0_4, .int .i64 a0_5] 24 (0, 0)) (by (with_reducible repeat (first | refine bN ?_ _ | refine bD ?_ | refine bA ?_ _)); exact BK306.out) hb); have n4_ := ak (below_step (by repeat (first | (with_reducible first | exact HB.out | apply wA | apply wN | apply wD | refine below_set ?_ GE303.out | refine below_set ?_ GE304.out | refine below_set ?_ GE305.out | refine below_set ?_ GE306.out) | exact HB.out)) hb); clear BK303; clear BK304; clear BK305; clear BK306; clear HB; have BK303 := n0_; have BK304 := n1_; have BK305 := n2_; have BK306 := n3_; have HB := n4_; clear n0_ n1_ n2_ n3_ n4_; (try clear hb); (try clear hb2); (try clear hk); (try clear hi); have hcz70_0 : w69.cell? ⟨gb304, 0, none⟩ = some (.int .i64 a0_0) := (blk_cell BK304.out 0).trans rfl; have hcz70_1 : w69.cell? ⟨gb304, 1, none⟩ = some (.int .i64 a0_1) := (blk_cell BK304.out 1).trans rfl; have hfz70_0 := blk_frozen BK304.out 0; have hfz70_1 := blk_frozen BK304.out 1; have hcz71_0 : w69.cell? ⟨gb306, 0, none⟩ = some (.int .i64 a0_4) := (blk_cell BK306.out 0).trans rfl; have hcz71_1 : w69.cell? ⟨gb306, 1, none⟩ = some (.int .i64 a0_5) := (blk_cell BK306.out 1).trans rfl; have hfz71_0 := blk_frozen BK306.out 0; have hfz71_1 := blk_frozen BK306.out 1) | ((with_reducible refine gate_callee (f := 19) rfl ?_); refine goesL_ (some 63) rfl rfl Tryd.func19 (by kernel_rfl) rfl #[.agg #[.int .i64 a0_0, .int .i64 a0_1], .agg #[.int .i64 a0_4, .int .i64 a0_5]] rfl (by (try simp only [List.map_toArray, List.map_cons, List.map_nil]); first | done | rfl | (simp only [List.length_drop, List.length_take]; rfl)) ?_; (with_reducible refine (spans_Before.calls kj1 a0_0 a0_1 a0_4 a0_5 t317 t318 _ A52.out).mono ?_); rintro e w72 ⟨rfl, hb⟩; refine ⟨_, rfl, ?_⟩; have n0_ := ak (blk_below (g := gb303) (o := .cells #[.int .i64 a0_0, .int .i64 a0_1, .int .i64 a0_2, .int .i64 a0_3, .int .i64 a0_4, .int .i64 a0_5] 37 (0, 0)) (by (with_reducible repeat (first | refine bN ?_ _ | refine bD ?_ | refine bA ?_ _)); exact BK303.out) hb); have n1_ := ak (blk_below (g := gb304) (o := .cells #[.int .i64 a0_0, .int .i64 a0_1] 24 (0, 0)) (by (with_reducible repeat (first | refine bN ?_ _ | refine bD ?_ | refine bA ?_ _)); exact BK304.out) hb); have n2_ := ak (blk_below (g := gb305) (o := .cells #[.int .i64 a0_2, .int .i64 a0_3] 24 (0, 0)) (by (with_reducible repeat (first | refine bN ?_ _ | refine bD ?_ | refine bA ?_ _)); exact BK305.out) hb); have n3_ := ak (blk_below (g := gb306) (o := .cells #[.int .i64 a0_4, .int .i64 a0_5] 24 (0, 0)) (by (with_reducible repeat (first | refine bN ?_ _ | refine bD ?_ | refine bA ?_ _)); exact BK306.out) hb); have n4_ := ak (below_step (by repeat (first | (with_reducible first | exact HB.out | apply wA | apply wN | apply wD | refine below_set ?_ GE303.out | refine below_set ?_ GE304.out | refine below_set ?_ GE305.out | refine below_set ?_ GE306.out) | exact HB.out)) hb); clear BK303; clear BK304; clear BK305; clear BK306; clear HB; have BK303 := n0_; have BK304 := n1_; have BK305 := n2_; have BK306 := n3_; have HB := n4_; clear n0_ n1_ n2_ n3_ n4_; (try clear hb); (try clear hb2); (try clear hk); (try clear hi); have hcz73_0 : w72.cell? ⟨gb304, 0, none⟩ = some (.int .i64 a0_0) := (blk_cell BK304.out 0).trans rfl; have hcz73_1 : w72.cell? ⟨gb304, 1, none⟩ = some (.int .i64 a0_1) := (blk_cell BK304.out 1).trans rfl; have hfz73_0 := blk_frozen BK304.out 0; have hfz73_1 := blk_frozen BK304.out 1) | ((with_reducible refine gate_callee (f := 19) rfl ?_); refine goesL_ (some 69) rfl rfl Tryd.func19 (by kernel_rfl) rfl #[.agg #[.int .i64 a0_0, .int .i64 a0_1], .agg #[.int .i64 a0_0, .int .i64 a0_1]] rfl (by (try simp only [List.map_toArray, List.map_cons, List.map_nil]); first | done | rfl | (simp only [List.length_drop, List.length_take]; rfl)) ?_; (with_reducible refine (spans_Before.calls kj1 a0_0 a0_1 a0_0 a0_1 t319 t320 _ A53.out).mono ?_); rintro e w74 ⟨rfl, hb⟩; refine ⟨_, rfl, ?_⟩; have n0_ := ak (blk_below (g := gb303) (o := .cells #[.int .i64 a0_0, .int .i64 a0_1, .int .i64 a0_2, .int .i64 a0_3, .int .i64 a0_4, .int .i64 a0_5] 37 (0, 0)) (by (with_reducible repeat (first | refine bN ?_ _ | refine bD ?_ | refine bA ?_ _)); exact BK303.out) hb); have n1_ := ak (blk_below (g := gb304) (o := .cells #[.int .i64 a0_0, .int .i64 a0_1] 24 (0, 0)) (by (with_reducible repeat (first | refine bN ?_ _ | refine bD ?_ | refine bA ?_ _)); exact BK304.out) hb); have n2_ := ak (blk_below (g := gb305) (o := .cells #[.int .i64 a0_2, .int .i64 a0_3] 24 (0, 0)) (by (with_reducible repeat (first | refine bN ?_ _ | refine bD ?_ | refine bA ?_ _)); exact BK305.out) hb); have n3_ := ak (blk_below (g := gb306) (o := .cells #[.int .i64 a0_4, .int .i64 a0_5] 24 (0, 0)) (by (with_reducible repeat (first | refine bN ?_ _ | refine bD ?_ | refine bA ?_ _)); exact BK306.out) hb); have n4_ := ak (below_step (by repeat (first | (with_reducible first | exact HB.out | apply wA | apply wN | apply wD | refine below_set ?_ GE303.out | refine below_set ?_ GE304.out | refine below_set ?_ GE305.out | refine below_set ?_ GE306.out) | exact HB.out)) hb); clear BK303; clear BK304; clear BK305; clear BK306; clear HB; have BK303 := n0_; have BK304 := n1_; have BK305 := n2_; have BK306 := n3_; have HB := n4_; clear n0_ n1_ n2_ n3_ n4_; (try clear hb); (try clear hb2); (try clear hk); (try clear hi)))
    (try simp only [Act.put, sA_, s0_, s1_])
    go_cut [129] (fun v129 wc => ∃ (kq : Nat) (x129_53 : Bool), v129 = .bool x129_53 ∧ Aside0 (mummerlaw03_SpansOrder.j1 kq t311 t313 x129_53 a0_0 a0_1 a0_2 a0_3 = some r) ∧ Aside0 (kq ≤ kj1) ∧ Aside0 (wc.heap[gb303]? = some (.cells #[.int .i64 a0_0, .int .i64 a0_1, .int .i64 a0_2, .int .i64 a0_3, .int .i64 a0_4, .int .i64 a0_5] 37 (0, 0))) ∧ Aside0 (wc.heap[gb304]? = some (.cells #[.int .i64 a0_0, .int .i64 a0_1] 24 (0, 0))) ∧ Aside0 (wc.heap[gb305]? = some (.cells #[.int .i64 a0_2, .int .i64 a0_3] 24 (0, 0))) ∧ Aside0 (wc.heap[gb306]? = some (.cells #[.int .i64 a0_4, .int .i64 a0_5] 24 (0, 0))) ∧ Aside0 (Below w.heap.size w wc))
    case first =>
     as_aux_lemma =>
      have H := HC54.out
      clear HC54
      by_cases c75 : t312 = 0
      ·rw [if_pos c75] at H
       have c75b0 : (t312 == 0) = true := beq_iff_eq.mpr c75
       have c75b1 : (t312 != 0) = false := bne_eq_false_iff_eq.mpr c75
       clear c75
       (first | rw [c75b0] | (simp only [i64_w, i32_w]; rw [c75b0]) | skip)
       by_cases c76 : t314 = 0
       ·rw [if_pos c76] at H
        have c76b0 : (t314 == 0) = true := beq_iff_eq.mpr c76
        have c76b1 : (t314 != 0) = false := bne_eq_false_iff_eq.mpr c76
        clear c76
        by_cases c77 : t316 = 0
        ·rw [if_pos c77] at H
         have c77b0 : (t316 == 0) = true := beq_iff_eq.mpr c77
         have c77b1 : (t316 != 0) = false := bne_eq_false_iff_eq.mpr c77
         clear c77
         by_cases c78 : t318 = 0
         ·rw [if_pos c78] at H
          have c78b0 : (t318 == 0) = true := beq_iff_eq.mpr c78
          have c78b1 : (t318 != 0) = false := bne_eq_false_iff_eq.mpr c78
          clear c78
          by_cases c79 : t320 = 0
          ·rw [if_pos c79] at H
           have c79b0 : (t320 == 0) = true := beq_iff_eq.mpr c79
           have c79b1 : (t320 != 0) = false := bne_eq_false_iff_eq.mpr c79
           clear c79
           by_cases c80 : t319 = true
           ·subst c80
            have H1 : (some false) = some r := by rw [if_pos rfl] at H; exact H
            clear H
            have H := H1
            clear H1
            exact absurd ((Option.some.inj H).trans hrt.out) (by decide)
           ·replace c80 := Bool.eq_false_iff.mpr c80
            subst c80
            have H1 : (if t311 = true then (if t313 = true then (some false) else (if a0_0 < a0_1 then (if a0_2 < a0_3 then (if a0_4 < a0_5 then (if t315 = true then (mummerlaw03_SpansOrder.j1 kj1 t311 t313 (!t317) a0_0 a0_1 a0_2 a0_3) else (mummerlaw03_SpansOrder.j1 kj1 t311 t313 false a0_0 a0_1 a0_2 a0_3)) else (mummerlaw03_SpansOrder.j1 kj1 t311 t313 false a0_0 a0_1 a0_2 a0_3)) else (mummerlaw03_SpansOrder.j1 kj1 t311 t313 false a0_0 a0_1 a0_2 a0_3)) else (mummerlaw03_SpansOrder.j1 kj1 t311 t313 false a0_0 a0_1 a0_2 a0_3))) else (if a0_0 < a0_1 then (if a0_2 < a0_3 then (if a0_4 < a0_5 then (mummerlaw03_SpansOrder.j1 kj1 t311 t313 false a0_0 a0_1 a0_2 a0_3) else (mummerlaw03_SpansOrder.j1 kj1 t311 t313 false a0_0 a0_1 a0_2 a0_3)) else (mummerlaw03_SpansOrder.j1 kj1 t311 t313 false a0_0 a0_1 a0_2 a0_3)) else (mummerlaw03_SpansOrder.j1 kj1 t311 t313 false a0_0 a0_1 a0_2 a0_3))) = some r := by rw [if_neg (show ¬ (false = true) by decide)] at H; exact H
            clear H
            have H := H1
            clear H1
            by_cases c81 : t311 = true
            ·subst c81
             have H1 : (if t313 = true then (some false) else (if a0_0 < a0_1 then (if a0_2 < a0_3 then (if a0_4 < a0_5 then (if t315 = true then (mummerlaw03_SpansOrder.j1 kj1 true t313 (!t317) a0_0 a0_1 a0_2 a0_3) else (mummerlaw03_SpansOrder.j1 kj1 true t313 false a0_0 a0_1 a0_2 a0_3)) else (mummerlaw03_SpansOrder.j1 kj1 true t313 false a0_0 a0_1 a0_2 a0_3)) else (mummerlaw03_SpansOrder.j1 kj1 true t313 false a0_0 a0_1 a0_2 a0_3)) else (mummerlaw03_SpansOrder.j1 kj1 true t313 false a0_0 a0_1 a0_2 a0_3))) = some r := by rw [if_pos rfl] at H; exact H
             clear H
             have H := H1
             clear H1
             by_cases c82 : t313 = true
             ·subst c82
              have H1 : (some false) = some r := by rw [if_pos rfl] at H; exact H
              clear H
              have H := H1
              clear H1
              exact absurd ((Option.some.inj H).trans hrt.out) (by decide)
             ·replace c82 := Bool.eq_false_iff.mpr c82
              subst c82
              have H1 : (if a0_0 < a0_1 then (if a0_2 < a0_3 then (if a0_4 < a0_5 then (if t315 = true then (mummerlaw03_SpansOrder.j1 kj1 true false (!t317) a0_0 a0_1 a0_2 a0_3) else (mummerlaw03_SpansOrder.j1 kj1 true false false a0_0 a0_1 a0_2 a0_3)) else (mummerlaw03_SpansOrder.j1 kj1 true false false a0_0 a0_1 a0_2 a0_3)) else (mummerlaw03_SpansOrder.j1 kj1 true false false a0_0 a0_1 a0_2 a0_3)) else (mummerlaw03_SpansOrder.j1 kj1 true false false a0_0 a0_1 a0_2 a0_3)) = some r := by rw [if_neg (show ¬ (false = true) by decide)] at H; exact H
              clear H
              have H := H1
              clear H1
              by_cases c83 : a0_0 < a0_1
              ·rw [if_pos c83] at H
               have c83b0 : decide (a0_0 < a0_1) = true := decide_eq_true c83
               clear c83
               by_cases c84 : a0_2 < a0_3
               ·rw [if_pos c84] at H
                have c84b0 : decide (a0_2 < a0_3) = true := decide_eq_true c84
                clear c84
                by_cases c85 : a0_4 < a0_5
                ·rw [if_pos c85] at H
                 have c85b0 : decide (a0_4 < a0_5) = true := decide_eq_true c85
                 clear c85
                 by_cases c86 : t315 = true
                 ·subst c86
                  have H1 : (mummerlaw03_SpansOrder.j1 kj1 true false (!t317) a0_0 a0_1 a0_2 a0_3) = some r := by rw [if_pos rfl] at H; exact H
                  clear H
                  have H := H1
                  clear H1
                  have H' := ak H
                  clear H
                  have hnb87 := NB304_303.out
                  have hnc87 := NB303_304.out
                  have hnb88 := NB304_305.out
                  have hnc88 := NB305_304.out
                  have hnb89 := NB304_306.out
                  have hnc89 := NB306_304.out
                  have hcz90_0 : w74.cell? ⟨gb304, 0, none⟩ = some (.int .i64 a0_0) := (blk_cell BK304.out 0).trans rfl
                  have hcz90_1 : w74.cell? ⟨gb304, 1, none⟩ = some (.int .i64 a0_1) := (blk_cell BK304.out 1).trans rfl
                  have hfz90_0 := blk_frozen BK304.out 0
                  have hfz90_1 := blk_frozen BK304.out 1
                  have hnb91 := NB305_303.out
                  have hnc91 := NB303_305.out
                  have hnb92 := NB305_306.out
                  have hnc92 := NB306_305.out
                  have hcz93_0 : w74.cell? ⟨gb305, 0, none⟩ = some (.int .i64 a0_2) := (blk_cell BK305.out 0).trans rfl
                  have hcz93_1 : w74.cell? ⟨gb305, 1, none⟩ = some (.int .i64 a0_3) := (blk_cell BK305.out 1).trans rfl
                  have hfz93_0 := blk_frozen BK305.out 0
                  have hfz93_1 := blk_frozen BK305.out 1
                  have hnb94 := NB306_303.out
                  have hnc94 := NB303_306.out
                  have hcz95_0 : w74.cell? ⟨gb306, 0, none⟩ = some (.int .i64 a0_4) := (blk_cell BK306.out 0).trans rfl
                  have hcz95_1 : w74.cell? ⟨gb306, 1, none⟩ = some (.int .i64 a0_5) := (blk_cell BK306.out 1).trans rfl
                  have hfz95_0 := blk_frozen BK306.out 0
                  have hfz95_1 := blk_frozen BK306.out 1
                  go_wp2
                  go_meet
                  case rel => exact ⟨_, (!t317), (by first | rfl | (simp; done) | (simp [*]; done)), H', ⟨by have := HJ1.out; first | omega | exact Nat.le_refl _⟩, ⟨by (with_reducible repeat (first | refine bN ?_ _ | refine bD ?_ | refine bA ?_ _)); exact BK303.out⟩, ⟨by (with_reducible repeat (first | refine bN ?_ _ | refine bD ?_ | refine bA ?_ _)); exact BK304.out⟩, ⟨by (with_reducible repeat (first | refine bN ?_ _ | refine bD ?_ | refine bA ?_ _)); exact BK305.out⟩, ⟨by (with_reducible repeat (first | refine bN ?_ _ | refine bD ?_ | refine bA ?_ _)); exact BK306.out⟩, ⟨by repeat (first | (with_reducible first | exact HB.out | apply wA | apply wN | apply wD | refine below_set ?_ GE303.out | refine below_set ?_ GE304.out | refine below_set ?_ GE305.out | refine below_set ?_ GE306.out) | exact HB.out)⟩⟩
                 ·replace c86 := Bool.eq_false_iff.mpr c86
                  subst c86
                  have H1 : (mummerlaw03_SpansOrder.j1 kj1 true false false a0_0 a0_1 a0_2 a0_3) = some r := by rw [if_neg (show ¬ (false = true) by decide)] at H; exact H
                  clear H
                  have H := H1
                  clear H1
                  have H' := ak H
                  clear H
                  have hnb96 := NB304_303.out
                  have hnc96 := NB303_304.out
                  have hnb97 := NB304_305.out
                  have hnc97 := NB305_304.out
                  have hnb98 := NB304_306.out
                  have hnc98 := NB306_304.out
                  have hcz99_0 : w74.cell? ⟨gb304, 0, none⟩ = some (.int .i64 a0_0) := (blk_cell BK304.out 0).trans rfl
                  have hcz99_1 : w74.cell? ⟨gb304, 1, none⟩ = some (.int .i64 a0_1) := (blk_cell BK304.out 1).trans rfl
                  have hfz99_0 := blk_frozen BK304.out 0
                  have hfz99_1 := blk_frozen BK304.out 1
                  have hnb100 := NB305_303.out
                  have hnc100 := NB303_305.out
                  have hnb101 := NB305_306.out
                  have hnc101 := NB306_305.out
                  have hcz102_0 : w74.cell? ⟨gb305, 0, none⟩ = some (.int .i64 a0_2) := (blk_cell BK305.out 0).trans rfl
                  have hcz102_1 : w74.cell? ⟨gb305, 1, none⟩ = some (.int .i64 a0_3) := (blk_cell BK305.out 1).trans rfl
                  have hfz102_0 := blk_frozen BK305.out 0
                  have hfz102_1 := blk_frozen BK305.out 1
                  have hnb103 := NB306_303.out
                  have hnc103 := NB303_306.out
                  have hcz104_0 : w74.cell? ⟨gb306, 0, none⟩ = some (.int .i64 a0_4) := (blk_cell BK306.out 0).trans rfl
                  have hcz104_1 : w74.cell? ⟨gb306, 1, none⟩ = some (.int .i64 a0_5) := (blk_cell BK306.out 1).trans rfl
                  have hfz104_0 := blk_frozen BK306.out 0
                  have hfz104_1 := blk_frozen BK306.out 1
                  go_wp2
                  go_meet
                  case rel => exact ⟨_, (false), (by first | rfl | (simp; done) | (simp [*]; done)), H', ⟨by have := HJ1.out; first | omega | exact Nat.le_refl _⟩, ⟨by (with_reducible repeat (first | refine bN ?_ _ | refine bD ?_ | refine bA ?_ _)); exact BK303.out⟩, ⟨by (with_reducible repeat (first | refine bN ?_ _ | refine bD ?_ | refine bA ?_ _)); exact BK304.out⟩, ⟨by (with_reducible repeat (first | refine bN ?_ _ | refine bD ?_ | refine bA ?_ _)); exact BK305.out⟩, ⟨by (with_reducible repeat (first | refine bN ?_ _ | refine bD ?_ | refine bA ?_ _)); exact BK306.out⟩, ⟨by repeat (first | (with_reducible first | exact HB.out | apply wA | apply wN | apply wD | refine below_set ?_ GE303.out | refine below_set ?_ GE304.out | refine below_set ?_ GE305.out | refine below_set ?_ GE306.out) | exact HB.out)⟩⟩
                ·rw [if_neg c85] at H
                 have c85b0 : decide (a0_4 < a0_5) = false := decide_eq_false c85
                 clear c85
                 have H' := ak H
                 clear H
                 have hnb105 := NB304_303.out
                 have hnc105 := NB303_304.out
                 have hnb106 := NB304_305.out
                 have hnc106 := NB305_304.out
                 have hnb107 := NB304_306.out
                 have hnc107 := NB306_304.out
                 have hcz108_0 : w74.cell? ⟨gb304, 0, none⟩ = some (.int .i64 a0_0) := (blk_cell BK304.out 0).trans rfl
                 have hcz108_1 : w74.cell? ⟨gb304, 1, none⟩ = some (.int .i64 a0_1) := (blk_cell BK304.out 1).trans rfl
                 have hfz108_0 := blk_frozen BK304.out 0
                 have hfz108_1 := blk_frozen BK304.out 1
                 have hnb109 := NB305_303.out
                 have hnc109 := NB303_305.out
                 have hnb110 := NB305_306.out
                 have hnc110 := NB306_305.out
                 have hcz111_0 : w74.cell? ⟨gb305, 0, none⟩ = some (.int .i64 a0_2) := (blk_cell BK305.out 0).trans rfl
                 have hcz111_1 : w74.cell? ⟨gb305, 1, none⟩ = some (.int .i64 a0_3) := (blk_cell BK305.out 1).trans rfl
                 have hfz111_0 := blk_frozen BK305.out 0
                 have hfz111_1 := blk_frozen BK305.out 1
                 have hnb112 := NB306_303.out
                 have hnc112 := NB303_306.out
                 have hcz113_0 : w74.cell? ⟨gb306, 0, none⟩ = some (.int .i64 a0_4) := (blk_cell BK306.out 0).trans rfl
                 have hcz113_1 : w74.cell? ⟨gb306, 1, none⟩ = some (.int .i64 a0_5) := (blk_cell BK306.out 1).trans rfl
                 have hfz113_0 := blk_frozen BK306.out 0
                 have hfz113_1 := blk_frozen BK306.out 1
                 go_wp2
                 go_meet
                 case rel => exact ⟨_, (false), (by first | rfl | (simp; done) | (simp [*]; done)), H', ⟨by have := HJ1.out; first | omega | exact Nat.le_refl _⟩, ⟨by (with_reducible repeat (first | refine bN ?_ _ | refine bD ?_ | refine bA ?_ _)); exact BK303.out⟩, ⟨by (with_reducible repeat (first | refine bN ?_ _ | refine bD ?_ | refine bA ?_ _)); exact BK304.out⟩, ⟨by (with_reducible repeat (first | refine bN ?_ _ | refine bD ?_ | refine bA ?_ _)); exact BK305.out⟩, ⟨by (with_reducible repeat (first | refine bN ?_ _ | refine bD ?_ | refine bA ?_ _)); exact BK306.out⟩, ⟨by repeat (first | (with_reducible first | exact HB.out | apply wA | apply wN | apply wD | refine below_set ?_ GE303.out | refine below_set ?_ GE304.out | refine below_set ?_ GE305.out | refine below_set ?_ GE306.out) | exact HB.out)⟩⟩
               ·rw [if_neg c84] at H
                have c84b0 : decide (a0_2 < a0_3) = false := decide_eq_false c84
                clear c84
                have H' := ak H
                clear H
                have hnb114 := NB304_303.out
                have hnc114 := NB303_304.out
                have hnb115 := NB304_305.out
                have hnc115 := NB305_304.out
                have hnb116 := NB304_306.out
                have hnc116 := NB306_304.out
                have hcz117_0 : w74.cell? ⟨gb304, 0, none⟩ = some (.int .i64 a0_0) := (blk_cell BK304.out 0).trans rfl
                have hcz117_1 : w74.cell? ⟨gb304, 1, none⟩ = some (.int .i64 a0_1) := (blk_cell BK304.out 1).trans rfl
                have hfz117_0 := blk_frozen BK304.out 0
                have hfz117_1 := blk_frozen BK304.out 1
                have hnb118 := NB305_303.out
                have hnc118 := NB303_305.out
                have hnb119 := NB305_306.out
                have hnc119 := NB306_305.out
                have hcz120_0 : w74.cell? ⟨gb305, 0, none⟩ = some (.int .i64 a0_2) := (blk_cell BK305.out 0).trans rfl
                have hcz120_1 : w74.cell? ⟨gb305, 1, none⟩ = some (.int .i64 a0_3) := (blk_cell BK305.out 1).trans rfl
                have hfz120_0 := blk_frozen BK305.out 0
                have hfz120_1 := blk_frozen BK305.out 1
                go_wp2
                go_meet
                case rel => exact ⟨_, (false), (by first | rfl | (simp; done) | (simp [*]; done)), H', ⟨by have := HJ1.out; first | omega | exact Nat.le_refl _⟩, ⟨by (with_reducible repeat (first | refine bN ?_ _ | refine bD ?_ | refine bA ?_ _)); exact BK303.out⟩, ⟨by (with_reducible repeat (first | refine bN ?_ _ | refine bD ?_ | refine bA ?_ _)); exact BK304.out⟩, ⟨by (with_reducible repeat (first | refine bN ?_ _ | refine bD ?_ | refine bA ?_ _)); exact BK305.out⟩, ⟨by (with_reducible repeat (first | refine bN ?_ _ | refine bD ?_ | refine bA ?_ _)); exact BK306.out⟩, ⟨by repeat (first | (with_reducible first | exact HB.out | apply wA | apply wN | apply wD | refine below_set ?_ GE303.out | refine below_set ?_ GE304.out | refine below_set ?_ GE305.out | refine below_set ?_ GE306.out) | exact HB.out)⟩⟩
              ·rw [if_neg c83] at H
               have c83b0 : decide (a0_0 < a0_1) = false := decide_eq_false c83
               clear c83
               have H' := ak H
               clear H
               have hnb121 := NB304_303.out
               have hnc121 := NB303_304.out
               have hnb122 := NB304_305.out
               have hnc122 := NB305_304.out
               have hnb123 := NB304_306.out
               have hnc123 := NB306_304.out
               have hcz124_0 : w74.cell? ⟨gb304, 0, none⟩ = some (.int .i64 a0_0) := (blk_cell BK304.out 0).trans rfl
               have hcz124_1 : w74.cell? ⟨gb304, 1, none⟩ = some (.int .i64 a0_1) := (blk_cell BK304.out 1).trans rfl
               have hfz124_0 := blk_frozen BK304.out 0
               have hfz124_1 := blk_frozen BK304.out 1
               go_wp2
               go_meet
               case rel => exact ⟨_, (false), (by first | rfl | (simp; done) | (simp [*]; done)), H', ⟨by have := HJ1.out; first | omega | exact Nat.le_refl _⟩, ⟨by (with_reducible repeat (first | refine bN ?_ _ | refine bD ?_ | refine bA ?_ _)); exact BK303.out⟩, ⟨by (with_reducible repeat (first | refine bN ?_ _ | refine bD ?_ | refine bA ?_ _)); exact BK304.out⟩, ⟨by (with_reducible repeat (first | refine bN ?_ _ | refine bD ?_ | refine bA ?_ _)); exact BK305.out⟩, ⟨by (with_reducible repeat (first | refine bN ?_ _ | refine bD ?_ | refine bA ?_ _)); exact BK306.out⟩, ⟨by repeat (first | (with_reducible first | exact HB.out | apply wA | apply wN | apply wD | refine below_set ?_ GE303.out | refine below_set ?_ GE304.out | refine below_set ?_ GE305.out | refine below_set ?_ GE306.out) | exact HB.out)⟩⟩
            ·replace c81 := Bool.eq_false_iff.mpr c81
             subst c81
             have H1 : (if a0_0 < a0_1 then (if a0_2 < a0_3 then (if a0_4 < a0_5 then (mummerlaw03_SpansOrder.j1 kj1 false t313 false a0_0 a0_1 a0_2 a0_3) else (mummerlaw03_SpansOrder.j1 kj1 false t313 false a0_0 a0_1 a0_2 a0_3)) else (mummerlaw03_SpansOrder.j1 kj1 false t313 false a0_0 a0_1 a0_2 a0_3)) else (mummerlaw03_SpansOrder.j1 kj1 false t313 false a0_0 a0_1 a0_2 a0_3)) = some r := by rw [if_neg (show ¬ (false = true) by decide)] at H; exact H
             clear H
             have H := H1
             clear H1
             by_cases c125 : a0_0 < a0_1
             ·rw [if_pos c125] at H
              have c125b0 : decide (a0_0 < a0_1) = true := decide_eq_true c125
              clear c125
              by_cases c126 : a0_2 < a0_3
              ·rw [if_pos c126] at H
               have c126b0 : decide (a0_2 < a0_3) = true := decide_eq_true c126
               clear c126
               by_cases c127 : a0_4 < a0_5
               ·rw [if_pos c127] at H
                have c127b0 : decide (a0_4 < a0_5) = true := decide_eq_true c127
                clear c127
                have H' := ak H
                clear H
                have hnb128 := NB304_303.out
                have hnc128 := NB303_304.out
                have hnb129 := NB304_305.out
                have hnc129 := NB305_304.out
                have hnb130 := NB304_306.out
                have hnc130 := NB306_304.out
                have hcz131_0 : w74.cell? ⟨gb304, 0, none⟩ = some (.int .i64 a0_0) := (blk_cell BK304.out 0).trans rfl
                have hcz131_1 : w74.cell? ⟨gb304, 1, none⟩ = some (.int .i64 a0_1) := (blk_cell BK304.out 1).trans rfl
                have hfz131_0 := blk_frozen BK304.out 0
                have hfz131_1 := blk_frozen BK304.out 1
                have hnb132 := NB305_303.out
                have hnc132 := NB303_305.out
                have hnb133 := NB305_306.out
                have hnc133 := NB306_305.out
                have hcz134_0 : w74.cell? ⟨gb305, 0, none⟩ = some (.int .i64 a0_2) := (blk_cell BK305.out 0).trans rfl
                have hcz134_1 : w74.cell? ⟨gb305, 1, none⟩ = some (.int .i64 a0_3) := (blk_cell BK305.out 1).trans rfl
                have hfz134_0 := blk_frozen BK305.out 0
                have hfz134_1 := blk_frozen BK305.out 1
                have hnb135 := NB306_303.out
                have hnc135 := NB303_306.out
                have hcz136_0 : w74.cell? ⟨gb306, 0, none⟩ = some (.int .i64 a0_4) := (blk_cell BK306.out 0).trans rfl
                have hcz136_1 : w74.cell? ⟨gb306, 1, none⟩ = some (.int .i64 a0_5) := (blk_cell BK306.out 1).trans rfl
                have hfz136_0 := blk_frozen BK306.out 0
                have hfz136_1 := blk_frozen BK306.out 1
                go_wp2
                go_meet
                case rel => exact ⟨_, (false), (by first | rfl | (simp; done) | (simp [*]; done)), H', ⟨by have := HJ1.out; first | omega | exact Nat.le_refl _⟩, ⟨by (with_reducible repeat (first | refine bN ?_ _ | refine bD ?_ | refine bA ?_ _)); exact BK303.out⟩, ⟨by (with_reducible repeat (first | refine bN ?_ _ | refine bD ?_ | refine bA ?_ _)); exact BK304.out⟩, ⟨by (with_reducible repeat (first | refine bN ?_ _ | refine bD ?_ | refine bA ?_ _)); exact BK305.out⟩, ⟨by (with_reducible repeat (first | refine bN ?_ _ | refine bD ?_ | refine bA ?_ _)); exact BK306.out⟩, ⟨by repeat (first | (with_reducible first | exact HB.out | apply wA | apply wN | apply wD | refine below_set ?_ GE303.out | refine below_set ?_ GE304.out | refine below_set ?_ GE305.out | refine below_set ?_ GE306.out) | exact HB.out)⟩⟩
               ·rw [if_neg c127] at H
                have c127b0 : decide (a0_4 < a0_5) = false := decide_eq_false c127
                clear c127
                have H' := ak H
                clear H
                have hnb137 := NB304_303.out
                have hnc137 := NB303_304.out
                have hnb138 := NB304_305.out
                have hnc138 := NB305_304.out
                have hnb139 := NB304_306.out
                have hnc139 := NB306_304.out
                have hcz140_0 : w74.cell? ⟨gb304, 0, none⟩ = some (.int .i64 a0_0) := (blk_cell BK304.out 0).trans rfl
                have hcz140_1 : w74.cell? ⟨gb304, 1, none⟩ = some (.int .i64 a0_1) := (blk_cell BK304.out 1).trans rfl
                have hfz140_0 := blk_frozen BK304.out 0
                have hfz140_1 := blk_frozen BK304.out 1
                have hnb141 := NB305_303.out
                have hnc141 := NB303_305.out
                have hnb142 := NB305_306.out
                have hnc142 := NB306_305.out
                have hcz143_0 : w74.cell? ⟨gb305, 0, none⟩ = some (.int .i64 a0_2) := (blk_cell BK305.out 0).trans rfl
                have hcz143_1 : w74.cell? ⟨gb305, 1, none⟩ = some (.int .i64 a0_3) := (blk_cell BK305.out 1).trans rfl
                have hfz143_0 := blk_frozen BK305.out 0
                have hfz143_1 := blk_frozen BK305.out 1
                have hnb144 := NB306_303.out
                have hnc144 := NB303_306.out
                have hcz145_0 : w74.cell? ⟨gb306, 0, none⟩ = some (.int .i64 a0_4) := (blk_cell BK306.out 0).trans rfl
                have hcz145_1 : w74.cell? ⟨gb306, 1, none⟩ = some (.int .i64 a0_5) := (blk_cell BK306.out 1).trans rfl
                have hfz145_0 := blk_frozen BK306.out 0
                have hfz145_1 := blk_frozen BK306.out 1
                go_wp2
                go_meet
                case rel => exact ⟨_, (false), (by first | rfl | (simp; done) | (simp [*]; done)), H', ⟨by have := HJ1.out; first | omega | exact Nat.le_refl _⟩, ⟨by (with_reducible repeat (first | refine bN ?_ _ | refine bD ?_ | refine bA ?_ _)); exact BK303.out⟩, ⟨by (with_reducible repeat (first | refine bN ?_ _ | refine bD ?_ | refine bA ?_ _)); exact BK304.out⟩, ⟨by (with_reducible repeat (first | refine bN ?_ _ | refine bD ?_ | refine bA ?_ _)); exact BK305.out⟩, ⟨by (with_reducible repeat (first | refine bN ?_ _ | refine bD ?_ | refine bA ?_ _)); exact BK306.out⟩, ⟨by repeat (first | (with_reducible first | exact HB.out | apply wA | apply wN | apply wD | refine below_set ?_ GE303.out | refine below_set ?_ GE304.out | refine below_set ?_ GE305.out | refine below_set ?_ GE306.out) | exact HB.out)⟩⟩
              ·rw [if_neg c126] at H
               have c126b0 : decide (a0_2 < a0_3) = false := decide_eq_false c126
               clear c126
               have H' := ak H
               clear H
               have hnb146 := NB304_303.out
               have hnc146 := NB303_304.out
               have hnb147 := NB304_305.out
               have hnc147 := NB305_304.out
               have hnb148 := NB304_306.out
               have hnc148 := NB306_304.out
               have hcz149_0 : w74.cell? ⟨gb304, 0, none⟩ = some (.int .i64 a0_0) := (blk_cell BK304.out 0).trans rfl
               have hcz149_1 : w74.cell? ⟨gb304, 1, none⟩ = some (.int .i64 a0_1) := (blk_cell BK304.out 1).trans rfl
               have hfz149_0 := blk_frozen BK304.out 0
               have hfz149_1 := blk_frozen BK304.out 1
               have hnb150 := NB305_303.out
               have hnc150 := NB303_305.out
               have hnb151 := NB305_306.out
               have hnc151 := NB306_305.out
               have hcz152_0 : w74.cell? ⟨gb305, 0, none⟩ = some (.int .i64 a0_2) := (blk_cell BK305.out 0).trans rfl
               have hcz152_1 : w74.cell? ⟨gb305, 1, none⟩ = some (.int .i64 a0_3) := (blk_cell BK305.out 1).trans rfl
               have hfz152_0 := blk_frozen BK305.out 0
               have hfz152_1 := blk_frozen BK305.out 1
               go_wp2
               go_meet
               case rel => exact ⟨_, (false), (by first | rfl | (simp; done) | (simp [*]; done)), H', ⟨by have := HJ1.out; first | omega | exact Nat.le_refl _⟩, ⟨by (with_reducible repeat (first | refine bN ?_ _ | refine bD ?_ | refine bA ?_ _)); exact BK303.out⟩, ⟨by (with_reducible repeat (first | refine bN ?_ _ | refine bD ?_ | refine bA ?_ _)); exact BK304.out⟩, ⟨by (with_reducible repeat (first | refine bN ?_ _ | refine bD ?_ | refine bA ?_ _)); exact BK305.out⟩, ⟨by (with_reducible repeat (first | refine bN ?_ _ | refine bD ?_ | refine bA ?_ _)); exact BK306.out⟩, ⟨by repeat (first | (with_reducible first | exact HB.out | apply wA | apply wN | apply wD | refine below_set ?_ GE303.out | refine below_set ?_ GE304.out | refine below_set ?_ GE305.out | refine below_set ?_ GE306.out) | exact HB.out)⟩⟩
             ·rw [if_neg c125] at H
              have c125b0 : decide (a0_0 < a0_1) = false := decide_eq_false c125
              clear c125
              have H' := ak H
              clear H
              have hnb153 := NB304_303.out
              have hnc153 := NB303_304.out
              have hnb154 := NB304_305.out
              have hnc154 := NB305_304.out
              have hnb155 := NB304_306.out
              have hnc155 := NB306_304.out
              have hcz156_0 : w74.cell? ⟨gb304, 0, none⟩ = some (.int .i64 a0_0) := (blk_cell BK304.out 0).trans rfl
              have hcz156_1 : w74.cell? ⟨gb304, 1, none⟩ = some (.int .i64 a0_1) := (blk_cell BK304.out 1).trans rfl
              have hfz156_0 := blk_frozen BK304.out 0
              have hfz156_1 := blk_frozen BK304.out 1
              go_wp2
              go_meet
              case rel => exact ⟨_, (false), (by first | rfl | (simp; done) | (simp [*]; done)), H', ⟨by have := HJ1.out; first | omega | exact Nat.le_refl _⟩, ⟨by (with_reducible repeat (first | refine bN ?_ _ | refine bD ?_ | refine bA ?_ _)); exact BK303.out⟩, ⟨by (with_reducible repeat (first | refine bN ?_ _ | refine bD ?_ | refine bA ?_ _)); exact BK304.out⟩, ⟨by (with_reducible repeat (first | refine bN ?_ _ | refine bD ?_ | refine bA ?_ _)); exact BK305.out⟩, ⟨by (with_reducible repeat (first | refine bN ?_ _ | refine bD ?_ | refine bA ?_ _)); exact BK306.out⟩, ⟨by repeat (first | (with_reducible first | exact HB.out | apply wA | apply wN | apply wD | refine below_set ?_ GE303.out | refine below_set ?_ GE304.out | refine below_set ?_ GE305.out | refine below_set ?_ GE306.out) | exact HB.out)⟩⟩
          ·rw [if_neg c79] at H
           have c79b0 : (t320 == 0) = false := beq_eq_false_iff_ne.mpr c79
           have c79b1 : (t320 != 0) = true := bne_iff_ne.mpr c79
           exact absurd ((Option.some.inj H).trans hrt.out) (by decide)
         ·rw [if_neg c78] at H
          have c78b0 : (t318 == 0) = false := beq_eq_false_iff_ne.mpr c78
          have c78b1 : (t318 != 0) = true := bne_iff_ne.mpr c78
          exact absurd ((Option.some.inj H).trans hrt.out) (by decide)
        ·rw [if_neg c77] at H
         have c77b0 : (t316 == 0) = false := beq_eq_false_iff_ne.mpr c77
         have c77b1 : (t316 != 0) = true := bne_iff_ne.mpr c77
         exact absurd ((Option.some.inj H).trans hrt.out) (by decide)
       ·rw [if_neg c76] at H
        have c76b0 : (t314 == 0) = false := beq_eq_false_iff_ne.mpr c76
        have c76b1 : (t314 != 0) = true := bne_iff_ne.mpr c76
        exact absurd ((Option.some.inj H).trans hrt.out) (by decide)
      ·rw [if_neg c75] at H
       have c75b0 : (t312 == 0) = false := beq_eq_false_iff_ne.mpr c75
       have c75b1 : (t312 != 0) = true := bne_iff_ne.mpr c75
       (first | rw [c75b0] | (simp only [i64_w, i32_w]; rw [c75b0]) | skip)
       exact absurd ((Option.some.inj H).trans hrt.out) (by decide)
    case rest =>
     as_aux_lemma =>
      clear HC54
      try clear c1
      try clear c2
      try clear p2
      try clear c3
      try clear c4
      try clear c5
      try clear c6
      try clear c7
      try clear c8
      try clear c9
      try clear c10
      try clear c11
      try clear c12
      try clear c13
      try clear c14
      try clear c15
      try clear c16
      try clear c18
      try clear c19
      try clear c20
      try clear c21
      try clear c22
      try clear c25
      try clear c26
      try clear c29
      try clear c32
      try clear c33
      try clear c34
      try clear c37
      try clear c38
      try clear c41
      try clear c42
      try clear c43
      try clear c46
      try clear c55
      try clear c56
      try clear c57
      try clear c59
      try clear c60
      try clear c67
      try clear c75
      try clear c75b0
      try clear c75b1
      try clear c76
      try clear c76b0
      try clear c76b1
      try clear c77
      try clear c77b0
      try clear c77b1
      try clear c78
      try clear c78b0
      try clear c78b1
      try clear c79
      try clear c79b0
      try clear c79b1
      try clear c80
      try clear c81
      try clear c82
      try clear c83
      try clear c83b0
      try clear c84
      try clear c84b0
      try clear c85
      try clear c85b0
      try clear c86
      try clear c87
      try clear c88
      try clear c89
      try clear c91
      try clear c92
      try clear c94
      try clear c96
      try clear c97
      try clear c98
      try clear c100
      try clear c101
      try clear c103
      try clear c105
      try clear c106
      try clear c107
      try clear c109
      try clear c110
      try clear c112
      try clear c114
      try clear c115
      try clear c116
      try clear c118
      try clear c119
      try clear c121
      try clear c122
      try clear c123
      try clear c125
      try clear c125b0
      try clear c126
      try clear c126b0
      try clear c127
      try clear c127b0
      try clear c128
      try clear c129
      try clear c130
      try clear c132
      try clear c133
      try clear c135
      try clear c137
      try clear c138
      try clear c139
      try clear c141
      try clear c142
      try clear c144
      try clear c146
      try clear c147
      try clear c148
      try clear c150
      try clear c151
      try clear c153
      try clear c154
      try clear c155
      try clear hcz102_0
      try clear hcz102_1
      try clear hcz104_0
      try clear hcz104_1
      try clear hcz108_0
      try clear hcz108_1
      try clear hcz111_0
      try clear hcz111_1
      try clear hcz113_0
      try clear hcz113_1
      try clear hcz117_0
      try clear hcz117_1
      try clear hcz120_0
      try clear hcz120_1
      try clear hcz124_0
      try clear hcz124_1
      try clear hcz131_0
      try clear hcz131_1
      try clear hcz134_0
      try clear hcz134_1
      try clear hcz136_0
      try clear hcz136_1
      try clear hcz140_0
      try clear hcz140_1
      try clear hcz143_0
      try clear hcz143_1
      try clear hcz145_0
      try clear hcz145_1
      try clear hcz149_0
      try clear hcz149_1
      try clear hcz152_0
      try clear hcz152_1
      try clear hcz156_0
      try clear hcz156_1
      try clear hcz23_0
      try clear hcz23_1
      try clear hcz27_0
      try clear hcz27_1
      try clear hcz30_0
      try clear hcz30_1
      try clear hcz35_0
      try clear hcz35_1
      try clear hcz39_0
      try clear hcz39_1
      try clear hcz44_0
      try clear hcz44_1
      try clear hcz58_0
      try clear hcz58_1
      try clear hcz61_0
      try clear hcz61_1
      try clear hcz63_0
      try clear hcz63_1
      try clear hcz64_0
      try clear hcz64_1
      try clear hcz66_0
      try clear hcz66_1
      try clear hcz68_0
      try clear hcz68_1
      try clear hcz70_0
      try clear hcz70_1
      try clear hcz71_0
      try clear hcz71_1
      try clear hcz73_0
      try clear hcz73_1
      try clear hcz90_0
      try clear hcz90_1
      try clear hcz93_0
      try clear hcz93_1
      try clear hcz95_0
      try clear hcz95_1
      try clear hcz99_0
      try clear hcz99_1
      try clear hfz102_0
      try clear hfz102_1
      try clear hfz104_0
      try clear hfz104_1
      try clear hfz108_0
      try clear hfz108_1
      try clear hfz111_0
      try clear hfz111_1
      try clear hfz113_0
      try clear hfz113_1
      try clear hfz117_0
      try clear hfz117_1
      try clear hfz120_0
      try clear hfz120_1
      try clear hfz124_0
      try clear hfz124_1
      try clear hfz131_0
      try clear hfz131_1
      try clear hfz134_0
      try clear hfz134_1
      try clear hfz136_0
      try clear hfz136_1
      try clear hfz140_0
      try clear hfz140_1
      try clear hfz143_0
      try clear hfz143_1
      try clear hfz145_0
      try clear hfz145_1
      try clear hfz149_0
      try clear hfz149_1
      try clear hfz152_0
      try clear hfz152_1
      try clear hfz156_0
      try clear hfz156_1
      try clear hfz23_0
      try clear hfz23_1
      try clear hfz27_0
      try clear hfz27_1
      try clear hfz30_0
      try clear hfz30_1
      try clear hfz35_0
      try clear hfz35_1
      try clear hfz39_0
      try clear hfz39_1
      try clear hfz44_0
      try clear hfz44_1
      try clear hfz58_0
      try clear hfz58_1
      try clear hfz61_0
      try clear hfz61_1
      try clear hfz63_0
      try clear hfz63_1
      try clear hfz64_0
      try clear hfz64_1
      try clear hfz66_0
      try clear hfz66_1
      try clear hfz68_0
      try clear hfz68_1
      try clear hfz70_0
      try clear hfz70_1
      try clear hfz71_0
      try clear hfz71_1
      try clear hfz73_0
      try clear hfz73_1
      try clear hfz90_0
      try clear hfz90_1
      try clear hfz93_0
      try clear hfz93_1
      try clear hfz95_0
      try clear hfz95_1
      try clear hfz99_0
      try clear hfz99_1
      try clear p2
      obtain ⟨kq, x129_53, rfl, HA, HJ53, BK303, BK304, BK305, BK306, HB⟩ := hcut
      cases kq with
      | zero => exact absurd HA.out (by simp [mummerlaw03_SpansOrder.j1])
      | succ kj53 =>
       have H := HA.out
       clear HA
       simp only [mummerlaw03_SpansOrder.j1] at H
       by_cases c157 : x129_53 = true
       ·subst c157
        have H1 : (some false) = some r := by rw [if_pos rfl] at H; exact H
        clear H
        have H := H1
        clear H1
        exact absurd ((Option.some.inj H).trans hrt.out) (by decide)
       ·replace c157 := Bool.eq_false_iff.mpr c157
        subst c157
        have H1 : ((spans_Within.f kj53 a0_0 a0_1 a0_2 a0_3).bind fun bt321 => ((spans_Within.f kj53 a0_2 a0_3 a0_0 a0_1).bind fun bt323 => ((spans_Meet.f kj53 a0_0 a0_1 a0_2 a0_3).bind fun bt325 => (if bt321.2 = 0 then (if bt323.2 = 0 then (if bt325.2.2.2 = 0 then (if bt321.1 = true then (mummerlaw03_SpansOrder.j2 kj53 t311 t313 bt321.1 bt323.1 bt325.2.2.1 (bt323.1 != (a0_0 == a0_2 && (a0_1 == a0_3))) a0_0 a0_1 a0_2 a0_3 bt325.1 bt325.2.1) else (mummerlaw03_SpansOrder.j2 kj53 t311 t313 bt321.1 bt323.1 bt325.2.2.1 false a0_0 a0_1 a0_2 a0_3 bt325.1 bt325.2.1)) else (some false)) else (some false)) else (some false))))) = some r := by rw [if_neg (show ¬ (false = true) by decide)] at H; exact H
        clear H
        have H := H1
        clear H1
        replace H := Option.bind_eq_some_iff.mp H
        obtain ⟨⟨t321, t322⟩, A1580, H⟩ := H
        replace H : ((spans_Within.f kj53 a0_2 a0_3 a0_0 a0_1).bind fun bt323 => ((spans_Meet.f kj53 a0_0 a0_1 a0_2 a0_3).bind fun bt325 => (if t322 = 0 then (if bt323.2 = 0 then (if bt325.2.2.2 = 0 then (if t321 = true then (mummerlaw03_SpansOrder.j2 kj53 t311 t313 t321 bt323.1 bt325.2.2.1 (bt323.1 != (a0_0 == a0_2 && (a0_1 == a0_3))) a0_0 a0_1 a0_2 a0_3 bt325.1 bt325.2.1) else (mummerlaw03_SpansOrder.j2 kj53 t311 t313 t321 bt323.1 bt325.2.2.1 false a0_0 a0_1 a0_2 a0_3 bt325.1 bt325.2.1)) else (some false)) else (some false)) else (some false)))) = some r := H
        have A158 := ak A1580
        clear A1580
        replace H := Option.bind_eq_some_iff.mp H
        obtain ⟨⟨t323, t324⟩, A1590, H⟩ := H
        replace H : ((spans_Meet.f kj53 a0_0 a0_1 a0_2 a0_3).bind fun bt325 => (if t322 = 0 then (if t324 = 0 then (if bt325.2.2.2 = 0 then (if t321 = true then (mummerlaw03_SpansOrder.j2 kj53 t311 t313 t321 t323 bt325.2.2.1 (t323 != (a0_0 == a0_2 && (a0_1 == a0_3))) a0_0 a0_1 a0_2 a0_3 bt325.1 bt325.2.1) else (mummerlaw03_SpansOrder.j2 kj53 t311 t313 t321 t323 bt325.2.2.1 false a0_0 a0_1 a0_2 a0_3 bt325.1 bt325.2.1)) else (some false)) else (some false)) else (some false))) = some r := H
        have A159 := ak A1590
        clear A1590
        replace H := Option.bind_eq_some_iff.mp H
        obtain ⟨⟨t325, t326, t327, t328⟩, A1600, H⟩ := H
        replace H : (if t322 = 0 then (if t324 = 0 then (if t328 = 0 then (if t321 = true then (mummerlaw03_SpansOrder.j2 kj53 t311 t313 t321 t323 t327 (t323 != (a0_0 == a0_2 && (a0_1 == a0_3))) a0_0 a0_1 a0_2 a0_3 t325 t326) else (mummerlaw03_SpansOrder.j2 kj53 t311 t313 t321 t323 t327 false a0_0 a0_1 a0_2 a0_3 t325 t326)) else (some false)) else (some false)) else (some false)) = some r := H
        have A160 := ak A1600
        clear A1600
        have HC161 := ak H
        clear H
        have hnb162 := NB304_303.out
        have hnc162 := NB303_304.out
        have hnb163 := NB304_305.out
        have hnc163 := NB305_304.out
        have hnb164 := NB304_306.out
        have hnc164 := NB306_304.out
        have hcz165_0 : wc.cell? ⟨gb304, 0, none⟩ = some (.int .i64 a0_0) := (blk_cell BK304.out 0).trans rfl
        have hcz165_1 : wc.cell? ⟨gb304, 1, none⟩ = some (.int .i64 a0_1) := (blk_cell BK304.out 1).trans rfl
        have hfz165_0 := blk_frozen BK304.out 0
        have hfz165_1 := blk_frozen BK304.out 1
        have hnb166 := NB305_303.out
        have hnc166 := NB303_305.out
        have hnb167 := NB305_306.out
        have hnc167 := NB306_305.out
        have hcz168_0 : wc.cell? ⟨gb305, 0, none⟩ = some (.int .i64 a0_2) := (blk_cell BK305.out 0).trans rfl
        have hcz168_1 : wc.cell? ⟨gb305, 1, none⟩ = some (.int .i64 a0_3) := (blk_cell BK305.out 1).trans rfl
        have hfz168_0 := blk_frozen BK305.out 0
        have hfz168_1 := blk_frozen BK305.out 1
        go_upto_region 14 with (first | ((with_reducible refine gate_callee (f := 20) rfl ?_); refine goesL_ (some 133) rfl rfl Tryd.func20 (by kernel_rfl) rfl #[.agg #[.int .i64 a0_0, .int .i64 a0_1], .agg #[.int .i64 a0_2, .int .i64 a0_3]] rfl (by (try simp only [List.map_toArray, List.map_cons, List.map_nil]); first | done | rfl | (simp only [List.length_drop, List.length_take]; rfl)) ?_; (with_reducible refine (spans_Within.calls kj53 a0_0 a0_1 a0_2 a0_3 t321 t322 _ A158.out).mono ?_); rintro e w169 ⟨rfl, hb⟩; refine ⟨_, rfl, ?_⟩; have n0_ := ak (blk_below (g := gb303) (o := .cells #[.int .i64 a0_0, .int .i64 a0_1, .int .i64 a0_2, .int .i64 a0_3, .int .i64 a0_4, .int .i64 a0_5] 37 (0, 0)) (by (with_reducible repeat (first | refine bN ?_ _ | refine bD ?_ | refine bA ?_ _)); exact BK303.out) hb); have n1_ := ak (blk_below (g := gb304) (o := .cells #[.int .i64 a0_0, .int .i64 a0_1] 24 (0, 0)) (by (with_reducible repeat (first | refine bN ?_ _ | refine bD ?_ | refine bA ?_ _)); exact BK304.out) hb); have n2_ := ak (blk_below (g := gb305) (o := .cells #[.int .i64 a0_2, .int .i64 a0_3] 24 (0, 0)) (by (with_reducible repeat (first | refine bN ?_ _ | refine bD ?_ | refine bA ?_ _)); exact BK305.out) hb); have n3_ := ak (blk_below (g := gb306) (o := .cells #[.int .i64 a0_4, .int .i64 a0_5] 24 (0, 0)) (by (with_reducible repeat (first | refine bN ?_ _ | refine bD ?_ | refine bA ?_ _)); exact BK306.out) hb); have n4_ := ak (below_step (by repeat (first | (with_reducible first | exact HB.out | apply wA | apply wN | apply wD | refine below_set ?_ GE303.out | refine below_set ?_ GE304.out | refine below_set ?_ GE305.out | refine below_set ?_ GE306.out) | exact HB.out)) hb); clear BK303; clear BK304; clear BK305; clear BK306; clear HB; have BK303 := n0_; have BK304 := n1_; have BK305 := n2_; have BK306 := n3_; have HB := n4_; clear n0_ n1_ n2_ n3_ n4_; (try clear hb); (try clear hb2); (try clear hk); (try clear hi); have hcz170_0 : w169.cell? ⟨gb305, 0, none⟩ = some (.int .i64 a0_2) := (blk_cell BK305.out 0).trans rfl; have hcz170_1 : w169.cell? ⟨gb305, 1, none⟩ = some (.int .i64 a0_3) := (blk_cell BK305.out 1).trans rfl; have hfz170_0 := blk_frozen BK305.out 0; have hfz170_1 := blk_frozen BK305.out 1; have hcz171_0 : w169.cell? ⟨gb304, 0, none⟩ = some (.int .i64 a0_0) := (blk_cell BK304.out 0).trans rfl; have hcz171_1 : w169.cell? ⟨gb304, 1, none⟩ = some (.int .i64 a0_1) := (blk_cell BK304.out 1).trans rfl; have hfz171_0 := blk_frozen BK304.out 0; have hfz171_1 := blk_frozen BK304.out 1) | ((with_reducible refine gate_callee (f := 20) rfl ?_); refine goesL_ (some 139) rfl rfl Tryd.func20 (by kernel_rfl) rfl #[.agg #[.int .i64 a0_2, .int .i64 a0_3], .agg #[.int .i64 a0_0, .int .i64 a0_1]] rfl (by (try simp only [List.map_toArray, List.map_cons, List.map_nil]); first | done | rfl | (simp only [List.length_drop, List.length_take]; rfl)) ?_; (with_reducible refine (spans_Within.calls kj53 a0_2 a0_3 a0_0 a0_1 t323 t324 _ A159.out).mono ?_); rintro e w172 ⟨rfl, hb⟩; refine ⟨_, rfl, ?_⟩; have n0_ := ak (blk_below (g := gb303) (o := .cells #[.int .i64 a0_0, .int .i64 a0_1, .int .i64 a0_2, .int .i64 a0_3, .int .i64 a0_4, .int .i64 a0_5] 37 (0, 0)) (by (with_reducible repeat (first | refine bN ?_ _ | refine bD ?_ | refine bA ?_ _)); exact BK303.out) hb); have n1_ := ak (blk_below (g := gb304) (o := .cells #[.int .i64 a0_0, .int .i64 a0_1] 24 (0, 0)) (by (with_reducible repeat (first | refine bN ?_ _ | refine bD ?_ | refine bA ?_ _)); exact BK304.out) hb); have n2_ := ak (blk_below (g := gb305) (o := .cells #[.int .i64 a0_2, .int .i64 a0_3] 24 (0, 0)) (by (with_reducible repeat (first | refine bN ?_ _ | refine bD ?_ | refine bA ?_ _)); exact BK305.out) hb); have n3_ := ak (blk_below (g := gb306) (o := .cells #[.int .i64 a0_4, .int .i64 a0_5] 24 (0, 0)) (by (with_reducible repeat (first | refine bN ?_ _ | refine bD ?_ | refine bA ?_ _)); exact BK306.out) hb); have n4_ := ak (below_step (by repeat (first | (with_reducible first | exact HB.out | apply wA | apply wN | apply wD | refine below_set ?_ GE303.out | refine below_set ?_ GE304.out | refine below_set ?_ GE305.out | refine below_set ?_ GE306.out) | exact HB.out)) hb); clear BK303; clear BK304; clear BK305; clear BK306; clear HB; have BK303 := n0_; have BK304 := n1_; have BK305 := n2_; have BK306 := n3_; have HB := n4_; clear n0_ n1_ n2_ n3_ n4_; (try clear hb); (try clear hb2); (try clear hk); (try clear hi); have hcz173_0 : w172.cell? ⟨gb304, 0, none⟩ = some (.int .i64 a0_0) := (blk_cell BK304.out 0).trans rfl; have hcz173_1 : w172.cell? ⟨gb304, 1, none⟩ = some (.int .i64 a0_1) := (blk_cell BK304.out 1).trans rfl; have hfz173_0 := blk_frozen BK304.out 0; have hfz173_1 := blk_frozen BK304.out 1; have hcz174_0 : w172.cell? ⟨gb305, 0, none⟩ = some (.int .i64 a0_2) := (blk_cell BK305.out 0).trans rfl; have hcz174_1 : w172.cell? ⟨gb305, 1, none⟩ = some (.int .i64 a0_3) := (blk_cell BK305.out 1).trans rfl; have hfz174_0 := blk_frozen BK305.out 0; have hfz174_1 := blk_frozen BK305.out 1) | ((with_reducible refine gate_callee (f := 21) rfl ?_); refine goesL_ (some 145) rfl rfl Tryd.func21 (by kernel_rfl) rfl #[.agg #[.int .i64 a0_0, .int .i64 a0_1], .agg #[.int .i64 a0_2, .int .i64 a0_3]] rfl (by (try simp only [List.map_toArray, List.map_cons, List.map_nil]); first | done | rfl | (simp only [List.length_drop, List.length_take]; rfl)) ?_; (with_reducible refine (spans_Meet.calls kj53 a0_0 a0_1 a0_2 a0_3 t325 t326 t327 t328 _ A160.out).mono ?_); rintro e w175 ⟨rfl, hb⟩; refine ⟨_, rfl, ?_⟩; have n0_ := ak (blk_below (g := gb303) (o := .cells #[.int .i64 a0_0, .int .i64 a0_1, .int .i64 a0_2, .int .i64 a0_3, .int .i64 a0_4, .int .i64 a0_5] 37 (0, 0)) (by (with_reducible repeat (first | refine bN ?_ _ | refine bD ?_ | refine bA ?_ _)); exact BK303.out) hb); have n1_ := ak (blk_below (g := gb304) (o := .cells #[.int .i64 a0_0, .int .i64 a0_1] 24 (0, 0)) (by (with_reducible repeat (first | refine bN ?_ _ | refine bD ?_ | refine bA ?_ _)); exact BK304.out) hb); have n2_ := ak (blk_below (g := gb305) (o := .cells #[.int .i64 a0_2, .int .i64 a0_3] 24 (0, 0)) (by (with_reducible repeat (first | refine bN ?_ _ | refine bD ?_ | refine bA ?_ _)); exact BK305.out) hb); have n3_ := ak (blk_below (g := gb306) (o := .cells #[.int .i64 a0_4, .int .i64 a0_5] 24 (0, 0)) (by (with_reducible repeat (first | refine bN ?_ _ | refine bD ?_ | refine bA ?_ _)); exact BK306.out) hb); have n4_ := ak (below_step (by repeat (first | (with_reducible first | exact HB.out | apply wA | apply wN | apply wD | refine below_set ?_ GE303.out | refine below_set ?_ GE304.out | refine below_set ?_ GE305.out | refine below_set ?_ GE306.out) | exact HB.out)) hb); clear BK303; clear BK304; clear BK305; clear BK306; clear HB; have BK303 := n0_; have BK304 := n1_; have BK305 := n2_; have BK306 := n3_; have HB := n4_; clear n0_ n1_ n2_ n3_ n4_; (try clear hb); (try clear hb2); (try clear hk); (try clear hi)) | ((with_reducible refine gate_dst (N := 18) rfl ?_); refine box_event ?hg (N := 18) ?hd (cs := #[.int .i64 0, .int .i64 0]) (t := 24) ?hr ?_; (case hd => rfl); (case hg => rfl); (case hr => first | (go_simp; done) | (go_simp; rfl)); intro gb329 hg w176 hbox hb; have n0_ := ak (blk_below (g := gb303) (o := .cells #[.int .i64 a0_0, .int .i64 a0_1, .int .i64 a0_2, .int .i64 a0_3, .int .i64 a0_4, .int .i64 a0_5] 37 (0, 0)) (by (with_reducible repeat (first | refine bN ?_ _ | refine bD ?_ | refine bA ?_ _)); exact BK303.out) hb); have n1_ := ak (blk_below (g := gb304) (o := .cells #[.int .i64 a0_0, .int .i64 a0_1] 24 (0, 0)) (by (with_reducible repeat (first | refine bN ?_ _ | refine bD ?_ | refine bA ?_ _)); exact BK304.out) hb); have n2_ := ak (blk_below (g := gb305) (o := .cells #[.int .i64 a0_2, .int .i64 a0_3] 24 (0, 0)) (by (with_reducible repeat (first | refine bN ?_ _ | refine bD ?_ | refine bA ?_ _)); exact BK305.out) hb); have n3_ := ak (blk_below (g := gb306) (o := .cells #[.int .i64 a0_4, .int .i64 a0_5] 24 (0, 0)) (by (with_reducible repeat (first | refine bN ?_ _ | refine bD ?_ | refine bA ?_ _)); exact BK306.out) hb); have n4_ := ak (below_step (by repeat (first | (with_reducible first | exact HB.out | apply wA | apply wN | apply wD | refine below_set ?_ GE303.out | refine below_set ?_ GE304.out | refine below_set ?_ GE305.out | refine below_set ?_ GE306.out) | exact HB.out)) hb); have n5_ := ak (hbox); have n6_ := ak ((by rw [hg]; exact (below_size (by repeat (first | (with_reducible first | exact HB.out | apply wA | apply wN | apply wD | refine below_set ?_ GE303.out | refine below_set ?_ GE304.out | refine below_set ?_ GE305.out | refine below_set ?_ GE306.out) | exact HB.out))) : w.heap.size ≤ gb329)); have n7_ := ak ((by rw [hg]; exact (below_size (by repeat (first | (with_reducible first | exact HB.out | apply wA | apply wN | apply wD | refine below_set ?_ GE303.out | refine below_set ?_ GE304.out | refine below_set ?_ GE305.out | refine below_set ?_ GE306.out) | exact HB.out))) : w.heap.size ≤ gb329)); have n8_ := ak ((by rw [hg]; exact Nat.ne_of_lt (blk_lt (g := gb303) (o := .cells #[.int .i64 a0_0, .int .i64 a0_1, .int .i64 a0_2, .int .i64 a0_3, .int .i64 a0_4, .int .i64 a0_5] 37 (0, 0)) (by (with_reducible repeat (first | refine bN ?_ _ | refine bD ?_ | refine bA ?_ _)); exact BK303.out)) : gb303 ≠ gb329)); have n9_ := ak ((by rw [hg]; exact Nat.ne_of_gt (blk_lt (g := gb303) (o := .cells #[.int .i64 a0_0, .int .i64 a0_1, .int .i64 a0_2, .int .i64 a0_3, .int .i64 a0_4, .int .i64 a0_5] 37 (0, 0)) (by (with_reducible repeat (first | refine bN ?_ _ | refine bD ?_ | refine bA ?_ _)); exact BK303.out)) : gb329 ≠ gb303)); have n10_ := ak ((by rw [hg]; exact Nat.ne_of_lt (blk_lt (g := gb304) (o := .cells #[.int .i64 a0_0, .int .i64 a0_1] 24 (0, 0)) (by (with_reducible repeat (first | refine bN ?_ _ | refine bD ?_ | refine bA ?_ _)); exact BK304.out)) : gb304 ≠ gb329)); have n11_ := ak ((by rw [hg]; exact Nat.ne_of_gt (blk_lt (g := gb304) (o := .cells #[.int .i64 a0_0, .int .i64 a0_1] 24 (0, 0)) (by (with_reducible repeat (first | refine bN ?_ _ | refine bD ?_ | refine bA ?_ _)); exact BK304.out)) : gb329 ≠ gb304)); have n12_ := ak ((by rw [hg]; exact Nat.ne_of_lt (blk_lt (g := gb305) (o := .cells #[.int .i64 a0_2, .int .i64 a0_3] 24 (0, 0)) (by (with_reducible repeat (first | refine bN ?_ _ | refine bD ?_ | refine bA ?_ _)); exact BK305.out)) : gb305 ≠ gb329)); have n13_ := ak ((by rw [hg]; exact Nat.ne_of_gt (blk_lt (g := gb305) (o := .cells #[.int .i64 a0_2, .int .i64 a0_3] 24 (0, 0)) (by (with_reducible repeat (first | refine bN ?_ _ | refine bD ?_ | refine bA ?_ _)); exact BK305.out)) : gb329 ≠ gb305)); have n14_ := ak ((by rw [hg]; exact Nat.ne_of_lt (blk_lt (g := gb306) (o := .cells #[.int .i64 a0_4, .int .i64 a0_5] 24 (0, 0)) (by (with_reducible repeat (first | refine bN ?_ _ | refine bD ?_ | refine bA ?_ _)); exact BK306.out)) : gb306 ≠ gb329)); have n15_ := ak ((by rw [hg]; exact Nat.ne_of_gt (blk_lt (g := gb306) (o := .cells #[.int .i64 a0_4, .int .i64 a0_5] 24 (0, 0)) (by (with_reducible repeat (first | refine bN ?_ _ | refine bD ?_ | refine bA ?_ _)); exact BK306.out)) : gb329 ≠ gb306)); clear BK303; clear BK304; clear BK305; clear BK306; clear HB; have BK303 := n0_; have BK304 := n1_; have BK305 := n2_; have BK306 := n3_; have HB := n4_; have BK329 := n5_; have GW329 := n6_; have GE329 := n7_; have NB303_329 := n8_; have NB329_303 := n9_; have NB304_329 := n10_; have NB329_304 := n11_; have NB305_329 := n12_; have NB329_305 := n13_; have NB306_329 := n14_; have NB329_306 := n15_; clear n0_ n1_ n2_ n3_ n4_ n5_ n6_ n7_ n8_ n9_ n10_ n11_ n12_ n13_ n14_ n15_; clear hb hbox hg; have hnb177 := NB329_303.out; have hnc177 := NB303_329.out; have hnb178 := NB329_304.out; have hnc178 := NB304_329.out; have hnb179 := NB329_305.out; have hnc179 := NB305_329.out; have hnb180 := NB329_306.out; have hnc180 := NB306_329.out; have hcz181_0 : w176.cell? ⟨gb329, 0, none⟩ = some (.int .i64 0) := (blk_cell BK329.out 0).trans rfl; have hcz181_1 : w176.cell? ⟨gb329, 1, none⟩ = some (.int .i64 0) := (blk_cell BK329.out 1).trans rfl; have hfz181_0 := blk_frozen BK329.out 0; have hfz181_1 := blk_frozen BK329.out 1))
        (try simp only [Act.put, sA_, s0_, s1_])
        go_cut [168] (fun v168 wc => ∃ (kq : Nat) (x168_160 : Bool), v168 = .bool x168_160 ∧ Aside0 (mummerlaw03_SpansOrder.j2 kq t311 t313 t321 t323 t327 x168_160 a0_0 a0_1 a0_2 a0_3 t325 t326 = some r) ∧ Aside0 (kq ≤ kj53) ∧ Aside0 (wc.heap[gb303]? = some (.cells #[.int .i64 a0_0, .int .i64 a0_1, .int .i64 a0_2, .int .i64 a0_3, .int .i64 a0_4, .int .i64 a0_5] 37 (0, 0))) ∧ Aside0 (wc.heap[gb304]? = some (.cells #[.int .i64 a0_0, .int .i64 a0_1] 24 (0, 0))) ∧ Aside0 (wc.heap[gb305]? = some (.cells #[.int .i64 a0_2, .int .i64 a0_3] 24 (0, 0))) ∧ Aside0 (wc.heap[gb306]? = some (.cells #[.int .i64 a0_4, .int .i64 a0_5] 24 (0, 0))) ∧ Aside0 (wc.heap[gb329]? = some (.cells #[.int .i64 t325, .int .i64 t326] 24 (0, 0))) ∧ Aside0 (Below w.heap.size w wc))
        case first =>
         have H := HC161.out
         clear HC161
         by_cases c182 : t322 = 0
         ·rw [if_pos c182] at H
          have c182b0 : (t322 == 0) = true := beq_iff_eq.mpr c182
          have c182b1 : (t322 != 0) = false := bne_eq_false_iff_eq.mpr c182
          clear c182
          (first | rw [c182b0] | (simp only [i64_w, i32_w]; rw [c182b0]) | skip)
          by_cases c183 : t324 = 0
          ·rw [if_pos c183] at H
           have c183b0 : (t324 == 0) = true := beq_iff_eq.mpr c183
           have c183b1 : (t324 != 0) = false := bne_eq_false_iff_eq.mpr c183
           clear c183
           by_cases c184 : t328 = 0
           ·rw [if_pos c184] at H
            have c184b0 : (t328 == 0) = true := beq_iff_eq.mpr c184
            have c184b1 : (t328 != 0) = false := bne_eq_false_iff_eq.mpr c184
            clear c184
            by_cases c185 : t321 = true
            ·subst c185
             have H1 : (mummerlaw03_SpansOrder.j2 kj53 t311 t313 true t323 t327 (t323 != (a0_0 == a0_2 && (a0_1 == a0_3))) a0_0 a0_1 a0_2 a0_3 t325 t326) = some r := by rw [if_pos rfl] at H; exact H
             clear H
             have H := H1
             clear H1
             have H' := ak H
             clear H
             have hnb186 := NB304_303.out
             have hnc186 := NB303_304.out
             have hnb187 := NB304_305.out
             have hnc187 := NB305_304.out
             have hnb188 := NB304_306.out
             have hnc188 := NB306_304.out
             have hnb189 := NB304_329.out
             have hnc189 := NB329_304.out
             have hcz190_0 : w176.cell? ⟨gb304, 0, none⟩ = some (.int .i64 a0_0) := (blk_cell BK304.out 0).trans rfl
             have hcz190_1 : w176.cell? ⟨gb304, 1, none⟩ = some (.int .i64 a0_1) := (blk_cell BK304.out 1).trans rfl
             have hfz190_0 := blk_frozen BK304.out 0
             have hfz190_1 := blk_frozen BK304.out 1
             have hnb191 := NB305_303.out
             have hnc191 := NB303_305.out
             have hnb192 := NB305_306.out
             have hnc192 := NB306_305.out
             have hnb193 := NB305_329.out
             have hnc193 := NB329_305.out
             have hcz194_0 : w176.cell? ⟨gb305, 0, none⟩ = some (.int .i64 a0_2) := (blk_cell BK305.out 0).trans rfl
             have hcz194_1 : w176.cell? ⟨gb305, 1, none⟩ = some (.int .i64 a0_3) := (blk_cell BK305.out 1).trans rfl
             have hfz194_0 := blk_frozen BK305.out 0
             have hfz194_1 := blk_frozen BK305.out 1
             go_wp2
             go_meet
             case rel => exact ⟨_, ((t323 != (a0_0 == a0_2 && (a0_1 == a0_3)))), (by first | rfl | (simp; done) | (simp [*]; done) | (cases t323 <;> simp)), H', ⟨by have := HJ1.out; have := HJ53.out; first | omega | exact Nat.le_refl _⟩, ⟨by (with_reducible repeat (first | refine bN ?_ _ | refine bD ?_ | refine bA ?_ _)); refine blk_far ?_ NB303_329.out _; (with_reducible repeat (first | refine bN ?_ _ | refine bD ?_ | refine bA ?_ _)); refine blk_far ?_ NB303_329.out _; (with_reducible repeat (first | refine bN ?_ _ | refine bD ?_ | refine bA ?_ _)); exact BK303.out⟩, ⟨by (with_reducible repeat (first | refine bN ?_ _ | refine bD ?_ | refine bA ?_ _)); refine blk_far ?_ NB304_329.out _; (with_reducible repeat (first | refine bN ?_ _ | refine bD ?_ | refine bA ?_ _)); refine blk_far ?_ NB304_329.out _; (with_reducible repeat (first | refine bN ?_ _ | refine bD ?_ | refine bA ?_ _)); exact BK304.out⟩, ⟨by (with_reducible repeat (first | refine bN ?_ _ | refine bD ?_ | refine bA ?_ _)); refine blk_far ?_ NB305_329.out _; (with_reducible repeat (first | refine bN ?_ _ | refine bD ?_ | refine bA ?_ _)); refine blk_far ?_ NB305_329.out _; (with_reducible repeat (first | refine bN ?_ _ | refine bD ?_ | refine bA ?_ _)); exact BK305.out⟩, ⟨by (with_reducible repeat (first | refine bN ?_ _ | refine bD ?_ | refine bA ?_ _)); refine blk_far ?_ NB306_329.out _; (with_reducible repeat (first | refine bN ?_ _ | refine bD ?_ | refine bA ?_ _)); refine blk_far ?_ NB306_329.out _; (with_reducible repeat (first | refine bN ?_ _ | refine bD ?_ | refine bA ?_ _)); exact BK306.out⟩, ⟨by (with_reducible repeat (first | refine bN ?_ _ | refine bD ?_ | refine bA ?_ _)); refine blk_put (cs := #[.int .i64 t325, .int .i64 0]) ?_ 1 _ rfl; (with_reducible repeat (first | refine bN ?_ _ | refine bD ?_ | refine bA ?_ _)); refine blk_put (cs := #[.int .i64 0, .int .i64 0]) ?_ 0 _ rfl; (with_reducible repeat (first | refine bN ?_ _ | refine bD ?_ | refine bA ?_ _)); exact BK329.out⟩, ⟨by repeat (first | (with_reducible first | exact HB.out | apply wA | apply wN | apply wD | refine below_set ?_ GE303.out | refine below_set ?_ GE304.out | refine below_set ?_ GE305.out | refine below_set ?_ GE306.out | refine below_set ?_ GE329.out) | exact HB.out)⟩⟩
            ·replace c185 := Bool.eq_false_iff.mpr c185
             subst c185
             have H1 : (mummerlaw03_SpansOrder.j2 kj53 t311 t313 false t323 t327 false a0_0 a0_1 a0_2 a0_3 t325 t326) = some r := by rw [if_neg (show ¬ (false = true) by decide)] at H; exact H
             clear H
             have H := H1
             clear H1
             have H' := ak H
             clear H
             go_wp2
             go_meet
             case rel => exact ⟨_, (false), (by first | rfl | (simp; done) | (simp [*]; done)), H', ⟨by have := HJ1.out; have := HJ53.out; first | omega | exact Nat.le_refl _⟩, ⟨by (with_reducible repeat (first | refine bN ?_ _ | refine bD ?_ | refine bA ?_ _)); refine blk_far ?_ NB303_329.out _; (with_reducible repeat (first | refine bN ?_ _ | refine bD ?_ | refine bA ?_ _)); refine blk_far ?_ NB303_329.out _; (with_reducible repeat (first | refine bN ?_ _ | refine bD ?_ | refine bA ?_ _)); exact BK303.out⟩, ⟨by (with_reducible repeat (first | refine bN ?_ _ | refine bD ?_ | refine bA ?_ _)); refine blk_far ?_ NB304_329.out _; (with_reducible repeat (first | refine bN ?_ _ | refine bD ?_ | refine bA ?_ _)); refine blk_far ?_ NB304_329.out _; (with_reducible repeat (first | refine bN ?_ _ | refine bD ?_ | refine bA ?_ _)); exact BK304.out⟩, ⟨by (with_reducible repeat (first | refine bN ?_ _ | refine bD ?_ | refine bA ?_ _)); refine blk_far ?_ NB305_329.out _; (with_reducible repeat (first | refine bN ?_ _ | refine bD ?_ | refine bA ?_ _)); refine blk_far ?_ NB305_329.out _; (with_reducible repeat (first | refine bN ?_ _ | refine bD ?_ | refine bA ?_ _)); exact BK305.out⟩, ⟨by (with_reducible repeat (first | refine bN ?_ _ | refine bD ?_ | refine bA ?_ _)); refine blk_far ?_ NB306_329.out _; (with_reducible repeat (first | refine bN ?_ _ | refine bD ?_ | refine bA ?_ _)); refine blk_far ?_ NB306_329.out _; (with_reducible repeat (first | refine bN ?_ _ | refine bD ?_ | refine bA ?_ _)); exact BK306.out⟩, ⟨by (with_reducible repeat (first | refine bN ?_ _ | refine bD ?_ | refine bA ?_ _)); refine blk_put (cs := #[.int .i64 t325, .int .i64 0]) ?_ 1 _ rfl; (with_reducible repeat (first | refine bN ?_ _ | refine bD ?_ | refine bA ?_ _)); refine blk_put (cs := #[.int .i64 0, .int .i64 0]) ?_ 0 _ rfl; (with_reducible repeat (first | refine bN ?_ _ | refine bD ?_ | refine bA ?_ _)); exact BK329.out⟩, ⟨by repeat (first | (with_reducible first | exact HB.out | apply wA | apply wN | apply wD | refine below_set ?_ GE303.out | refine below_set ?_ GE304.out | refine below_set ?_ GE305.out | refine below_set ?_ GE306.out | refine below_set ?_ GE329.out) | exact HB.out)⟩⟩
           ·rw [if_neg c184] at H
            have c184b0 : (t328 == 0) = false := beq_eq_false_iff_ne.mpr c184
            have c184b1 : (t328 != 0) = true := bne_iff_ne.mpr c184
            exact absurd ((Option.some.inj H).trans hrt.out) (by decide)
          ·rw [if_neg c183] at H
           have c183b0 : (t324 == 0) = false := beq_eq_false_iff_ne.mpr c183
           have c183b1 : (t324 != 0) = true := bne_iff_ne.mpr c183
           exact absurd ((Option.some.inj H).trans hrt.out) (by decide)
         ·rw [if_neg c182] at H
          have c182b0 : (t322 == 0) = false := beq_eq_false_iff_ne.mpr c182
          have c182b1 : (t322 != 0) = true := bne_iff_ne.mpr c182
          (first | rw [c182b0] | (simp only [i64_w, i32_w]; rw [c182b0]) | skip)
          exact absurd ((Option.some.inj H).trans hrt.out) (by decide)
        case rest =>
         clear HC161
         try clear c1
         try clear c2
         try clear p2
         try clear c3
         try clear c4
         try clear c5
         try clear c6
         try clear c7
         try clear c8
         try clear c9
         try clear c10
         try clear c11
         try clear c12
         try clear c13
         try clear c14
         try clear c15
         try clear c16
         try clear c17
         try clear c18
         try clear c19
         try clear c20
         try clear c21
         try clear c22
         try clear c25
         try clear c26
         try clear c29
         try clear c32
         try clear c33
         try clear c34
         try clear c37
         try clear c38
         try clear c41
         try clear c42
         try clear c43
         try clear c46
         try clear c55
         try clear c56
         try clear c57
         try clear c59
         try clear c60
         try clear c67
         try clear c75
         try clear c75b0
         try clear c75b1
         try clear c76
         try clear c76b0
         try clear c76b1
         try clear c77
         try clear c77b0
         try clear c77b1
         try clear c78
         try clear c78b0
         try clear c78b1
         try clear c79
         try clear c79b0
         try clear c79b1
         try clear c80
         try clear c81
         try clear c82
         try clear c83
         try clear c83b0
         try clear c84
         try clear c84b0
         try clear c85
         try clear c85b0
         try clear c86
         try clear c87
         try clear c88
         try clear c89
         try clear c91
         try clear c92
         try clear c94
         try clear c96
         try clear c97
         try clear c98
         try clear c100
         try clear c101
         try clear c103
         try clear c105
         try clear c106
         try clear c107
         try clear c109
         try clear c110
         try clear c112
         try clear c114
         try clear c115
         try clear c116
         try clear c118
         try clear c119
         try clear c121
         try clear c122
         try clear c123
         try clear c125
         try clear c125b0
         try clear c126
         try clear c126b0
         try clear c127
         try clear c127b0
         try clear c128
         try clear c129
         try clear c130
         try clear c132
         try clear c133
         try clear c135
         try clear c137
         try clear c138
         try clear c139
         try clear c141
         try clear c142
         try clear c144
         try clear c146
         try clear c147
         try clear c148
         try clear c150
         try clear c151
         try clear c153
         try clear c154
         try clear c155
         try clear c157
         try clear c162
         try clear c163
         try clear c164
         try clear c166
         try clear c167
         try clear c177
         try clear c178
         try clear c179
         try clear c180
         try clear c182
         try clear c182b0
         try clear c182b1
         try clear c183
         try clear c183b0
         try clear c183b1
         try clear c184
         try clear c184b0
         try clear c184b1
         try clear c185
         try clear c186
         try clear c187
         try clear c188
         try clear c189
         try clear c191
         try clear c192
         try clear c193
         try clear hcz102_0
         try clear hcz102_1
         try clear hcz104_0
         try clear hcz104_1
         try clear hcz108_0
         try clear hcz108_1
         try clear hcz111_0
         try clear hcz111_1
         try clear hcz113_0
         try clear hcz113_1
         try clear hcz117_0
         try clear hcz117_1
         try clear hcz120_0
         try clear hcz120_1
         try clear hcz124_0
         try clear hcz124_1
         try clear hcz131_0
         try clear hcz131_1
         try clear hcz134_0
         try clear hcz134_1
         try clear hcz136_0
         try clear hcz136_1
         try clear hcz140_0
         try clear hcz140_1
         try clear hcz143_0
         try clear hcz143_1
         try clear hcz145_0
         try clear hcz145_1
         try clear hcz149_0
         try clear hcz149_1
         try clear hcz152_0
         try clear hcz152_1
         try clear hcz156_0
         try clear hcz156_1
         try clear hcz165_0
         try clear hcz165_1
         try clear hcz168_0
         try clear hcz168_1
         try clear hcz170_0
         try clear hcz170_1
         try clear hcz171_0
         try clear hcz171_1
         try clear hcz173_0
         try clear hcz173_1
         try clear hcz174_0
         try clear hcz174_1
         try clear hcz181_0
         try clear hcz181_1
         try clear hcz190_0
         try clear hcz190_1
         try clear hcz194_0
         try clear hcz194_1
         try clear hcz23_0
         try clear hcz23_1
         try clear hcz27_0
         try clear hcz27_1
         try clear hcz30_0
         try clear hcz30_1
         try clear hcz35_0
         try clear hcz35_1
         try clear hcz39_0
         try clear hcz39_1
         try clear hcz44_0
         try clear hcz44_1
         try clear hcz58_0
         try clear hcz58_1
         try clear hcz61_0
         try clear hcz61_1
         try clear hcz63_0
         try clear hcz63_1
         try clear hcz64_0
         try clear hcz64_1
         try clear hcz66_0
         try clear hcz66_1
         try clear hcz68_0
         try clear hcz68_1
         try clear hcz70_0
         try clear hcz70_1
         try clear hcz71_0
         try clear hcz71_1
         try clear hcz73_0
         try clear hcz73_1
         try clear hcz90_0
         try clear hcz90_1
         try clear hcz93_0
         try clear hcz93_1
         try clear hcz95_0
         try clear hcz95_1
         try clear hcz99_0
         try clear hcz99_1
         try clear hfz102_0
         try clear hfz102_1
         try clear hfz104_0
         try clear hfz104_1
         try clear hfz108_0
         try clear hfz108_1
         try clear hfz111_0
         try clear hfz111_1
         try clear hfz113_0
         try clear hfz113_1
         try clear hfz117_0
         try clear hfz117_1
         try clear hfz120_0
         try clear hfz120_1
         try clear hfz124_0
         try clear hfz124_1
         try clear hfz131_0
         try clear hfz131_1
         try clear hfz134_0
         try clear hfz134_1
         try clear hfz136_0
         try clear hfz136_1
         try clear hfz140_0
         try clear hfz140_1
         try clear hfz143_0
         try clear hfz143_1
         try clear hfz145_0
         try clear hfz145_1
         try clear hfz149_0
         try clear hfz149_1
         try clear hfz152_0
         try clear hfz152_1
         try clear hfz156_0
         try clear hfz156_1
         try clear hfz165_0
         try clear hfz165_1
         try clear hfz168_0
         try clear hfz168_1
         try clear hfz170_0
         try clear hfz170_1
         try clear hfz171_0
         try clear hfz171_1
         try clear hfz173_0
         try clear hfz173_1
         try clear hfz174_0
         try clear hfz174_1
         try clear hfz181_0
         try clear hfz181_1
         try clear hfz190_0
         try clear hfz190_1
         try clear hfz194_0
         try clear hfz194_1
         try clear hfz23_0
         try clear hfz23_1
         try clear hfz27_0
         try clear hfz27_1
         try clear hfz30_0
         try clear hfz30_1
         try clear hfz35_0
         try clear hfz35_1
         try clear hfz39_0
         try clear hfz39_1
         try clear hfz44_0
         try clear hfz44_1
         try clear hfz58_0
         try clear hfz58_1
         try clear hfz61_0
         try clear hfz61_1
         try clear hfz63_0
         try clear hfz63_1
         try clear hfz64_0
         try clear hfz64_1
         try clear hfz66_0
         try clear hfz66_1
         try clear hfz68_0
         try clear hfz68_1
         try clear hfz70_0
         try clear hfz70_1
         try clear hfz71_0
         try clear hfz71_1
         try clear hfz73_0
         try clear hfz73_1
         try clear hfz90_0
         try clear hfz90_1
         try clear hfz93_0
         try clear hfz93_1
         try clear hfz95_0
         try clear hfz95_1
         try clear hfz99_0
         try clear hfz99_1
         try clear p2
         obtain ⟨kq, x168_160, rfl, HA, HJ160, BK303, BK304, BK305, BK306, BK329, HB⟩ := hcut
         cases kq with
         | zero => exact absurd HA.out (by simp [mummerlaw03_SpansOrder.j2])
         | succ kj160 =>
          have H := HA.out
          clear HA
          simp only [mummerlaw03_SpansOrder.j2] at H
          by_cases c195 : x168_160 = true
          ·subst c195
           have H1 : (some false) = some r := by rw [if_pos rfl] at H; exact H
           clear H
           have H := H1
           clear H1
           exact absurd ((Option.some.inj H).trans hrt.out) (by decide)
          ·replace c195 := Bool.eq_false_iff.mpr c195
           subst c195
           have H1 : (if t327 = true then (mummerlaw03_SpansOrder.j3 kj160 t311 t313 t321 t323 (decide (t325 < t326)) a0_0 a0_1 a0_2 a0_3 t325 t326) else (mummerlaw03_SpansOrder.j3 kj160 t311 t313 t321 t323 false a0_0 a0_1 a0_2 a0_3 t325 t326)) = some r := by rw [if_neg (show ¬ (false = true) by decide)] at H; exact H
           clear H
           have H := H1
           clear H1
           have HC196 := ak H
           clear H
           go_upto_region 16 with (fail)
           go_cut [20] (fun v20 wc => ∃ (kq : Nat) (x20_195 : Bool), v20 = .bool x20_195 ∧ Aside0 (mummerlaw03_SpansOrder.j3 kq t311 t313 t321 t323 x20_195 a0_0 a0_1 a0_2 a0_3 t325 t326 = some r) ∧ Aside0 (kq ≤ kj160) ∧ Aside0 (wc.heap[gb303]? = some (.cells #[.int .i64 a0_0, .int .i64 a0_1, .int .i64 a0_2, .int .i64 a0_3, .int .i64 a0_4, .int .i64 a0_5] 37 (0, 0))) ∧ Aside0 (wc.heap[gb304]? = some (.cells #[.int .i64 a0_0, .int .i64 a0_1] 24 (0, 0))) ∧ Aside0 (wc.heap[gb305]? = some (.cells #[.int .i64 a0_2, .int .i64 a0_3] 24 (0, 0))) ∧ Aside0 (wc.heap[gb306]? = some (.cells #[.int .i64 a0_4, .int .i64 a0_5] 24 (0, 0))) ∧ Aside0 (wc.heap[gb329]? = some (.cells #[.int .i64 t325, .int .i64 t326] 24 (0, 0))) ∧ Aside0 (Below w.heap.size w wc))
           case first =>
            as_aux_lemma =>
             have H := HC196.out
             clear HC196
             by_cases c197 : t327 = true
             ·subst c197
              have H1 : (mummerlaw03_SpansOrder.j3 kj160 t311 t313 t321 t323 (decide (t325 < t326)) a0_0 a0_1 a0_2 a0_3 t325 t326) = some r := by rw [if_pos rfl] at H; exact H
              clear H
              have H := H1
              clear H1
              have H' := ak H
              clear H
              have hnb198 := NB329_303.out
              have hnc198 := NB303_329.out
              have hnb199 := NB329_304.out
              have hnc199 := NB304_329.out
              have hnb200 := NB329_305.out
              have hnc200 := NB305_329.out
              have hnb201 := NB329_306.out
              have hnc201 := NB306_329.out
              have hcz202_0 : wc.cell? ⟨gb329, 0, none⟩ = some (.int .i64 t325) := (blk_cell BK329.out 0).trans rfl
              have hcz202_1 : wc.cell? ⟨gb329, 1, none⟩ = some (.int .i64 t326) := (blk_cell BK329.out 1).trans rfl
              have hfz202_0 := blk_frozen BK329.out 0
              have hfz202_1 := blk_frozen BK329.out 1
              go_wp2
              go_meet
              case rel => exact ⟨_, (decide (t325 < t326)), (by first | rfl | (simp; done) | (simp [*]; done)), H', ⟨by have := HJ1.out; have := HJ53.out; have := HJ160.out; first | omega | exact Nat.le_refl _⟩, ⟨by (with_reducible repeat (first | refine bN ?_ _ | refine bD ?_ | refine bA ?_ _)); exact BK303.out⟩, ⟨by (with_reducible repeat (first | refine bN ?_ _ | refine bD ?_ | refine bA ?_ _)); exact BK304.out⟩, ⟨by (with_reducible repeat (first | refine bN ?_ _ | refine bD ?_ | refine bA ?_ _)); exact BK305.out⟩, ⟨by (with_reducible repeat (first | refine bN ?_ _ | refine bD ?_ | refine bA ?_ _)); exact BK306.out⟩, ⟨by (with_reducible repeat (first | refine bN ?_ _ | refine bD ?_ | refine bA ?_ _)); exact BK329.out⟩, ⟨by repeat (first | (with_reducible first | exact HB.out | apply wA | apply wN | apply wD | refine below_set ?_ GE303.out | refine below_set ?_ GE304.out | refine below_set ?_ GE305.out | refine below_set ?_ GE306.out | refine below_set ?_ GE329.out) | exact HB.out)⟩⟩
             ·replace c197 := Bool.eq_false_iff.mpr c197
              subst c197
              have H1 : (mummerlaw03_SpansOrder.j3 kj160 t311 t313 t321 t323 false a0_0 a0_1 a0_2 a0_3 t325 t326) = some r := by rw [if_neg (show ¬ (false = true) by decide)] at H; exact H
              clear H
              have H := H1
              clear H1
              have H' := ak H
              clear H
              go_wp2
              go_meet
              case rel => exact ⟨_, (false), (by first | rfl | (simp; done) | (simp [*]; done)), H', ⟨by have := HJ1.out; have := HJ53.out; have := HJ160.out; first | omega | exact Nat.le_refl _⟩, ⟨by (with_reducible repeat (first | refine bN ?_ _ | refine bD ?_ | refine bA ?_ _)); exact BK303.out⟩, ⟨by (with_reducible repeat (first | refine bN ?_ _ | refine bD ?_ | refine bA ?_ _)); exact BK304.out⟩, ⟨by (with_reducible repeat (first | refine bN ?_ _ | refine bD ?_ | refine bA ?_ _)); exact BK305.out⟩, ⟨by (with_reducible repeat (first | refine bN ?_ _ | refine bD ?_ | refine bA ?_ _)); exact BK306.out⟩, ⟨by (with_reducible repeat (first | refine bN ?_ _ | refine bD ?_ | refine bA ?_ _)); exact BK329.out⟩, ⟨by repeat (first | (with_reducible first | exact HB.out | apply wA | apply wN | apply wD | refine below_set ?_ GE303.out | refine below_set ?_ GE304.out | refine below_set ?_ GE305.out | refine below_set ?_ GE306.out | refine below_set ?_ GE329.out) | exact HB.out)⟩⟩
           case rest =>
            as_aux_lemma =>
             clear HC196
             try clear c1
             try clear c2
             try clear p2
             try clear c3
             try clear c4
             try clear c5
             try clear c6
             try clear c7
             try clear c8
             try clear c9
             try clear c10
             try clear c11
             try clear c12
             try clear c13
             try clear c14
             try clear c15
             try clear c16
             try clear c17
             try clear c18
             try clear c19
             try clear c20
             try clear c21
             try clear c22
             try clear c25
             try clear c26
             try clear c29
             try clear c32
             try clear c33
             try clear c34
             try clear c37
             try clear c38
             try clear c41
             try clear c42
             try clear c43
             try clear c46
             try clear c55
             try clear c56
             try clear c57
             try clear c59
             try clear c60
             try clear c67
             try clear c75
             try clear c75b0
             try clear c75b1
             try clear c76
             try clear c76b0
             try clear c76b1
             try clear c77
             try clear c77b0
             try clear c77b1
             try clear c78
             try clear c78b0
             try clear c78b1
             try clear c79
             try clear c79b0
             try clear c79b1
             try clear c80
             try clear c81
             try clear c82
             try clear c83
             try clear c83b0
             try clear c84
             try clear c84b0
             try clear c85
             try clear c85b0
             try clear c86
             try clear c87
             try clear c88
             try clear c89
             try clear c91
             try clear c92
             try clear c94
             try clear c96
             try clear c97
             try clear c98
             try clear c100
             try clear c101
             try clear c103
             try clear c105
             try clear c106
             try clear c107
             try clear c109
             try clear c110
             try clear c112
             try clear c114
             try clear c115
             try clear c116
             try clear c118
             try clear c119
             try clear c121
             try clear c122
             try clear c123
             try clear c125
             try clear c125b0
             try clear c126
             try clear c126b0
             try clear c127
             try clear c127b0
             try clear c128
             try clear c129
             try clear c130
             try clear c132
             try clear c133
             try clear c135
             try clear c137
             try clear c138
             try clear c139
             try clear c141
             try clear c142
             try clear c144
             try clear c146
             try clear c147
             try clear c148
             try clear c150
             try clear c151
             try clear c153
             try clear c154
             try clear c155
             try clear c157
             try clear c162
             try clear c163
             try clear c164
             try clear c166
             try clear c167
             try clear c177
             try clear c178
             try clear c179
             try clear c180
             try clear c182
             try clear c182b0
             try clear c182b1
             try clear c183
             try clear c183b0
             try clear c183b1
             try clear c184
             try clear c184b0
             try clear c184b1
             try clear c185
             try clear c186
             try clear c187
             try clear c188
             try clear c189
             try clear c191
             try clear c192
             try clear c193
             try clear c195
             try clear c197
             try clear c198
             try clear c199
             try clear c200
             try clear c201
             try clear hcz102_0
             try clear hcz102_1
             try clear hcz104_0
             try clear hcz104_1
             try clear hcz108_0
             try clear hcz108_1
             try clear hcz111_0
             try clear hcz111_1
             try clear hcz113_0
             try clear hcz113_1
             try clear hcz117_0
             try clear hcz117_1
             try clear hcz120_0
             try clear hcz120_1
             try clear hcz124_0
             try clear hcz124_1
             try clear hcz131_0
             try clear hcz131_1
             try clear hcz134_0
             try clear hcz134_1
             try clear hcz136_0
             try clear hcz136_1
             try clear hcz140_0
             try clear hcz140_1
             try clear hcz143_0
             try clear hcz143_1
             try clear hcz145_0
             try clear hcz145_1
             try clear hcz149_0
             try clear hcz149_1
             try clear hcz152_0
             try clear hcz152_1
             try clear hcz156_0
             try clear hcz156_1
             try clear hcz165_0
             try clear hcz165_1
             try clear hcz168_0
             try clear hcz168_1
             try clear hcz170_0
             try clear hcz170_1
             try clear hcz171_0
             try clear hcz171_1
             try clear hcz173_0
             try clear hcz173_1
             try clear hcz174_0
             try clear hcz174_1
             try clear hcz181_0
             try clear hcz181_1
             try clear hcz190_0
             try clear hcz190_1
             try clear hcz194_0
             try clear hcz194_1
             try clear hcz202_0
             try clear hcz202_1
             try clear hcz23_0
             try clear hcz23_1
             try clear hcz27_0
             try clear hcz27_1
             try clear hcz30_0
             try clear hcz30_1
             try clear hcz35_0
             try clear hcz35_1
             try clear hcz39_0
             try clear hcz39_1
             try clear hcz44_0
             try clear hcz44_1
             try clear hcz58_0
             try clear hcz58_1
             try clear hcz61_0
             try clear hcz61_1
             try clear hcz63_0
             try clear hcz63_1
             try clear hcz64_0
             try clear hcz64_1
             try clear hcz66_0
             try clear hcz66_1
             try clear hcz68_0
             try clear hcz68_1
             try clear hcz70_0
             try clear hcz70_1
             try clear hcz71_0
             try clear hcz71_1
             try clear hcz73_0
             try clear hcz73_1
             try clear hcz90_0
             try clear hcz90_1
             try clear hcz93_0
             try clear hcz93_1
             try clear hcz95_0
             try clear hcz95_1
             try clear hcz99_0
             try clear hcz99_1
             try clear hfz102_0
             try clear hfz102_1
             try clear hfz104_0
             try clear hfz104_1
             try clear hfz108_0
             try clear hfz108_1
             try clear hfz111_0
             try clear hfz111_1
             try clear hfz113_0
             try clear hfz113_1
             try clear hfz117_0
             try clear hfz117_1
             try clear hfz120_0
             try clear hfz120_1
             try clear hfz124_0
             try clear hfz124_1
             try clear hfz131_0
             try clear hfz131_1
             try clear hfz134_0
             try clear hfz134_1
             try clear hfz136_0
             try clear hfz136_1
             try clear hfz140_0
             try clear hfz140_1
             try clear hfz143_0
             try clear hfz143_1
             try clear hfz145_0
             try clear hfz145_1
             try clear hfz149_0
             try clear hfz149_1
             try clear hfz152_0
             try clear hfz152_1
             try clear hfz156_0
             try clear hfz156_1
             try clear hfz165_0
             try clear hfz165_1
             try clear hfz168_0
             try clear hfz168_1
             try clear hfz170_0
             try clear hfz170_1
             try clear hfz171_0
             try clear hfz171_1
             try clear hfz173_0
             try clear hfz173_1
             try clear hfz174_0
             try clear hfz174_1
             try clear hfz181_0
             try clear hfz181_1
             try clear hfz190_0
             try clear hfz190_1
             try clear hfz194_0
             try clear hfz194_1
             try clear hfz202_0
             try clear hfz202_1
             try clear hfz23_0
             try clear hfz23_1
             try clear hfz27_0
             try clear hfz27_1
             try clear hfz30_0
             try clear hfz30_1
             try clear hfz35_0
             try clear hfz35_1
             try clear hfz39_0
             try clear hfz39_1
             try clear hfz44_0
             try clear hfz44_1
             try clear hfz58_0
             try clear hfz58_1
             try clear hfz61_0
             try clear hfz61_1
             try clear hfz63_0
             try clear hfz63_1
             try clear hfz64_0
             try clear hfz64_1
             try clear hfz66_0
             try clear hfz66_1
             try clear hfz68_0
             try clear hfz68_1
             try clear hfz70_0
             try clear hfz70_1
             try clear hfz71_0
             try clear hfz71_1
             try clear hfz73_0
             try clear hfz73_1
             try clear hfz90_0
             try clear hfz90_1
             try clear hfz93_0
             try clear hfz93_1
             try clear hfz95_0
             try clear hfz95_1
             try clear hfz99_0
             try clear hfz99_1
             try clear p2
             obtain ⟨kq, x20_195, rfl, HA, HJ195, BK303, BK304, BK305, BK306, BK329, HB⟩ := hcut
             cases kq with
             | zero => exact absurd HA.out (by simp [mummerlaw03_SpansOrder.j3])
             | succ kj195 =>
              have H := HA.out
              clear HA
              simp only [mummerlaw03_SpansOrder.j3] at H
              have HC203 := ak H
              clear H
              go_upto_region 17 with (fail)
              go_cut [21] (fun v21 wc => ∃ (kq : Nat) (x21_202 : Bool), v21 = .bool x21_202 ∧ Aside0 (mummerlaw03_SpansOrder.j4 kq t311 t313 t321 t323 x21_202 = some r) ∧ Aside0 (kq ≤ kj195) ∧ Aside0 (wc.heap[gb303]? = some (.cells #[.int .i64 a0_0, .int .i64 a0_1, .int .i64 a0_2, .int .i64 a0_3, .int .i64 a0_4, .int .i64 a0_5] 37 (0, 0))) ∧ Aside0 (wc.heap[gb304]? = some (.cells #[.int .i64 a0_0, .int .i64 a0_1] 24 (0, 0))) ∧ Aside0 (wc.heap[gb305]? = some (.cells #[.int .i64 a0_2, .int .i64 a0_3] 24 (0, 0))) ∧ Aside0 (wc.heap[gb306]? = some (.cells #[.int .i64 a0_4, .int .i64 a0_5] 24 (0, 0))) ∧ Aside0 (wc.heap[gb329]? = some (.cells #[.int .i64 t325, .int .i64 t326] 24 (0, 0))) ∧ Aside0 (Below w.heap.size w wc))
              case first =>
               have H := HC203.out
               clear HC203
               by_cases c204 : x20_195 = true
               ·subst c204
                have H1 : (if (!(t325 == a0_0) || (!(t326 == a0_1))) = true then (mummerlaw03_SpansOrder.j4 kj195 t311 t313 t321 t323 (!(t325 == a0_2) || (!(t326 == a0_3)))) else (mummerlaw03_SpansOrder.j4 kj195 t311 t313 t321 t323 false)) = some r := by rw [if_pos rfl] at H; exact H
                clear H
                have H := H1
                clear H1
                by_cases c205 : (!(t325 == a0_0) || (!(t326 == a0_1))) = true
                ·rw [if_pos c205] at H
                 have c205b0 : (!(t325 == a0_0) || (!(t326 == a0_1))) = true := c205
                 clear c205
                 (first | rw [c205b0] | (simp only [i64_w, i32_w]; rw [c205b0]) | skip)
                 have H' := ak H
                 clear H
                 have hnb206 := NB329_303.out
                 have hnc206 := NB303_329.out
                 have hnb207 := NB329_304.out
                 have hnc207 := NB304_329.out
                 have hnb208 := NB329_305.out
                 have hnc208 := NB305_329.out
                 have hnb209 := NB329_306.out
                 have hnc209 := NB306_329.out
                 have hcz210_0 : wc.cell? ⟨gb329, 0, none⟩ = some (.int .i64 t325) := (blk_cell BK329.out 0).trans rfl
                 have hcz210_1 : wc.cell? ⟨gb329, 1, none⟩ = some (.int .i64 t326) := (blk_cell BK329.out 1).trans rfl
                 have hfz210_0 := blk_frozen BK329.out 0
                 have hfz210_1 := blk_frozen BK329.out 1
                 have hnb211 := NB304_303.out
                 have hnc211 := NB303_304.out
                 have hnb212 := NB304_305.out
                 have hnc212 := NB305_304.out
                 have hnb213 := NB304_306.out
                 have hnc213 := NB306_304.out
                 have hcz214_0 : wc.cell? ⟨gb304, 0, none⟩ = some (.int .i64 a0_0) := (blk_cell BK304.out 0).trans rfl
                 have hcz214_1 : wc.cell? ⟨gb304, 1, none⟩ = some (.int .i64 a0_1) := (blk_cell BK304.out 1).trans rfl
                 have hfz214_0 := blk_frozen BK304.out 0
                 have hfz214_1 := blk_frozen BK304.out 1
                 have hnb215 := NB305_303.out
                 have hnc215 := NB303_305.out
                 have hnb216 := NB305_306.out
                 have hnc216 := NB306_305.out
                 have hcz217_0 : wc.cell? ⟨gb305, 0, none⟩ = some (.int .i64 a0_2) := (blk_cell BK305.out 0).trans rfl
                 have hcz217_1 : wc.cell? ⟨gb305, 1, none⟩ = some (.int .i64 a0_3) := (blk_cell BK305.out 1).trans rfl
                 have hfz217_0 := blk_frozen BK305.out 0
                 have hfz217_1 := blk_frozen BK305.out 1
                 go_wp2
                 go_meet
                 case rel => exact ⟨_, ((!(t325 == a0_2) || (!(t326 == a0_3)))), (by first | rfl | (simp; done) | (simp [*]; done)), H', ⟨by have := HJ1.out; have := HJ53.out; have := HJ160.out; have := HJ195.out; first | omega | exact Nat.le_refl _⟩, ⟨by (with_reducible repeat (first | refine bN ?_ _ | refine bD ?_ | refine bA ?_ _)); exact BK303.out⟩, ⟨by (with_reducible repeat (first | refine bN ?_ _ | refine bD ?_ | refine bA ?_ _)); exact BK304.out⟩, ⟨by (with_reducible repeat (first | refine bN ?_ _ | refine bD ?_ | refine bA ?_ _)); exact BK305.out⟩, ⟨by (with_reducible repeat (first | refine bN ?_ _ | refine bD ?_ | refine bA ?_ _)); exact BK306.out⟩, ⟨by (with_reducible repeat (first | refine bN ?_ _ | refine bD ?_ | refine bA ?_ _)); exact BK329.out⟩, ⟨by repeat (first | (with_reducible first | exact HB.out | apply wA | apply wN | apply wD | refine below_set ?_ GE303.out | refine below_set ?_ GE304.out | refine below_set ?_ GE305.out | refine below_set ?_ GE306.out | refine below_set ?_ GE329.out) | exact HB.out)⟩⟩
                ·rw [if_neg c205] at H
                 have c205b0 : (!(t325 == a0_0) || (!(t326 == a0_1))) = false := by simpa using c205
                 clear c205
                 (first | rw [c205b0] | (simp only [i64_w, i32_w]; rw [c205b0]) | skip)
                 have H' := ak H
                 clear H
                 have hnb218 := NB329_303.out
                 have hnc218 := NB303_329.out
                 have hnb219 := NB329_304.out
                 have hnc219 := NB304_329.out
                 have hnb220 := NB329_305.out
                 have hnc220 := NB305_329.out
                 have hnb221 := NB329_306.out
                 have hnc221 := NB306_329.out
                 have hcz222_0 : wc.cell? ⟨gb329, 0, none⟩ = some (.int .i64 t325) := (blk_cell BK329.out 0).trans rfl
                 have hcz222_1 : wc.cell? ⟨gb329, 1, none⟩ = some (.int .i64 t326) := (blk_cell BK329.out 1).trans rfl
                 have hfz222_0 := blk_frozen BK329.out 0
                 have hfz222_1 := blk_frozen BK329.out 1
                 have hnb223 := NB304_303.out
                 have hnc223 := NB303_304.out
                 have hnb224 := NB304_305.out
                 have hnc224 := NB305_304.out
                 have hnb225 := NB304_306.out
                 have hnc225 := NB306_304.out
                 have hcz226_0 : wc.cell? ⟨gb304, 0, none⟩ = some (.int .i64 a0_0) := (blk_cell BK304.out 0).trans rfl
                 have hcz226_1 : wc.cell? ⟨gb304, 1, none⟩ = some (.int .i64 a0_1) := (blk_cell BK304.out 1).trans rfl
                 have hfz226_0 := blk_frozen BK304.out 0
                 have hfz226_1 := blk_frozen BK304.out 1
                 go_wp2
                 go_meet
                 case rel => exact ⟨_, (false), (by first | rfl | (simp; done) | (simp [*]; done)), H', ⟨by have := HJ1.out; have := HJ53.out; have := HJ160.out; have := HJ195.out; first | omega | exact Nat.le_refl _⟩, ⟨by (with_reducible repeat (first | refine bN ?_ _ | refine bD ?_ | refine bA ?_ _)); exact BK303.out⟩, ⟨by (with_reducible repeat (first | refine bN ?_ _ | refine bD ?_ | refine bA ?_ _)); exact BK304.out⟩, ⟨by (with_reducible repeat (first | refine bN ?_ _ | refine bD ?_ | refine bA ?_ _)); exact BK305.out⟩, ⟨by (with_reducible repeat (first | refine bN ?_ _ | refine bD ?_ | refine bA ?_ _)); exact BK306.out⟩, ⟨by (with_reducible repeat (first | refine bN ?_ _ | refine bD ?_ | refine bA ?_ _)); exact BK329.out⟩, ⟨by repeat (first | (with_reducible first | exact HB.out | apply wA | apply wN | apply wD | refine below_set ?_ GE303.out | refine below_set ?_ GE304.out | refine below_set ?_ GE305.out | refine below_set ?_ GE306.out | refine below_set ?_ GE329.out) | exact HB.out)⟩⟩
               ·replace c204 := Bool.eq_false_iff.mpr c204
                subst c204
                have H1 : (mummerlaw03_SpansOrder.j4 kj195 t311 t313 t321 t323 false) = some r := by rw [if_neg (show ¬ (false = true) by decide)] at H; exact H
                clear H
                have H := H1
                clear H1
                have H' := ak H
                clear H
                go_wp2
                go_meet
                case rel => exact ⟨_, (false), (by first | rfl | (simp; done) | (simp [*]; done)), H', ⟨by have := HJ1.out; have := HJ53.out; have := HJ160.out; have := HJ195.out; first | omega | exact Nat.le_refl _⟩, ⟨by (with_reducible repeat (first | refine bN ?_ _ | refine bD ?_ | refine bA ?_ _)); exact BK303.out⟩, ⟨by (with_reducible repeat (first | refine bN ?_ _ | refine bD ?_ | refine bA ?_ _)); exact BK304.out⟩, ⟨by (with_reducible repeat (first | refine bN ?_ _ | refine bD ?_ | refine bA ?_ _)); exact BK305.out⟩, ⟨by (with_reducible repeat (first | refine bN ?_ _ | refine bD ?_ | refine bA ?_ _)); exact BK306.out⟩, ⟨by (with_reducible repeat (first | refine bN ?_ _ | refine bD ?_ | refine bA ?_ _)); exact BK329.out⟩, ⟨by repeat (first | (with_reducible first | exact HB.out | apply wA | apply wN | apply wD | refine below_set ?_ GE303.out | refine below_set ?_ GE304.out | refine below_set ?_ GE305.out | refine below_set ?_ GE306.out | refine below_set ?_ GE329.out) | exact HB.out)⟩⟩
              case rest =>
               clear HC203
               try clear c1
               try clear c2
               try clear p2
               try clear c3
               try clear c4
               try clear c5
               try clear c6
               try clear c7
               try clear c8
               try clear c9
               try clear c10
               try clear c11
               try clear c12
               try clear c13
               try clear c14
               try clear c15
               try clear c16
               try clear c17
               try clear c18
               try clear c19
               try clear c20
               try clear c21
               try clear c22
               try clear c25
               try clear c26
               try clear c29
               try clear c32
               try clear c33
               try clear c34
               try clear c37
               try clear c38
               try clear c41
               try clear c42
               try clear c43
               try clear c46
               try clear c55
               try clear c56
               try clear c57
               try clear c59
               try clear c60
               try clear c67
               try clear c75
               try clear c75b0
               try clear c75b1
               try clear c76
               try clear c76b0
               try clear c76b1
               try clear c77
               try clear c77b0
               try clear c77b1
               try clear c78
               try clear c78b0
               try clear c78b1
               try clear c79
               try clear c79b0
               try clear c79b1
               try clear c80
               try clear c81
               try clear c82
               try clear c83
               try clear c83b0
               try clear c84
               try clear c84b0
               try clear c85
               try clear c85b0
               try clear c86
               try clear c87
               try clear c88
               try clear c89
               try clear c91
               try clear c92
               try clear c94
               try clear c96
               try clear c97
               try clear c98
               try clear c100
               try clear c101
               try clear c103
               try clear c105
               try clear c106
               try clear c107
               try clear c109
               try clear c110
               try clear c112
               try clear c114
               try clear c115
               try clear c116
               try clear c118
               try clear c119
               try clear c121
               try clear c122
               try clear c123
               try clear c125
               try clear c125b0
               try clear c126
               try clear c126b0
               try clear c127
               try clear c127b0
               try clear c128
               try clear c129
               try clear c130
               try clear c132
               try clear c133
               try clear c135
               try clear c137
               try clear c138
               try clear c139
               try clear c141
               try clear c142
               try clear c144
               try clear c146
               try clear c147
               try clear c148
               try clear c150
               try clear c151
               try clear c153
               try clear c154
               try clear c155
               try clear c157
               try clear c162
               try clear c163
               try clear c164
               try clear c166
               try clear c167
               try clear c177
               try clear c178
               try clear c179
               try clear c180
               try clear c182
               try clear c182b0
               try clear c182b1
               try clear c183
               try clear c183b0
               try clear c183b1
               try clear c184
               try clear c184b0
               try clear c184b1
               try clear c185
               try clear c186
               try clear c187
               try clear c188
               try clear c189
               try clear c191
               try clear c192
               try clear c193
               try clear c195
               try clear c197
               try clear c198
               try clear c199
               try clear c200
               try clear c201
               try clear c204
               try clear c205
               try clear c205b0
               try clear c206
               try clear c207
               try clear c208
               try clear c209
               try clear c211
               try clear c212
               try clear c213
               try clear c215
               try clear c216
               try clear c218
               try clear c219
               try clear c220
               try clear c221
               try clear c223
               try clear c224
               try clear c225
               try clear hcz102_0
               try clear hcz102_1
               try clear hcz104_0
               try clear hcz104_1
               try clear hcz108_0
               try clear hcz108_1
               try clear hcz111_0
               try clear hcz111_1
               try clear hcz113_0
               try clear hcz113_1
               try clear hcz117_0
               try clear hcz117_1
               try clear hcz120_0
               try clear hcz120_1
               try clear hcz124_0
               try clear hcz124_1
               try clear hcz131_0
               try clear hcz131_1
               try clear hcz134_0
               try clear hcz134_1
               try clear hcz136_0
               try clear hcz136_1
               try clear hcz140_0
               try clear hcz140_1
               try clear hcz143_0
               try clear hcz143_1
               try clear hcz145_0
               try clear hcz145_1
               try clear hcz149_0
               try clear hcz149_1
               try clear hcz152_0
               try clear hcz152_1
               try clear hcz156_0
               try clear hcz156_1
               try clear hcz165_0
               try clear hcz165_1
               try clear hcz168_0
               try clear hcz168_1
               try clear hcz170_0
               try clear hcz170_1
               try clear hcz171_0
               try clear hcz171_1
               try clear hcz173_0
               try clear hcz173_1
               try clear hcz174_0
               try clear hcz174_1
               try clear hcz181_0
               try clear hcz181_1
               try clear hcz190_0
               try clear hcz190_1
               try clear hcz194_0
               try clear hcz194_1
               try clear hcz202_0
               try clear hcz202_1
               try clear hcz210_0
               try clear hcz210_1
               try clear hcz214_0
               try clear hcz214_1
               try clear hcz217_0
               try clear hcz217_1
               try clear hcz222_0
               try clear hcz222_1
               try clear hcz226_0
               try clear hcz226_1
               try clear hcz23_0
               try clear hcz23_1
               try clear hcz27_0
               try clear hcz27_1
               try clear hcz30_0
               try clear hcz30_1
               try clear hcz35_0
               try clear hcz35_1
               try clear hcz39_0
               try clear hcz39_1
               try clear hcz44_0
               try clear hcz44_1
               try clear hcz58_0
               try clear hcz58_1
               try clear hcz61_0
               try clear hcz61_1
               try clear hcz63_0
               try clear hcz63_1
               try clear hcz64_0
               try clear hcz64_1
               try clear hcz66_0
               try clear hcz66_1
               try clear hcz68_0
               try clear hcz68_1
               try clear hcz70_0
               try clear hcz70_1
               try clear hcz71_0
               try clear hcz71_1
               try clear hcz73_0
               try clear hcz73_1
               try clear hcz90_0
               try clear hcz90_1
               try clear hcz93_0
               try clear hcz93_1
               try clear hcz95_0
               try clear hcz95_1
               try clear hcz99_0
               try clear hcz99_1
               try clear hfz102_0
               try clear hfz102_1
               try clear hfz104_0
               try clear hfz104_1
               try clear hfz108_0
               try clear hfz108_1
               try clear hfz111_0
               try clear hfz111_1
               try clear hfz113_0
               try clear hfz113_1
               try clear hfz117_0
               try clear hfz117_1
               try clear hfz120_0
               try clear hfz120_1
               try clear hfz124_0
               try clear hfz124_1
               try clear hfz131_0
               try clear hfz131_1
               try clear hfz134_0
               try clear hfz134_1
               try clear hfz136_0
               try clear hfz136_1
               try clear hfz140_0
               try clear hfz140_1
               try clear hfz143_0
               try clear hfz143_1
               try clear hfz145_0
               try clear hfz145_1
               try clear hfz149_0
               try clear hfz149_1
               try clear hfz152_0
               try clear hfz152_1
               try clear hfz156_0
               try clear hfz156_1
               try clear hfz165_0
               try clear hfz165_1
               try clear hfz168_0
               try clear hfz168_1
               try clear hfz170_0
               try clear hfz170_1
               try clear hfz171_0
               try clear hfz171_1
               try clear hfz173_0
               try clear hfz173_1
               try clear hfz174_0
               try clear hfz174_1
               try clear hfz181_0
               try clear hfz181_1
               try clear hfz190_0
               try clear hfz190_1
               try clear hfz194_0
               try clear hfz194_1
               try clear hfz202_0
               try clear hfz202_1
               try clear hfz210_0
               try clear hfz210_1
               try clear hfz214_0
               try clear hfz214_1
               try clear hfz217_0
               try clear hfz217_1
               try clear hfz222_0
               try clear hfz222_1
               try clear hfz226_0
               try clear hfz226_1
               try clear hfz23_0
               try clear hfz23_1
               try clear hfz27_0
               try clear hfz27_1
               try clear hfz30_0
               try clear hfz30_1
               try clear hfz35_0
               try clear hfz35_1
               try clear hfz39_0
               try clear hfz39_1
               try clear hfz44_0
               try clear hfz44_1
               try clear hfz58_0
               try clear hfz58_1
               try clear hfz61_0
               try clear hfz61_1
               try clear hfz63_0
               try clear hfz63_1
               try clear hfz64_0
               try clear hfz64_1
               try clear hfz66_0
               try clear hfz66_1
               try clear hfz68_0
               try clear hfz68_1
               try clear hfz70_0
               try clear hfz70_1
               try clear hfz71_0
               try clear hfz71_1
               try clear hfz73_0
               try clear hfz73_1
               try clear hfz90_0
               try clear hfz90_1
               try clear hfz93_0
               try clear hfz93_1
               try clear hfz95_0
               try clear hfz95_1
               try clear hfz99_0
               try clear hfz99_1
               try clear p2
               obtain ⟨kq, x21_202, rfl, HA, HJ202, BK303, BK304, BK305, BK306, BK329, HB⟩ := hcut
               cases kq with
               | zero => exact absurd HA.out (by simp [mummerlaw03_SpansOrder.j4])
               | succ kj202 =>
                have H := HA.out
                clear HA
                simp only [mummerlaw03_SpansOrder.j4] at H
                by_cases c227 : t311 = true
                ·subst c227
                 have H1 : (if (x21_202 == false) = true then ((mummerlaw03_awake.f kj202).bind fun t330 => (some t330)) else (some false)) = some r := by rw [if_pos rfl] at H; exact H
                 clear H
                 have H := H1
                 clear H1
                 by_cases c228 : (x21_202 == false) = true
                 ·rw [if_pos c228] at H
                  have c228b0 : (x21_202 == false) = true := c228
                  (try (have c228b1 : decide (x21_202 = false) = true := by simpa using c228))
                  (try (have c228b2 : (x21_202 == false) = true := by simpa using c228))
                  clear c228
                  replace H := Option.bind_eq_some_iff.mp H
                  obtain ⟨t330, A2290, H⟩ := H
                  replace H : (some t330) = some r := H
                  have A229 := ak A2290
                  clear A2290
                  obtain rfl := Option.some.inj H
                  go_wp2_with (first | (go_at_call 12; (with_reducible refine (mummerlaw03_awake.calls kj202  t330 _ hrt A229.out ⟨Sc.Tab.stay HT.out (by repeat (first | (with_reducible first | exact HB.out | apply wA | apply wN | apply wD) | exact HB.out | (refine below_set ?_ (by assumption)) | (refine below_set ?_ (Aside0.out (by assumption)))))⟩).mono ?_); rintro e w230 ⟨rfl, hb⟩; have n0_ := ak (blk_below (g := gb303) (o := .cells #[.int .i64 a0_0, .int .i64 a0_1, .int .i64 a0_2, .int .i64 a0_3, .int .i64 a0_4, .int .i64 a0_5] 37 (0, 0)) (by (with_reducible repeat (first | refine bN ?_ _ | refine bD ?_ | refine bA ?_ _)); exact BK303.out) hb); have n1_ := ak (blk_below (g := gb304) (o := .cells #[.int .i64 a0_0, .int .i64 a0_1] 24 (0, 0)) (by (with_reducible repeat (first | refine bN ?_ _ | refine bD ?_ | refine bA ?_ _)); exact BK304.out) hb); have n2_ := ak (blk_below (g := gb305) (o := .cells #[.int .i64 a0_2, .int .i64 a0_3] 24 (0, 0)) (by (with_reducible repeat (first | refine bN ?_ _ | refine bD ?_ | refine bA ?_ _)); exact BK305.out) hb); have n3_ := ak (blk_below (g := gb306) (o := .cells #[.int .i64 a0_4, .int .i64 a0_5] 24 (0, 0)) (by (with_reducible repeat (first | refine bN ?_ _ | refine bD ?_ | refine bA ?_ _)); exact BK306.out) hb); have n4_ := ak (blk_below (g := gb329) (o := .cells #[.int .i64 t325, .int .i64 t326] 24 (0, 0)) (by (with_reducible repeat (first | refine bN ?_ _ | refine bD ?_ | refine bA ?_ _)); exact BK329.out) hb); have n5_ := ak (below_step (by repeat (first | (with_reducible first | exact HB.out | apply wA | apply wN | apply wD | refine below_set ?_ GE303.out | refine below_set ?_ GE304.out | refine below_set ?_ GE305.out | refine below_set ?_ GE306.out | refine below_set ?_ GE329.out) | exact HB.out)) hb); clear BK303; clear BK304; clear BK305; clear BK306; clear BK329; clear HB; have BK303 := n0_; have BK304 := n1_; have BK305 := n2_; have BK306 := n3_; have BK329 := n4_; have HB := n5_; clear n0_ n1_ n2_ n3_ n4_ n5_; (try clear hb); (try clear hb2); (try clear hk); (try clear hi)))
                  go_ret
                  exact ⟨by first | rfl | (simp [errW_none, errW_some] <;> rfl) | (simp [*, errW_none, errW_some] <;> rfl), by repeat (first | (with_reducible first | exact HB.out | apply wA | apply wN | apply wD | refine below_set ?_ GE303.out | refine below_set ?_ GE304.out | refine below_set ?_ GE305.out | refine below_set ?_ GE306.out | refine below_set ?_ GE329.out) | exact HB.out)⟩
                 ·rw [if_neg c228] at H
                  have c228b0 : (x21_202 == false) = false := by simpa using c228
                  (try (have c228b1 : decide (x21_202 = false) = false := by simpa using c228))
                  (try (have c228b2 : (x21_202 == false) = false := by simpa using c228))
                  (try (have c228b3 : ¬ (x21_202 = false) := by simpa using c228))
                  clear c228
                  exact absurd ((Option.some.inj H).trans hrt.out) (by decide)
                ·replace c227 := Bool.eq_false_iff.mpr c227
                 subst c227
                 have H1 : (if t313 = true then (if (x21_202 == false) = true then ((mummerlaw03_awake.f kj202).bind fun t331 => (some t331)) else (some false)) else (if t321 = true then (if (x21_202 == false) = true then ((mummerlaw03_awake.f kj202).bind fun t332 => (some t332)) else (some false)) else (if (x21_202 == (!t323)) = true then ((mummerlaw03_awake.f kj202).bind fun t333 => (some t333)) else (some false)))) = some r := by rw [if_neg (show ¬ (false = true) by decide)] at H; exact H
                 clear H
                 have H := H1
                 clear H1
                 by_cases c231 : t313 = true
                 ·subst c231
                  have H1 : (if (x21_202 == false) = true then ((mummerlaw03_awake.f kj202).bind fun t331 => (some t331)) else (some false)) = some r := by rw [if_pos rfl] at H; exact H
                  clear H
                  have H := H1
                  clear H1
                  by_cases c232 : (x21_202 == false) = true
                  ·rw [if_pos c232] at H
                   have c232b0 : (x21_202 == false) = true := c232
                   (try (have c232b1 : decide (x21_202 = false) = true := by simpa using c232))
                   (try (have c232b2 : (x21_202 == false) = true := by simpa using c232))
                   clear c232
                   replace H := Option.bind_eq_some_iff.mp H
                   obtain ⟨t331, A2330, H⟩ := H
                   replace H : (some t331) = some r := H
                   have A233 := ak A2330
                   clear A2330
                   obtain rfl := Option.some.inj H
                   go_wp2_with (first | (go_at_call 12; (with_reducible refine (mummerlaw03_awake.calls kj202  t331 _ hrt A233.out ⟨Sc.Tab.stay HT.out (by repeat (first | (with_reducible first | exact HB.out | apply wA | apply wN | apply wD) | exact HB.out | (refine below_set ?_ (by assumption)) | (refine below_set ?_ (Aside0.out (by assumption)))))⟩).mono ?_); rintro e w234 ⟨rfl, hb⟩; have n0_ := ak (blk_below (g := gb303) (o := .cells #[.int .i64 a0_0, .int .i64 a0_1, .int .i64 a0_2, .int .i64 a0_3, .int .i64 a0_4, .int .i64 a0_5] 37 (0, 0)) (by (with_reducible repeat (first | refine bN ?_ _ | refine bD ?_ | refine bA ?_ _)); exact BK303.out) hb); have n1_ := ak (blk_below (g := gb304) (o := .cells #[.int .i64 a0_0, .int .i64 a0_1] 24 (0, 0)) (by (with_reducible repeat (first | refine bN ?_ _ | refine bD ?_ | refine bA ?_ _)); exact BK304.out) hb); have n2_ := ak (blk_below (g := gb305) (o := .cells #[.int .i64 a0_2, .int .i64 a0_3] 24 (0, 0)) (by (with_reducible repeat (first | refine bN ?_ _ | refine bD ?_ | refine bA ?_ _)); exact BK305.out) hb); have n3_ := ak (blk_below (g := gb306) (o := .cells #[.int .i64 a0_4, .int .i64 a0_5] 24 (0, 0)) (by (with_reducible repeat (first | refine bN ?_ _ | refine bD ?_ | refine bA ?_ _)); exact BK306.out) hb); have n4_ := ak (blk_below (g := gb329) (o := .cells #[.int .i64 t325, .int .i64 t326] 24 (0, 0)) (by (with_reducible repeat (first | refine bN ?_ _ | refine bD ?_ | refine bA ?_ _)); exact BK329.out) hb); have n5_ := ak (below_step (by repeat (first | (with_reducible first | exact HB.out | apply wA | apply wN | apply wD | refine below_set ?_ GE303.out | refine below_set ?_ GE304.out | refine below_set ?_ GE305.out | refine below_set ?_ GE306.out | refine below_set ?_ GE329.out) | exact HB.out)) hb); clear BK303; clear BK304; clear BK305; clear BK306; clear BK329; clear HB; have BK303 := n0_; have BK304 := n1_; have BK305 := n2_; have BK306 := n3_; have BK329 := n4_; have HB := n5_; clear n0_ n1_ n2_ n3_ n4_ n5_; (try clear hb); (try clear hb2); (try clear hk); (try clear hi)))
                   go_ret
                   exact ⟨by first | rfl | (simp [errW_none, errW_some] <;> rfl) | (simp [*, errW_none, errW_some] <;> rfl), by repeat (first | (with_reducible first | exact HB.out | apply wA | apply wN | apply wD | refine below_set ?_ GE303.out | refine below_set ?_ GE304.out | refine below_set ?_ GE305.out | refine below_set ?_ GE306.out | refine below_set ?_ GE329.out) | exact HB.out)⟩
                  ·rw [if_neg c232] at H
                   have c232b0 : (x21_202 == false) = false := by simpa using c232
                   (try (have c232b1 : decide (x21_202 = false) = false := by simpa using c232))
                   (try (have c232b2 : (x21_202 == false) = false := by simpa using c232))
                   (try (have c232b3 : ¬ (x21_202 = false) := by simpa using c232))
                   clear c232
                   exact absurd ((Option.some.inj H).trans hrt.out) (by decide)
                 ·replace c231 := Bool.eq_false_iff.mpr c231
                  subst c231
                  have H1 : (if t321 = true then (if (x21_202 == false) = true then ((mummerlaw03_awake.f kj202).bind fun t332 => (some t332)) else (some false)) else (if (x21_202 == (!t323)) = true then ((mummerlaw03_awake.f kj202).bind fun t333 => (some t333)) else (some false))) = some r := by rw [if_neg (show ¬ (false = true) by decide)] at H; exact H
                  clear H
                  have H := H1
                  clear H1
                  by_cases c235 : t321 = true
                  ·subst c235
                   have H1 : (if (x21_202 == false) = true then ((mummerlaw03_awake.f kj202).bind fun t332 => (some t332)) else (some false)) = some r := by rw [if_pos rfl] at H; exact H
                   clear H
                   have H := H1
                   clear H1
                   by_cases c236 : (x21_202 == false) = true
                   ·rw [if_pos c236] at H
                    have c236b0 : (x21_202 == false) = true := c236
                    (try (have c236b1 : decide (x21_202 = false) = true := by simpa using c236))
                    (try (have c236b2 : (x21_202 == false) = true := by simpa using c236))
                    clear c236
                    replace H := Option.bind_eq_some_iff.mp H
                    obtain ⟨t332, A2370, H⟩ := H
                    replace H : (some t332) = some r := H
                    have A237 := ak A2370
                    clear A2370
                    obtain rfl := Option.some.inj H
                    go_wp2_with (first | (go_at_call 12; (with_reducible refine (mummerlaw03_awake.calls kj202  t332 _ hrt A237.out ⟨Sc.Tab.stay HT.out (by repeat (first | (with_reducible first | exact HB.out | apply wA | apply wN | apply wD) | exact HB.out | (refine below_set ?_ (by assumption)) | (refine below_set ?_ (Aside0.out (by assumption)))))⟩).mono ?_); rintro e w238 ⟨rfl, hb⟩; have n0_ := ak (blk_below (g := gb303) (o := .cells #[.int .i64 a0_0, .int .i64 a0_1, .int .i64 a0_2, .int .i64 a0_3, .int .i64 a0_4, .int .i64 a0_5] 37 (0, 0)) (by (with_reducible repeat (first | refine bN ?_ _ | refine bD ?_ | refine bA ?_ _)); exact BK303.out) hb); have n1_ := ak (blk_below (g := gb304) (o := .cells #[.int .i64 a0_0, .int .i64 a0_1] 24 (0, 0)) (by (with_reducible repeat (first | refine bN ?_ _ | refine bD ?_ | refine bA ?_ _)); exact BK304.out) hb); have n2_ := ak (blk_below (g := gb305) (o := .cells #[.int .i64 a0_2, .int .i64 a0_3] 24 (0, 0)) (by (with_reducible repeat (first | refine bN ?_ _ | refine bD ?_ | refine bA ?_ _)); exact BK305.out) hb); have n3_ := ak (blk_below (g := gb306) (o := .cells #[.int .i64 a0_4, .int .i64 a0_5] 24 (0, 0)) (by (with_reducible repeat (first | refine bN ?_ _ | refine bD ?_ | refine bA ?_ _)); exact BK306.out) hb); have n4_ := ak (blk_below (g := gb329) (o := .cells #[.int .i64 t325, .int .i64 t326] 24 (0, 0)) (by (with_reducible repeat (first | refine bN ?_ _ | refine bD ?_ | refine bA ?_ _)); exact BK329.out) hb); have n5_ := ak (below_step (by repeat (first | (with_reducible first | exact HB.out | apply wA | apply wN | apply wD | refine below_set ?_ GE303.out | refine below_set ?_ GE304.out | refine below_set ?_ GE305.out | refine below_set ?_ GE306.out | refine below_set ?_ GE329.out) | exact HB.out)) hb); clear BK303; clear BK304; clear BK305; clear BK306; clear BK329; clear HB; have BK303 := n0_; have BK304 := n1_; have BK305 := n2_; have BK306 := n3_; have BK329 := n4_; have HB := n5_; clear n0_ n1_ n2_ n3_ n4_ n5_; (try clear hb); (try clear hb2); (try clear hk); (try clear hi)))
                    go_ret
                    exact ⟨by first | rfl | (simp [errW_none, errW_some] <;> rfl) | (simp [*, errW_none, errW_some] <;> rfl), by repeat (first | (with_reducible first | exact HB.out | apply wA | apply wN | apply wD | refine below_set ?_ GE303.out | refine below_set ?_ GE304.out | refine below_set ?_ GE305.out | refine below_set ?_ GE306.out | refine below_set ?_ GE329.out) | exact HB.out)⟩
                   ·rw [if_neg c236] at H
                    have c236b0 : (x21_202 == false) = false := by simpa using c236
                    (try (have c236b1 : decide (x21_202 = false) = false := by simpa using c236))
                    (try (have c236b2 : (x21_202 == false) = false := by simpa using c236))
                    (try (have c236b3 : ¬ (x21_202 = false) := by simpa using c236))
                    clear c236
                    exact absurd ((Option.some.inj H).trans hrt.out) (by decide)
                  ·replace c235 := Bool.eq_false_iff.mpr c235
                   subst c235
                   have H1 : (if (x21_202 == (!t323)) = true then ((mummerlaw03_awake.f kj202).bind fun t333 => (some t333)) else (some false)) = some r := by rw [if_neg (show ¬ (false = true) by decide)] at H; exact H
                   clear H
                   have H := H1
                   clear H1
                   by_cases c239 : (x21_202 == (!t323)) = true
                   ·rw [if_pos c239] at H
                    have c239b0 : (x21_202 == (!t323)) = true := c239
                    (try (have c239b1 : decide (x21_202 = (!t323)) = true := by simpa using c239))
                    (try (have c239b2 : (x21_202 == (!t323)) = true := by simpa using c239))
                    clear c239
                    replace H := Option.bind_eq_some_iff.mp H
                    obtain ⟨t333, A2400, H⟩ := H
                    replace H : (some t333) = some r := H
                    have A240 := ak A2400
                    clear A2400
                    obtain rfl := Option.some.inj H
                    go_wp2_with (first | (go_at_call 12; (with_reducible refine (mummerlaw03_awake.calls kj202  t333 _ hrt A240.out ⟨Sc.Tab.stay HT.out (by repeat (first | (with_reducible first | exact HB.out | apply wA | apply wN | apply wD) | exact HB.out | (refine below_set ?_ (by assumption)) | (refine below_set ?_ (Aside0.out (by assumption)))))⟩).mono ?_); rintro e w241 ⟨rfl, hb⟩; have n0_ := ak (blk_below (g := gb303) (o := .cells #[.int .i64 a0_0, .int .i64 a0_1, .int .i64 a0_2, .int .i64 a0_3, .int .i64 a0_4, .int .i64 a0_5] 37 (0, 0)) (by (with_reducible repeat (first | refine bN ?_ _ | refine bD ?_ | refine bA ?_ _)); exact BK303.out) hb); have n1_ := ak (blk_below (g := gb304) (o := .cells #[.int .i64 a0_0, .int .i64 a0_1] 24 (0, 0)) (by (with_reducible repeat (first | refine bN ?_ _ | refine bD ?_ | refine bA ?_ _)); exact BK304.out) hb); have n2_ := ak (blk_below (g := gb305) (o := .cells #[.int .i64 a0_2, .int .i64 a0_3] 24 (0, 0)) (by (with_reducible repeat (first | refine bN ?_ _ | refine bD ?_ | refine bA ?_ _)); exact BK305.out) hb); have n3_ := ak (blk_below (g := gb306) (o := .cells #[.int .i64 a0_4, .int .i64 a0_5] 24 (0, 0)) (by (with_reducible repeat (first | refine bN ?_ _ | refine bD ?_ | refine bA ?_ _)); exact BK306.out) hb); have n4_ := ak (blk_below (g := gb329) (o := .cells #[.int .i64 t325, .int .i64 t326] 24 (0, 0)) (by (with_reducible repeat (first | refine bN ?_ _ | refine bD ?_ | refine bA ?_ _)); exact BK329.out) hb); have n5_ := ak (below_step (by repeat (first | (with_reducible first | exact HB.out | apply wA | apply wN | apply wD | refine below_set ?_ GE303.out | refine below_set ?_ GE304.out | refine below_set ?_ GE305.out | refine below_set ?_ GE306.out | refine below_set ?_ GE329.out) | exact HB.out)) hb); clear BK303; clear BK304; clear BK305; clear BK306; clear BK329; clear HB; have BK303 := n0_; have BK304 := n1_; have BK305 := n2_; have BK306 := n3_; have BK329 := n4_; have HB := n5_; clear n0_ n1_ n2_ n3_ n4_ n5_; (try clear hb); (try clear hb2); (try clear hk); (try clear hi)))
                    go_ret
                    exact ⟨by first | rfl | (simp [errW_none, errW_some] <;> rfl) | (simp [*, errW_none, errW_some] <;> rfl), by repeat (first | (with_reducible first | exact HB.out | apply wA | apply wN | apply wD | refine below_set ?_ GE303.out | refine below_set ?_ GE304.out | refine below_set ?_ GE305.out | refine below_set ?_ GE306.out | refine below_set ?_ GE329.out) | exact HB.out)⟩
                   ·rw [if_neg c239] at H
                    have c239b0 : (x21_202 == (!t323)) = false := by simpa using c239
                    (try (have c239b1 : decide (x21_202 = (!t323)) = false := by simpa using c239))
                    (try (have c239b2 : (x21_202 == (!t323)) = false := by simpa using c239))
                    (try (have c239b3 : ¬ (x21_202 = (!t323)) := by simpa using c239))
                    clear c239
                    exact absurd ((Option.some.inj H).trans hrt.out) (by decide)
end Go.Proofs.YtnkfdobcmfdhfaaDoor.P
namespace Go.Proofs.YtnkfdobcmfdhfaaDoor.P
open Go.RowKit Go.Proofs.YtnkfdobcmfdhfaaDoorW.PrintWords Go.Proofs.YtnkfdobcmfdhfaaDoorW.PrintLast Sc
set_option linter.unusedVariables false
set_option linter.unusedSimpArgs false
set_option maxRecDepth 20000
theorem awake60 : mummerlaw03_awake.f 60 = some true := by decide +kernel
theorem awake_f (k : Nat) (h : 60 ≤ k) : mummerlaw03_awake.f k = some true := by
  induction h with
  | refl => exact awake60
  | step _ ih => exact mummerlaw03_awake.mono _ _ ih
end Go.Proofs.YtnkfdobcmfdhfaaDoor.P
