import Derived.Test.YtkalbdeopogbpaaGreatDoorKX38
import Derived.Test.YtkalbdeopogbpaaGreatDoorKX39
namespace Go.Proofs.YtkalbdeopogbpaaGreatDoor.P
open Go.RowKit Go.Proofs.YtkalbdeopogbpaaGreatDoorW.PrintWords Go.Proofs.YtkalbdeopogbpaaGreatDoorW.PrintLast Go.Proofs.YtkalbdeopogbpaaGreatDoorW.PrintMore
attribute [local go_sem] max2_int min2_int max_two min_two max_three min_three max_four min_four   -- for this text's walks alone
set_option linter.unusedVariables false
set_option linter.unusedSimpArgs false
mutual
def mummerref01_next.j1 : Nat → ByteArray → Int → Option (ByteArray)
  | 0, _, _ => none
  | k + 1, x0, x3 => mummerref01_next.l1 k x0 x3 (⟨#[]⟩ : ByteArray) (wrap64 (x3 + 1))
def mummerref01_next.l1 : Nat → ByteArray → Int → ByteArray → Int → Option (ByteArray)
  | 0, _, _, _, _ => none
  | k + 1, x0, x3, x4, x5 => if x5 < (x0.size : Int) then (if x4.size + 1 ≤ 9223372036854775807 then (mummerref01_next.l1 k x0 x3 (x4 ++ (⟨#[48]⟩ : ByteArray)) (wrap64 (x5 + 1))) else (none)) else (if x3 < 0 then (if 1 + x4.size ≤ 9223372036854775807 then (some ((⟨#[49]⟩ : ByteArray) ++ x4)) else (none)) else (if 0 ≤ x3 then (if x3 ≤ (x0.size : Int) then (if x3 < (x0.size : Int) then ((some (([((bt x0 x3) + 1) % 256] : List Int) : List Int)).bind fun y263 => (if (x0.extract 0 (x3 : Int).toNat).size + (strOfNums y263).size ≤ 9223372036854775807 then (if ((x0.extract 0 (x3 : Int).toNat) ++ (strOfNums y263)).size + x4.size ≤ 9223372036854775807 then (some (((x0.extract 0 (x3 : Int).toNat) ++ (strOfNums y263)) ++ x4)) else (none)) else (none))) else (none)) else (none)) else (none)))
def mummerref01_next.l0 : Nat → ByteArray → Int → Option (ByteArray)
  | 0, _, _ => none
  | k + 1, x0, x3 => if x3 ≥ 0 then (if 0 ≤ x3 then (if x3 < (x0.size : Int) then (if (bt x0 x3) = 57 then (mummerref01_next.l0 k x0 (wrap64 (x3 - 1))) else (mummerref01_next.j1 k x0 x3)) else (none)) else (none)) else (mummerref01_next.j1 k x0 x3)
end
def mummerref01_next.f (k : Nat) (a0 : ByteArray) : Option (ByteArray) := mummerref01_next.l0 k a0 (wrap64 ((a0.size : Int) - 1))
def mummerref01_next.T11 : Bool × List (List Nat × List Nat) := (true, [([], []), ([], []), ([0, 1], [0, 1]), ([], []), ([], []), ([3, 4], [3, 4]), ([5], [5]), ([6], [6]), ([7], [7]), ([2, 8], [2, 8]), ([], []), ([9, 10], [9, 10]), ([11, 0, 1, 2, 3, 4, 5, 6, 7, 8, 9, 10, 11], [11])])
def mummerref01_next.B11 : List Nat := [0, 0, 3, 0, 0, 24, 56, 120, 248, 511, 0, 2047, 4095]
theorem mummerref01_next.tab11 : rtab .any (opsOf Tryz.f50 11) = mummerref01_next.T11 := by kernel_rfl
theorem mummerref01_next.bits11 : waitsOk mummerref01_next.T11.2 mummerref01_next.B11 = true := by kernel_rfl
set_option maxHeartbeats 8000000 in
set_option maxRecDepth 100000 in
theorem mummerref01_next.calls (k : Nat) (a0 : ByteArray) (r : ByteArray) (w : World) (h : mummerref01_next.f k a0 = some r) :
    Calls Tryz.prog 50 #[.string a0] w fun e w' => e = .returned (.string r) ∧ Below w.heap.size w w' := by
  have HB := ak (Below.refl w.heap.size w)
  have H : (mummerref01_next.l0 k a0 (wrap64 ((a0.size : Int) - 1))) = some r := h
  clear h
  have HC2 := ak H
  clear H
  go_enter Tryz.func50, Tryz.ntmps50
  go_upto_block 0 with (fail)
  go_cut [3] (fun v3 wc => ∃ (kq : Nat) (x3_1 : Int), v3 = .int .i64 x3_1 ∧ Aside0 (mummerref01_next.j1 kq a0 x3_1 = some r) ∧ Aside0 (kq ≤ k) ∧ Aside0 (Below w.heap.size w wc))
  case first =>
    have H := HC2.out
    clear HC2
    have H' := ak H
    clear H
    go_wp2
    go_loopg [3] k (fun kq v3 w' => ∃ (x3_1 : Int), v3 = .int .i64 x3_1 ∧ Aside0 (mummerref01_next.l0 kq a0 x3_1 = some r) ∧ Aside0 (kq ≤ k) ∧ Aside0 (Below w.heap.size w w'))
    case atStart => exact ⟨(wrap64 ((a0.size : Int) - 1)), (by first | rfl | (simp; done) | (simp [*]; done)), H', ⟨Nat.le_refl _⟩, ⟨by repeat (first | (with_reducible first | exact HB.out | apply wA | apply wN | apply wD) | exact HB.out)⟩⟩
    case round =>
      clear H'
      try clear p2
      obtain ⟨x3_1, rfl, HA, HK1, HB⟩ := hrel
      cases gk with
      | zero => exact absurd HA.out (by simp [mummerref01_next.l0])
      | succ k1 =>
        have H := HA.out
        clear HA
        simp only [mummerref01_next.l0] at H
        by_cases c3 : x3_1 ≥ 0
        · rw [if_pos c3] at H
          have c3b0 : decide (0 ≤ x3_1) = true := decide_eq_true c3
          clear c3
          (first | rw [c3b0] | (simp only [i64_w, i32_w]; rw [c3b0]) | skip)
          by_cases c4 : 0 ≤ x3_1
          · rw [if_pos c4] at H
            have c4b0 : decide (0 ≤ x3_1) = true := decide_eq_true c4
            clear c4
            by_cases c5 : x3_1 < (a0.size : Int)
            · rw [if_pos c5] at H
              have c5b0 : decide (x3_1 < (a0.size : Int)) = true := decide_eq_true c5
              clear c5
              by_cases c7 : (bt a0 x3_1) = 57
              · rw [if_pos c7] at H
                have c7b0 : ((bt a0 x3_1) == 57) = true := beq_iff_eq.mpr c7
                have c7b1 : ((bt a0 x3_1) != 57) = false := bne_eq_false_iff_eq.mpr c7
                clear c7
                have H' := ak H
                clear H
                have p6 : 0 ≤ (x3_1 : Int) := of_decide_eq_true (by first | (with_reducible assumption) | assumption)
                have q6 : x3_1 < (a0.size : Int) := of_decide_eq_true (by first | (with_reducible assumption) | assumption)
                have hx6 := bt_at a0 x3_1
                replace p6 := eq_true p6
                replace q6 := eq_true q6
                go_wp2
                go_roundg k1
                case measure => have := HK1.out; omega
                case rel => exact ⟨(wrap64 (x3_1 - 1)), (by first | rfl | (simp; done) | (simp [*]; done)), H', ⟨by have := HK1.out; omega⟩, ⟨by repeat (first | (with_reducible first | exact HB.out | apply wA | apply wN | apply wD) | exact HB.out)⟩⟩
              · rw [if_neg c7] at H
                have c7b0 : ((bt a0 x3_1) == 57) = false := beq_eq_false_iff_ne.mpr c7
                have c7b1 : ((bt a0 x3_1) != 57) = true := bne_iff_ne.mpr c7
                have H' := ak H
                clear H
                have p6 : 0 ≤ (x3_1 : Int) := of_decide_eq_true (by first | (with_reducible assumption) | assumption)
                have q6 : x3_1 < (a0.size : Int) := of_decide_eq_true (by first | (with_reducible assumption) | assumption)
                have hx6 := bt_at a0 x3_1
                replace p6 := eq_true p6
                replace q6 := eq_true q6
                go_wp2
                go_meet
                case rel => exact ⟨_, (x3_1), (by first | rfl | (simp; done) | (simp [*]; done)), H', ⟨by have := HK1.out; first | omega | exact Nat.le_refl _⟩, ⟨by repeat (first | (with_reducible first | exact HB.out | apply wA | apply wN | apply wD) | exact HB.out)⟩⟩
            · rw [if_neg c5] at H
              exact absurd H (by simp)
          · rw [if_neg c4] at H
            exact absurd H (by simp)
        · rw [if_neg c3] at H
          have c3b0 : decide (0 ≤ x3_1) = false := decide_eq_false c3
          clear c3
          (first | rw [c3b0] | (simp only [i64_w, i32_w]; rw [c3b0]) | skip)
          have H' := ak H
          clear H
          go_wp2
          go_meet
          case rel => exact ⟨_, (x3_1), (by first | rfl | (simp; done) | (simp [*]; done)), H', ⟨by have := HK1.out; first | omega | exact Nat.le_refl _⟩, ⟨by repeat (first | (with_reducible first | exact HB.out | apply wA | apply wN | apply wD) | exact HB.out)⟩⟩
  case rest =>
    clear HC2
    try clear p2
    try clear c3
    try clear c3b0
    try clear c4
    try clear c4b0
    try clear c5
    try clear c5b0
    try clear p6
    try clear q6
    try clear hx6
    try clear c7
    try clear c7b0
    try clear c7b1
    try clear p2
    try clear p6
    try clear q6
    obtain ⟨kq, x3_1, rfl, HA, HJ1, HB⟩ := hcut
    cases kq with
    | zero => exact absurd HA.out (by simp [mummerref01_next.j1])
    | succ kj1 =>
      have H := HA.out
      clear HA
      simp only [mummerref01_next.j1] at H
      have H' := ak H
      clear H
      go_wp2
      go_loopg [4, 5] kj1 (fun kq v4 v5 w' => ∃ (x4_2 : ByteArray) (x5_2 : Int), v4 = .string x4_2 ∧ v5 = .int .i64 x5_2 ∧ Aside0 (mummerref01_next.l1 kq a0 x3_1 x4_2 x5_2 = some r) ∧ Aside0 (kq ≤ kj1) ∧ Aside0 (Below w.heap.size w w'))
      case atStart => exact ⟨((⟨#[]⟩ : ByteArray)), (wrap64 (x3_1 + 1)), (by first | rfl | (simp; done) | (simp [*]; done)), (by first | rfl | (simp; done) | (simp [*]; done)), H', ⟨Nat.le_refl _⟩, ⟨by repeat (first | (with_reducible first | exact HB.out | apply wA | apply wN | apply wD) | exact HB.out)⟩⟩
      case round =>
        clear H'
        try clear p2
        try clear c3
        try clear c3b0
        try clear c4
        try clear c4b0
        try clear c5
        try clear c5b0
        try clear p6
        try clear q6
        try clear hx6
        try clear c7
        try clear c7b0
        try clear c7b1
        try clear p2
        try clear p6
        try clear q6
        obtain ⟨x4_2, x5_2, rfl, rfl, HA, HK2, HB⟩ := hrel
        cases gk with
        | zero => exact absurd HA.out (by simp [mummerref01_next.l1])
        | succ k2 =>
          have H := HA.out
          clear HA
          simp only [mummerref01_next.l1] at H
          by_cases c8 : x5_2 < (a0.size : Int)
          · rw [if_pos c8] at H
            have c8b0 : decide (x5_2 < (a0.size : Int)) = true := decide_eq_true c8
            clear c8
            by_cases c9 : x4_2.size + 1 ≤ 9223372036854775807
            · rw [if_pos c9] at H
              have c9b0 := eq_true c9
              have c9b1 : decide (x4_2.size + 1 ≤ 9223372036854775807) = true := decide_eq_true c9
              try have c9b2 : (9223372036854775807 < x4_2.size + 1) = False := eq_false (Nat.not_lt.2 c9)
              have H' := ak H
              clear H
              go_wp2
              go_roundg k2
              case measure => have := HJ1.out; have := HK2.out; omega
              case rel => exact ⟨(x4_2 ++ (⟨#[48]⟩ : ByteArray)), (wrap64 (x5_2 + 1)), (by first | rfl | (simp; done) | (simp [*]; done)), (by first | rfl | (simp; done) | (simp [*]; done)), H', ⟨by have := HJ1.out; have := HK2.out; omega⟩, ⟨by repeat (first | (with_reducible first | exact HB.out | apply wA | apply wN | apply wD) | exact HB.out)⟩⟩
            · rw [if_neg c9] at H
              exact absurd H (by simp)
          · rw [if_neg c8] at H
            have c8b0 : decide (x5_2 < (a0.size : Int)) = false := decide_eq_false c8
            clear c8
            by_cases c10 : x3_1 < 0
            · rw [if_pos c10] at H
              have c10b0 : decide (x3_1 < 0) = true := decide_eq_true c10
              clear c10
              by_cases c11 : 1 + x4_2.size ≤ 9223372036854775807
              · rw [if_pos c11] at H
                have c11b0 := eq_true c11
                have c11b1 : decide (1 + x4_2.size ≤ 9223372036854775807) = true := decide_eq_true c11
                try have c11b2 : (9223372036854775807 < 1 + x4_2.size) = False := eq_false (Nat.not_lt.2 c11)
                obtain rfl := Option.some.inj H
                go_wp2
                go_ret
                exact ⟨by first | rfl | (simp [errW_none, errW_some] <;> rfl) | (simp [*, errW_none, errW_some] <;> rfl), by repeat (first | (with_reducible first | exact HB.out | apply wA | apply wN | apply wD) | exact HB.out)⟩
              · rw [if_neg c11] at H
                exact absurd H (by simp)
            · rw [if_neg c10] at H
              have c10b0 : decide (x3_1 < 0) = false := decide_eq_false c10
              clear c10
              by_cases c12 : 0 ≤ x3_1
              · rw [if_pos c12] at H
                have c12b0 := eq_true c12
                have c12b1 : decide (0 ≤ x3_1) = true := decide_eq_true c12
                clear c12
                by_cases c13 : x3_1 ≤ (a0.size : Int)
                · rw [if_pos c13] at H
                  have c13b0 := eq_true c13
                  have c13b1 : decide (x3_1 ≤ (a0.size : Int)) = true := decide_eq_true c13
                  clear c13
                  by_cases c14 : x3_1 < (a0.size : Int)
                  · rw [if_pos c14] at H
                    have c14b0 : decide (x3_1 < (a0.size : Int)) = true := decide_eq_true c14
                    clear c14
                    obtain ⟨y263, hy263⟩ : ∃ y_ : List Int, y_ = (([((bt a0 x3_1) + 1) % 256] : List Int)) := ⟨_, rfl⟩
                    replace H : (if (a0.extract 0 (x3_1 : Int).toNat).size + (strOfNums y263).size ≤ 9223372036854775807 then (if ((a0.extract 0 (x3_1 : Int).toNat) ++ (strOfNums y263)).size + x4_2.size ≤ 9223372036854775807 then (some (((a0.extract 0 (x3_1 : Int).toNat) ++ (strOfNums y263)) ++ x4_2)) else (none)) else (none)) = some r := by first | (rw [hy263]; with_reducible exact H) | (have H2_ := (Option.bind_some _ _).symm.trans H; rw [hy263]; with_reducible exact H2_) | (have H2_ := (Option.bind_some _ _).symm.trans H; with_reducible exact H2_) | with_reducible exact H | (rw [hy263]; exact H) | exact H
                    have Ny263 := ak hy263
                    clear hy263
                    by_cases c16 : (a0.extract 0 (x3_1 : Int).toNat).size + (strOfNums y263).size ≤ 9223372036854775807
                    · rw [if_pos c16] at H
                      have c16b0 := eq_true c16
                      have c16b1 : decide ((a0.extract 0 (x3_1 : Int).toNat).size + (strOfNums y263).size ≤ 9223372036854775807) = true := decide_eq_true c16
                      try have c16b2 : (9223372036854775807 < (a0.extract 0 (x3_1 : Int).toNat).size + (strOfNums y263).size) = False := eq_false (Nat.not_lt.2 c16)
                      have c16b6 : (a0.extract 0 (x3_1 : Int).toNat).size = (x3_1 : Int).toNat := by rw [ByteArray.size_extract]; (have hle_ := of_eq_true c13b0; omega)
                      have c16b7 : (9223372036854775807 < (x3_1 : Int).toNat + (strOfNums y263).size) = False := by rw [← c16b6]; exact c16b2
                      by_cases c17 : ((a0.extract 0 (x3_1 : Int).toNat) ++ (strOfNums y263)).size + x4_2.size ≤ 9223372036854775807
                      · rw [if_pos c17] at H
                        have c17b0 := eq_true c17
                        have c17b1 : decide (((a0.extract 0 (x3_1 : Int).toNat) ++ (strOfNums y263)).size + x4_2.size ≤ 9223372036854775807) = true := decide_eq_true c17
                        try have c17b2 : (9223372036854775807 < ((a0.extract 0 (x3_1 : Int).toNat) ++ (strOfNums y263)).size + x4_2.size) = False := eq_false (Nat.not_lt.2 c17)
                        have c17b7 : (9223372036854775807 < (x3_1 : Int).toNat + (strOfNums y263).size + x4_2.size) = False := by rw [ByteArray.size_append, ByteArray.size_extract] at c17b2; rw [show min (x3_1 : Int).toNat a0.size - 0 = (x3_1 : Int).toNat by (have hle_ := of_eq_true c13b0; omega)] at c17b2; exact c17b2
                        obtain rfl := Option.some.inj H
                        try go_wp2
                        have n0_ := ak (wD HB.out)
                        clear HB
                        have HB := n0_
                        clear n0_
                        have p15 : 0 ≤ (x3_1 : Int) := of_decide_eq_true (by first | (with_reducible assumption) | assumption)
                        have q15 : x3_1 < (a0.size : Int) := of_decide_eq_true (by first | (with_reducible assumption) | assumption)
                        have hx15 := bt_at a0 x3_1
                        replace p15 := eq_true p15
                        replace q15 := eq_true q15
                        refine start_ (n := 13) (S := fun w' => True) (ds := []) #[false, false, false, false, false, false, false, false, false, false, false, false, false] (by kernel_rfl) rfl rfl trivial (fun hHeld => ?_); refine with_tabW mummerref01_next.tab11 mummerref01_next.bits11 (fun HT_ HW_ => ?_)
                        generalize wr.drew = w18 at HB hHeld ⊢
                        refine pure_ (i := 0) (N := some 33) (v := ?_) (a' := ?_) #[true, false, false, false, false, false, false, false, false, false, false, false, false] rfl rfl (any_of HT_.out (by kernel_rfl)) (fun _ _ _ h => h) (Or.inl ⟨by rfl, ?_⟩) ?_ ?_
                        rotate_left
                        · intro w'
                          go_simp
                          with_reducible rfl
                        rotate_left
                        · simp only [Act.put, List.setIfInBounds_toArray, List.set_cons_zero, List.set_cons_succ, i64_w, i32_w]
                          rfl
                        refine pure_ (i := 1) (N := some 34) (v := ?_) (a' := ?_) #[true, true, false, false, false, false, false, false, false, false, false, false, false] rfl rfl (any_of HT_.out (by kernel_rfl)) (fun _ _ _ h => h) (Or.inl ⟨by rfl, ?_⟩) ?_ ?_
                        rotate_left
                        · intro w'
                          go_simp
                          with_reducible rfl
                        rotate_left
                        · simp only [Act.put, List.setIfInBounds_toArray, List.set_cons_zero, List.set_cons_succ, i64_w, i32_w]
                          rfl
                        refine pure_ (i := 2) (N := some 35) (v := ?_) (a' := ?_) #[true, true, true, false, false, false, false, false, false, false, false, false, false] rfl rfl (any_of HT_.out (by kernel_rfl)) (fun _ _ _ h => h) (Or.inl ⟨by rfl, ?_⟩) ?_ ?_
                        rotate_left
                        · intro w'
                          go_simp
                          with_reducible rfl
                        rotate_left
                        · simp only [Act.put, List.setIfInBounds_toArray, List.set_cons_zero, List.set_cons_succ, i64_w, i32_w]
                          rfl
                        refine pure_ (i := 3) (N := some 36) (v := ?_) (a' := ?_) #[true, true, true, true, false, false, false, false, false, false, false, false, false] rfl rfl (any_of HT_.out (by kernel_rfl)) (fun _ _ _ h => h) (Or.inl ⟨by rfl, ?_⟩) ?_ ?_
                        rotate_left
                        · intro w'
                          go_simp
                          with_reducible rfl
                        rotate_left
                        · simp only [Act.put, List.setIfInBounds_toArray, List.set_cons_zero, List.set_cons_succ, i64_w, i32_w]
                          rfl
                        refine pure_ (i := 4) (N := some 37) (v := ?_) (a' := ?_) #[true, true, true, true, true, false, false, false, false, false, false, false, false] rfl rfl (any_of HT_.out (by kernel_rfl)) (fun _ _ _ h => h) (Or.inl ⟨by rfl, ?_⟩) ?_ ?_
                        rotate_left
                        · intro w'
                          go_simp
                          with_reducible rfl
                        rotate_left
                        · simp only [Act.put, List.setIfInBounds_toArray, List.set_cons_zero, List.set_cons_succ, i64_w, i32_w]
                          rfl
                        refine pure_ (i := 10) (N := some 43) (v := ?_) (a' := ?_) #[true, true, true, true, true, false, false, false, false, false, true, false, false] rfl rfl (any_of HT_.out (by kernel_rfl)) (fun _ _ _ h => h) (Or.inl ⟨by rfl, ?_⟩) ?_ ?_
                        rotate_left
                        · intro w'
                          go_simp
                          with_reducible rfl
                        rotate_left
                        · simp only [Act.put, List.setIfInBounds_toArray, List.set_cons_zero, List.set_cons_succ, i64_w, i32_w]
                          rfl
                        refine take_ (i := 5) (N := some 38) (v := ?_) (a' := ?_) #[true, true, true, true, true, true, false, false, false, false, true, false, false] rfl rfl (take_ofW HT_.out HW_.out (by kernel_rfl)) (fun _ _ _ h => h) (Or.inl ⟨by rfl, ?_⟩) hHeld ?_ ?_
                        rotate_left
                        · intro w' _
                          go_simp
                          with_reducible rfl
                        rotate_left
                        · simp only [Act.put, List.setIfInBounds_toArray, List.set_cons_zero, List.set_cons_succ, i64_w, i32_w]
                          rfl
                        refine pure_ (i := 6) (N := some 39) (v := ?_) (a' := ?_) #[true, true, true, true, true, true, true, false, false, false, true, false, false] rfl rfl (any_of HT_.out (by kernel_rfl)) (fun _ _ _ h => h) (Or.inl ⟨by rfl, ?_⟩) ?_ ?_
                        rotate_left
                        · intro w'
                          go_simp
                          with_reducible rfl
                        rotate_left
                        · simp only [Act.put, List.setIfInBounds_toArray, List.set_cons_zero, List.set_cons_succ, i64_w, i32_w]
                          rfl
                        refine one_ (i := 7) (N := some 40) #[true, true, true, true, true, true, true, true, false, false, true, false, false] rfl rfl (one_of HT_.out (by kernel_rfl)) (by decide) (fun K hK => ?_)
                        refine Kd.R_lit_step (Kd.int .u8) _ 5 ?hg (N := 40) ?hd (xs := ([((bt a0 x3_1) + 1) % 256] : List Int)) (inner := [.int .u8 (((bt a0 x3_1) + 1) % 256)]) (ok := fun _ => True) (okp := fun _ => True) ?hr ?hp (fun _ hk => hk) trivial (Below.refl _ _) (Nat.le_refl _) (by simp) ?_; (case hd => rfl); (case hg => rfl); (case hr => first | (go_simp; done) | (go_simp; rfl)); (case hp => exact (Reps.one (show Kd.M (Kd.int .u8) _ _ _ (((bt a0 x3_1) + 1) % 256) [.int .u8 (((bt a0 x3_1) + 1) % 256)] from rfl) (Reps.none _ _)))
                        intro v264 w19 ho20 hb hg_ hnew_
                        clear hg_ hnew_
                        (first | rw [← Ny263.out] at ho20 | (simp only [Int.reduceToNat] at ho20; rw [← Ny263.out] at ho20))
                        have n0_ := ak (Kd.R_lower ho20 (below_size (by repeat (first | (with_reducible first | exact HB.out | apply wA | apply wN | apply wD) | exact HB.out))))
                        have n1_ := ak (below_step (by repeat (first | (with_reducible first | exact HB.out | apply wA | apply wN | apply wD) | exact HB.out)) hb)
                        clear HB
                        have HO265 := n0_
                        have HB := n1_
                        clear n0_ n1_ hb ho20
                        refine hK.out _ _ trivial (fun hHeld => ?_)
                        clear hK K
                        refine norm_ (a' := ?_) ?_ ?_
                        rotate_left
                        · show Act.put _ (some 40) _ = _
                          simp only [Act.put, List.setIfInBounds_toArray, List.set_cons_zero, List.set_cons_succ, i64_w, i32_w]
                          rfl
                        refine one_ (i := 8) (N := some 41) #[true, true, true, true, true, true, true, true, true, false, true, false, false] rfl rfl (one_of HT_.out (by kernel_rfl)) (by decide) (fun K hK => ?_)
                        have hcv21 := own_string (P := Tryz.prog) Tryz.underlying50 Tryz.underlying5 Tryz.underlying9 (Kd.own_of_R HO265.out)
                        refine value_ (w1 := ?_) (v := ?_) (by rfl) rfl ?_ ?_
                        rotate_left 2
                        · go_simp
                          constructor
                          · rfl
                          · rfl
                        clear hcv21
                        refine hK.out _ _ trivial (fun hHeld => ?_)
                        clear hK K
                        refine norm_ (a' := ?_) ?_ ?_
                        rotate_left
                        · show Act.put _ (some 41) _ = _
                          simp only [Act.put, List.setIfInBounds_toArray, List.set_cons_zero, List.set_cons_succ, i64_w, i32_w]
                          rfl
                        refine pure_ (i := 9) (N := some 42) (v := ?_) (a' := ?_) #[true, true, true, true, true, true, true, true, true, true, true, false, false] rfl rfl (any_of HT_.out (by kernel_rfl)) (fun _ _ _ h => h) (Or.inl ⟨by rfl, ?_⟩) ?_ ?_
                        rotate_left
                        · intro w'
                          go_simp
                          with_reducible rfl
                        rotate_left
                        · simp only [Act.put, List.setIfInBounds_toArray, List.set_cons_zero, List.set_cons_succ, i64_w, i32_w]
                          rfl
                        refine pure_ (i := 11) (N := some 44) (v := ?_) (a' := ?_) #[true, true, true, true, true, true, true, true, true, true, true, true, false] rfl rfl (any_of HT_.out (by kernel_rfl)) (fun _ _ _ h => h) (Or.inl ⟨by rfl, ?_⟩) ?_ ?_
                        rotate_left
                        · intro w'
                          go_simp
                          with_reducible rfl
                        rotate_left
                        · simp only [Act.put, List.setIfInBounds_toArray, List.set_cons_zero, List.set_cons_succ, i64_w, i32_w]
                          rfl
                        refine pure_ (i := 12) (N := some 2) (v := ?_) (a' := ?_) #[true, true, true, true, true, true, true, true, true, true, true, true, true] rfl rfl (any_of HT_.out (by kernel_rfl)) (fun _ _ _ h => h) (Or.inl ⟨by rfl, ?_⟩) ?_ ?_
                        rotate_left
                        · intro w'
                          go_simp
                          with_reducible rfl
                        rotate_left
                        · simp only [Act.put, List.setIfInBounds_toArray, List.set_cons_zero, List.set_cons_succ, i64_w, i32_w]
                          rfl
                        refine done_ (done_of HT_.out (by kernel_rfl)) ?_
                        try go_wp2
                        go_ret
                        exact ⟨by first | rfl | (simp [errW_none, errW_some] <;> rfl) | (simp [*, errW_none, errW_some] <;> rfl), by repeat (first | (with_reducible first | exact HB.out | apply wA | apply wN | apply wD) | exact HB.out)⟩
                      · rw [if_neg c17] at H
                        exact absurd H (by simp)
                    · rw [if_neg c16] at H
                      exact absurd H (by simp)
                  · rw [if_neg c14] at H
                    exact absurd H (by simp)
                · rw [if_neg c13] at H
                  exact absurd H (by simp)
              · rw [if_neg c12] at H
                exact absurd H (by simp)
end Go.Proofs.YtkalbdeopogbpaaGreatDoor.P
namespace Go.Proofs.YtkalbdeopogbpaaGreatDoor.P
open Go.RowKit Go.Proofs.YtkalbdeopogbpaaGreatDoorW.PrintWords Go.Proofs.YtkalbdeopogbpaaGreatDoorW.PrintLast Go.Proofs.YtkalbdeopogbpaaGreatDoorW.PrintMore
attribute [local go_sem] max2_int min2_int max_two min_two max_three min_three max_four min_four   -- for this text's walks alone
set_option linter.unusedVariables false
set_option linter.unusedSimpArgs false
theorem tdiv_w (x : Int) : wrap64 (Int.tdiv ((-9223372036854775808) + ((x % 256))) 10) = Int.tdiv ((-9223372036854775808) + ((x % 256))) 10 := by
  have h0 : 0 ≤ x % 256 := Int.emod_nonneg _ (by decide)
  have h1 : x % 256 < 256 := Int.emod_lt_of_pos _ (by decide)
  generalize x % 256 = d at h0 h1
  have e : Int.tdiv (-9223372036854775808 + d) 10 = -((9223372036854775808 - d) / 10) := by
    rw [show (-9223372036854775808 + d : Int) = -(9223372036854775808 - d) by omega, Int.neg_tdiv, Int.tdiv_eq_ediv_of_nonneg (by omega)]
  rw [e, ← i64_w, IntKind.wrap_i64]
  omega
mutual
def mummerref01_Int.l0 : Nat → ByteArray → Int → Int → Bool → Int → Int → Option (Int × Int)
  | 0, _, _, _, _, _, _ => none
  | k + 1, x0, x1, x2, x8, x9, x10 => if x10 < (x0.size : Int) then (if 0 ≤ x10 then (if (bt x0 x10) = 45 then (mummerref01_Int.l0 k x0 x1 x2 x8 x9 (wrap64 (x10 + 1))) else (if x9 < (wrap64 (Int.tdiv ((-9223372036854775808) + (((bt x0 x10) - 48) % 256)) 10)) then (some (0, 7)) else (mummerref01_Int.l0 k x0 x1 x2 x8 (wrap64 ((wrap64 (10 * x9)) - (((bt x0 x10) - 48) % 256))) (wrap64 (x10 + 1))))) else (none)) else (if x8 = true then (mummerref01_Int.j1 k x1 x2 x8 x9 false) else (mummerref01_Int.j1 k x1 x2 x8 x9 (x9 == (-9223372036854775808))))
def mummerref01_Int.j1 : Nat → Int → Int → Bool → Int → Bool → Option (Int × Int)
  | 0, _, _, _, _, _ => none
  | k + 1, x1, x2, x8, x9, x47 => if x47 = true then (some (0, 7)) else (if x8 = true then (if x9 < x1 then (some (0, 7)) else (if x9 > x2 then (some (0, 7)) else (some (x9, 0)))) else (if (wrap64 (-x9)) < x1 then (some (0, 7)) else (if (wrap64 (-x9)) > x2 then (some (0, 7)) else (some (wrap64 (-x9), 0)))))
end
def mummerref01_Int.f (k : Nat) (a0 : ByteArray) (a1 : Int) (a2 : Int) : Option (Int × Int) := (mummerref01_decimal.f k a0).bind fun t266 => (if t266 = true then (if 0 < (a0.size : Int) then (mummerref01_Int.l0 k a0 a1 a2 ((bt a0 0) == 45) 0 0) else (none)) else (some (0, 6)))
set_option maxHeartbeats 8000000 in
set_option maxRecDepth 100000 in
theorem mummerref01_Int.calls (k : Nat) (a0 : ByteArray) (a1 : Int) (a2 : Int) (r1 : Int) (r2 : Int) (w : World) (h : mummerref01_Int.f k a0 a1 a2 = some (r1, r2)) :
    Calls Tryz.prog 51 #[.string a0, .int .i64 a1, .int .i64 a2] w fun e w' => e = .returned (.tuple #[.int .i64 r1, .int .i64 r2]) ∧ Drawn0 w w' := by
  have H : ((mummerref01_decimal.f k a0).bind fun t266 => (if t266 = true then (if 0 < (a0.size : Int) then (mummerref01_Int.l0 k a0 a1 a2 ((bt a0 0) == 45) 0 0) else (none)) else (some (0, 6)))) = some (r1, r2) := h
  clear h
  replace H := Option.bind_eq_some_iff.mp H
  obtain ⟨t266, A40, H⟩ := H
  replace H : (if t266 = true then (if 0 < (a0.size : Int) then (mummerref01_Int.l0 k a0 a1 a2 ((bt a0 0) == 45) 0 0) else (none)) else (some (0, 6))) = some (r1, r2) := H
  have A4 := ak A40
  clear A40
  by_cases c5 : t266 = true
  · subst c5
    have H1 : (if 0 < (a0.size : Int) then (mummerref01_Int.l0 k a0 a1 a2 ((bt a0 0) == 45) 0 0) else (none)) = some (r1, r2) := by rw [if_pos rfl] at H; exact H
    clear H
    have H := H1
    clear H1
    by_cases c6 : 0 < (a0.size : Int)
    · rw [if_pos c6] at H
      have c6b0 : decide (0 < (a0.size : Int)) = true := decide_eq_true c6
      have c6b1 : decide (0 < a0.size) = true := decide_eq_true (by omega)
      clear c6
      have H' := ak H
      clear H
      go_enter Tryz.func51, Tryz.ntmps51
      go_wp2_with (first | ((with_reducible refine gate_callee (f := 48) rfl ?_); refine goesL_ (some 13) rfl rfl Tryz.func48 (by kernel_rfl) rfl #[.string a0] rfl (by (try simp only [List.map_toArray, List.map_cons, List.map_nil]); first | done | rfl | (simp only [List.length_drop, List.length_take]; rfl)) ?_; (with_reducible refine (mummerref01_decimal.calls k a0 true _ A4.out).mono ?_); rintro e w' ⟨rfl, ⟨nd, rfl⟩⟩; refine ⟨_, rfl, ?_⟩; have p7 : 0 ≤ (0 : Int) := (by omega); have q7 : 0 < a0.size := (by have : (0 : Int) < (a0.size : Int) := of_decide_eq_true (by first | (with_reducible assumption) | assumption); omega); have hx7 : ∀ h : 0 < a0.size, ((a0[0]'h).toNat : Int) = bt a0 0 := bt_at a0 0; clear p7; have qi7 : (0 < (a0.size : Int)) = True := eq_true (of_decide_eq_true (by first | (with_reducible assumption) | assumption)); replace q7 := eq_true q7))
      go_loopg [9, 10] k (fun kq v9 v10 w' => ∃ (x9_1 : Int) (x10_1 : Int), v9 = .int .i64 x9_1 ∧ v10 = .int .i64 x10_1 ∧ Aside0 (mummerref01_Int.l0 kq a0 a1 a2 ((bt a0 0) == 45) x9_1 x10_1 = some (r1, r2)) ∧ Aside0 (kq ≤ k) ∧ Drawn0 w w')
      case atStart => exact ⟨(0), (0), (by first | rfl | (simp; done) | (simp [*]; done)), (by first | rfl | (simp; done) | (simp [*]; done)), H', ⟨Nat.le_refl _⟩, by repeat (first | exact Drawn0.refl _ | apply Drawn0.step)⟩
      case round =>
        clear H'
        try clear p2
        try clear c4
        try clear c5
        try clear c6
        try clear c6b0
        try clear c6b1
        try clear p7
        try clear q7
        try clear hx7
        try clear qi7
        try clear p7
        try clear q7
        obtain ⟨x9_1, x10_1, rfl, rfl, HA, HK1, ⟨m1, rfl⟩⟩ := hrel
        cases gk with
        | zero => exact absurd HA.out (by simp [mummerref01_Int.l0])
        | succ k1 =>
          have H := HA.out
          clear HA
          simp only [mummerref01_Int.l0] at H
          by_cases c8 : x10_1 < (a0.size : Int)
          · rw [if_pos c8] at H
            have c8b0 : decide (x10_1 < (a0.size : Int)) = true := decide_eq_true c8
            clear c8
            by_cases c9 : 0 ≤ x10_1
            · rw [if_pos c9] at H
              have c9b0 : decide (0 ≤ x10_1) = true := decide_eq_true c9
              clear c9
              by_cases c11 : (bt a0 x10_1) = 45
              · rw [if_pos c11] at H
                have c11b0 : ((bt a0 x10_1) == 45) = true := beq_iff_eq.mpr c11
                have c11b1 : ((bt a0 x10_1) != 45) = false := bne_eq_false_iff_eq.mpr c11
                clear c11
                have H' := ak H
                clear H
                have p10 : 0 ≤ (x10_1 : Int) := of_decide_eq_true (by first | (with_reducible assumption) | assumption)
                have q10 : x10_1 < (a0.size : Int) := of_decide_eq_true (by first | (with_reducible assumption) | assumption)
                have hx10 := bt_at a0 x10_1
                replace p10 := eq_true p10
                replace q10 := eq_true q10
                go_wp2
                go_roundg k1
                case measure => have := HK1.out; omega
                case rel => exact ⟨(x9_1), (wrap64 (x10_1 + 1)), (by first | rfl | (simp; done) | (simp [*]; done)), (by first | rfl | (simp; done) | (simp [*]; done)), H', ⟨by have := HK1.out; omega⟩, by repeat (first | exact Drawn0.refl _ | apply Drawn0.step)⟩
              · rw [if_neg c11] at H
                have c11b0 : ((bt a0 x10_1) == 45) = false := beq_eq_false_iff_ne.mpr c11
                have c11b1 : ((bt a0 x10_1) != 45) = true := bne_iff_ne.mpr c11
                by_cases c13 : x9_1 < (wrap64 (Int.tdiv ((-9223372036854775808) + (((bt a0 x10_1) - 48) % 256)) 10))
                · rw [if_pos c13] at H
                  have c13b0 : decide (x9_1 < (wrap64 (Int.tdiv ((-9223372036854775808) + (((bt a0 x10_1) - 48) % 256)) 10))) = true := decide_eq_true c13
                  have c13b3 : decide (x9_1 < (Int.tdiv ((-9223372036854775808) + (((bt a0 x10_1) - 48) % 256)) 10)) = true := by rw [tdiv_w] at c13b0; exact c13b0
                  clear c13
                  simp only [Option.some.injEq, Prod.mk.injEq] at H
                  obtain ⟨rfl, rfl⟩ := H
                  have p10 : 0 ≤ (x10_1 : Int) := of_decide_eq_true (by first | (with_reducible assumption) | assumption)
                  have q10 : x10_1 < (a0.size : Int) := of_decide_eq_true (by first | (with_reducible assumption) | assumption)
                  have hx10 := bt_at a0 x10_1
                  replace p10 := eq_true p10
                  replace q10 := eq_true q10
                  have p12 : 0 ≤ (x10_1 : Int) := of_decide_eq_true (by first | (with_reducible assumption) | assumption)
                  have q12 : x10_1 < (a0.size : Int) := of_decide_eq_true (by first | (with_reducible assumption) | assumption)
                  have hx12 := bt_at a0 x10_1
                  replace p12 := eq_true p12
                  replace q12 := eq_true q12
                  go_wp2
                  go_ret2
                  exact ⟨by first | rfl | (simp; done) | (simp [*]; done), by repeat (first | exact Drawn0.refl _ | apply Drawn0.step)⟩
                · rw [if_neg c13] at H
                  have c13b0 : decide (x9_1 < (wrap64 (Int.tdiv ((-9223372036854775808) + (((bt a0 x10_1) - 48) % 256)) 10))) = false := decide_eq_false c13
                  have c13b3 : decide (x9_1 < (Int.tdiv ((-9223372036854775808) + (((bt a0 x10_1) - 48) % 256)) 10)) = false := by rw [tdiv_w] at c13b0; exact c13b0
                  clear c13
                  have H' := ak H
                  clear H
                  have p10 : 0 ≤ (x10_1 : Int) := of_decide_eq_true (by first | (with_reducible assumption) | assumption)
                  have q10 : x10_1 < (a0.size : Int) := of_decide_eq_true (by first | (with_reducible assumption) | assumption)
                  have hx10 := bt_at a0 x10_1
                  replace p10 := eq_true p10
                  replace q10 := eq_true q10
                  have p12 : 0 ≤ (x10_1 : Int) := of_decide_eq_true (by first | (with_reducible assumption) | assumption)
                  have q12 : x10_1 < (a0.size : Int) := of_decide_eq_true (by first | (with_reducible assumption) | assumption)
                  have hx12 := bt_at a0 x10_1
                  replace p12 := eq_true p12
                  replace q12 := eq_true q12
                  go_wp2
                  go_roundg k1
                  case measure => have := HK1.out; omega
                  case rel => exact ⟨(wrap64 ((wrap64 (10 * x9_1)) - (((bt a0 x10_1) - 48) % 256))), (wrap64 (x10_1 + 1)), (by first | rfl | (simp; done) | (simp [*]; done)), (by first | rfl | (simp; done) | (simp [*]; done)), H', ⟨by have := HK1.out; omega⟩, by repeat (first | exact Drawn0.refl _ | apply Drawn0.step)⟩
            · rw [if_neg c9] at H
              exact absurd H (by simp)
          · rw [if_neg c8] at H
            have c8b0 : decide (x10_1 < (a0.size : Int)) = false := decide_eq_false c8
            clear c8
            have HC14 := ak H
            clear H
            go_upto_region 13 with (fail)
            go_cut [8, 47] (fun v8 v47 wc => ∃ (kq : Nat) (x47_13 : Bool), v47 = .bool x47_13 ∧ v8 = .bool ((bt a0 0) == 45) ∧ Aside0 (mummerref01_Int.j1 kq a1 a2 ((bt a0 0) == 45) x9_1 x47_13 = some (r1, r2)) ∧ Aside0 (kq ≤ k1) ∧ Drawn0 w wc)
            case first =>
              have H := HC14.out
              clear HC14
              by_cases c15 : ((bt a0 0) == 45) = true
              · rw [if_pos c15] at H
                have c15b0 : ((bt a0 0) == 45) = true := c15
                (try (have c15b1 : decide ((bt a0 0) = 45) = true := by simpa using c15))
                (try (have c15b2 : ((bt a0 0) == 45) = true := by simpa using c15))
                clear c15
                (first | rw [c15b0] | (simp only [i64_w, i32_w]; rw [c15b0]) | skip)
                have H' := ak H
                clear H
                go_wp2
                go_meet
                case rel => exact ⟨_, (false), (by first | rfl | (simp; done) | (simp [*]; done)), (by first | rfl | (simp; done) | (simp [*]; done)), H', ⟨by have := HK1.out; first | omega | exact Nat.le_refl _⟩, by repeat (first | exact Drawn0.refl _ | apply Drawn0.step)⟩
              · rw [if_neg c15] at H
                have c15b0 : ((bt a0 0) == 45) = false := by simpa using c15
                (try (have c15b1 : decide ((bt a0 0) = 45) = false := by simpa using c15))
                (try (have c15b2 : ((bt a0 0) == 45) = false := by simpa using c15))
                (try (have c15b3 : ¬ ((bt a0 0) = 45) := by simpa using c15))
                clear c15
                (first | rw [c15b0] | (simp only [i64_w, i32_w]; rw [c15b0]) | skip)
                have H' := ak H
                clear H
                go_wp2
                go_meet
                case rel => exact ⟨_, ((x9_1 == (-9223372036854775808))), (by first | rfl | (simp; done) | (simp [*]; done)), (by first | rfl | (simp; done) | (simp [*]; done)), H', ⟨by have := HK1.out; first | omega | exact Nat.le_refl _⟩, by repeat (first | exact Drawn0.refl _ | apply Drawn0.step)⟩
            case rest =>
              clear HC14
              try clear c1
              try clear p1
              try clear q1
              try clear hx1
              try clear p2
              try clear c4
              try clear c5
              try clear c6
              try clear c6b0
              try clear c6b1
              try clear p6
              try clear p7
              try clear q7
              try clear hx7
              try clear qi7
              try clear c8
              try clear c8b0
              try clear c9
              try clear c9b0
              try clear p10
              try clear q10
              try clear hx10
              try clear c11
              try clear c11b0
              try clear c11b1
              try clear p12
              try clear q12
              try clear hx12
              try clear c13
              try clear c13b0
              try clear c15
              try clear c15b0
              try clear c15b1
              try clear c15b2
              try clear p10
              try clear p12
              try clear p2
              try clear p7
              try clear q10
              try clear q12
              try clear q7
              obtain ⟨kq, x47_13, rfl, rfl, HA, HJ13, ⟨mc13, rfl⟩⟩ := hcut
              cases kq with
              | zero => exact absurd HA.out (by simp [mummerref01_Int.j1])
              | succ kj13 =>
                have H := HA.out
                clear HA
                simp only [mummerref01_Int.j1] at H
                by_cases c16 : x47_13 = true
                · subst c16
                  have H1 : (some (0, 7)) = some (r1, r2) := by rw [if_pos rfl] at H; exact H
                  clear H
                  have H := H1
                  clear H1
                  simp only [Option.some.injEq, Prod.mk.injEq] at H
                  obtain ⟨rfl, rfl⟩ := H
                  go_wp2
                  go_ret2
                  exact ⟨by first | rfl | (simp; done) | (simp [*]; done), by repeat (first | exact Drawn0.refl _ | apply Drawn0.step)⟩
                · replace c16 := Bool.eq_false_iff.mpr c16
                  subst c16
                  have H1 : (if ((bt a0 0) == 45) = true then (if x9_1 < a1 then (some (0, 7)) else (if x9_1 > a2 then (some (0, 7)) else (some (x9_1, 0)))) else (if (wrap64 (-x9_1)) < a1 then (some (0, 7)) else (if (wrap64 (-x9_1)) > a2 then (some (0, 7)) else (some (wrap64 (-x9_1), 0))))) = some (r1, r2) := by rw [if_neg (show ¬ (false = true) by decide)] at H; exact H
                  clear H
                  have H := H1
                  clear H1
                  by_cases c17 : ((bt a0 0) == 45) = true
                  · rw [if_pos c17] at H
                    have c17b0 : ((bt a0 0) == 45) = true := c17
                    (try (have c17b1 : decide ((bt a0 0) = 45) = true := by simpa using c17))
                    (try (have c17b2 : ((bt a0 0) == 45) = true := by simpa using c17))
                    clear c17
                    by_cases c18 : x9_1 < a1
                    · rw [if_pos c18] at H
                      have c18b0 : decide (x9_1 < a1) = true := decide_eq_true c18
                      clear c18
                      simp only [Option.some.injEq, Prod.mk.injEq] at H
                      obtain ⟨rfl, rfl⟩ := H
                      go_wp2
                      go_ret2
                      exact ⟨by first | rfl | (simp; done) | (simp [*]; done), by repeat (first | exact Drawn0.refl _ | apply Drawn0.step)⟩
                    · rw [if_neg c18] at H
                      have c18b0 : decide (x9_1 < a1) = false := decide_eq_false c18
                      clear c18
                      by_cases c19 : x9_1 > a2
                      · rw [if_pos c19] at H
                        have c19b0 : decide (a2 < x9_1) = true := decide_eq_true c19
                        clear c19
                        simp only [Option.some.injEq, Prod.mk.injEq] at H
                        obtain ⟨rfl, rfl⟩ := H
                        go_wp2
                        go_ret2
                        exact ⟨by first | rfl | (simp; done) | (simp [*]; done), by repeat (first | exact Drawn0.refl _ | apply Drawn0.step)⟩
                      · rw [if_neg c19] at H
                        have c19b0 : decide (a2 < x9_1) = false := decide_eq_false c19
                        clear c19
                        simp only [Option.some.injEq, Prod.mk.injEq] at H
                        obtain ⟨rfl, rfl⟩ := H
                        go_wp2
                        go_ret2
                        exact ⟨by first | rfl | (simp; done) | (simp [*]; done), by repeat (first | exact Drawn0.refl _ | apply Drawn0.step)⟩
                  · rw [if_neg c17] at H
                    have c17b0 : ((bt a0 0) == 45) = false := by simpa using c17
                    (try (have c17b1 : decide ((bt a0 0) = 45) = false := by simpa using c17))
                    (try (have c17b2 : ((bt a0 0) == 45) = false := by simpa using c17))
                    (try (have c17b3 : ¬ ((bt a0 0) = 45) := by simpa using c17))
                    clear c17
                    by_cases c20 : (wrap64 (-x9_1)) < a1
                    · rw [if_pos c20] at H
                      have c20b0 : decide ((wrap64 (-x9_1)) < a1) = true := decide_eq_true c20
                      clear c20
                      simp only [Option.some.injEq, Prod.mk.injEq] at H
                      obtain ⟨rfl, rfl⟩ := H
                      go_wp2
                      go_ret2
                      exact ⟨by first | rfl | (simp; done) | (simp [*]; done), by repeat (first | exact Drawn0.refl _ | apply Drawn0.step)⟩
                    · rw [if_neg c20] at H
                      have c20b0 : decide ((wrap64 (-x9_1)) < a1) = false := decide_eq_false c20
                      clear c20
                      by_cases c21 : (wrap64 (-x9_1)) > a2
                      · rw [if_pos c21] at H
                        have c21b0 : decide (a2 < (wrap64 (-x9_1))) = true := decide_eq_true c21
                        clear c21
                        simp only [Option.some.injEq, Prod.mk.injEq] at H
                        obtain ⟨rfl, rfl⟩ := H
                        go_wp2
                        go_ret2
                        exact ⟨by first | rfl | (simp; done) | (simp [*]; done), by repeat (first | exact Drawn0.refl _ | apply Drawn0.step)⟩
                      · rw [if_neg c21] at H
                        have c21b0 : decide (a2 < (wrap64 (-x9_1))) = false := decide_eq_false c21
                        clear c21
                        simp only [Option.some.injEq, Prod.mk.injEq] at H
                        obtain ⟨rfl, rfl⟩ := H
                        go_wp2
                        go_ret2
                        exact ⟨by first | rfl | (simp; done) | (simp [*]; done), by repeat (first | exact Drawn0.refl _ | apply Drawn0.step)⟩
    · rw [if_neg c6] at H
      exact absurd H (by simp)
  · replace c5 := Bool.eq_false_iff.mpr c5
    subst c5
    have H1 : (some (0, 6)) = some (r1, r2) := by rw [if_neg (show ¬ (false = true) by decide)] at H; exact H
    clear H
    have H := H1
    clear H1
    simp only [Option.some.injEq, Prod.mk.injEq] at H
    obtain ⟨rfl, rfl⟩ := H
    go_enter Tryz.func51, Tryz.ntmps51
    go_wp2_with (first | ((with_reducible refine gate_callee (f := 48) rfl ?_); refine goesL_ (some 13) rfl rfl Tryz.func48 (by kernel_rfl) rfl #[.string a0] rfl (by (try simp only [List.map_toArray, List.map_cons, List.map_nil]); first | done | rfl | (simp only [List.length_drop, List.length_take]; rfl)) ?_; (with_reducible refine (mummerref01_decimal.calls k a0 false _ A4.out).mono ?_); rintro e w' ⟨rfl, ⟨nd, rfl⟩⟩; refine ⟨_, rfl, ?_⟩))
    go_ret2
    exact ⟨by first | rfl | (simp; done) | (simp [*]; done), by repeat (first | exact Drawn0.refl _ | apply Drawn0.step)⟩
end Go.Proofs.YtkalbdeopogbpaaGreatDoor.P
namespace Go.Proofs.YtkalbdeopogbpaaGreatDoor.P
open Go.RowKit Go.Proofs.YtkalbdeopogbpaaGreatDoorW.PrintWords Go.Proofs.YtkalbdeopogbpaaGreatDoorW.PrintLast Go.Proofs.YtkalbdeopogbpaaGreatDoorW.PrintMore
attribute [local go_sem] max2_int min2_int max_two min_two max_three min_three max_four min_four   -- for this text's walks alone
set_option linter.unusedVariables false
set_option linter.unusedSimpArgs false
abbrev q19_0 : Array Bool := #[Z,Z,Z,Z,Z,Z,Z,Z,Z,Z,Z,Z,Z,Z,Z,Z,Z,Z,Z,Z,Z,Z,Z,Z,Z,Z,Z,Z,Z,Z,Z,Z]
abbrev q19_1 : Array Bool := #[Y,Z,Z,Z,Z,Z,Z,Z,Z,Z,Z,Z,Z,Z,Z,Z,Z,Z,Z,Z,Z,Z,Z,Z,Z,Z,Z,Z,Z,Z,Z,Z]
abbrev q19_2 : Array Bool := #[Y,Y,Z,Z,Z,Z,Z,Z,Z,Z,Z,Z,Z,Z,Z,Z,Z,Z,Z,Z,Z,Z,Z,Z,Z,Z,Z,Z,Z,Z,Z,Z]
abbrev q19_3 : Array Bool := #[Y,Y,Y,Z,Z,Z,Z,Z,Z,Z,Z,Z,Z,Z,Z,Z,Z,Z,Z,Z,Z,Z,Z,Z,Z,Z,Z,Z,Z,Z,Z,Z]
abbrev q19_4 : Array Bool := #[Y,Y,Y,Y,Z,Z,Z,Z,Z,Z,Z,Z,Z,Z,Z,Z,Z,Z,Z,Z,Z,Z,Z,Z,Z,Z,Z,Z,Z,Z,Z,Z]
abbrev q19_5 : Array Bool := #[Y,Y,Y,Y,Y,Z,Z,Z,Z,Z,Z,Z,Z,Z,Z,Z,Z,Z,Z,Z,Z,Z,Z,Z,Z,Z,Z,Z,Z,Z,Z,Z]
abbrev q19_6 : Array Bool := #[Y,Y,Y,Y,Y,Y,Z,Z,Z,Z,Z,Z,Z,Z,Z,Z,Z,Z,Z,Z,Z,Z,Z,Z,Z,Z,Z,Z,Z,Z,Z,Z]
abbrev q19_7 : Array Bool := #[Y,Y,Y,Y,Y,Y,Y,Z,Z,Z,Z,Z,Z,Z,Z,Z,Z,Z,Z,Z,Z,Z,Z,Z,Z,Z,Z,Z,Z,Z,Z,Z]
abbrev q19_8 : Array Bool := #[Y,Y,Y,Y,Y,Y,Y,Y,Z,Z,Z,Z,Z,Z,Z,Z,Z,Z,Z,Z,Z,Z,Z,Z,Z,Z,Z,Z,Z,Z,Z,Z]
abbrev q19_9 : Array Bool := #[Y,Y,Y,Y,Y,Y,Y,Y,Y,Z,Z,Z,Z,Z,Z,Z,Z,Z,Z,Z,Z,Z,Z,Z,Z,Z,Z,Z,Z,Z,Z,Z]
abbrev q19_10 : Array Bool := #[Y,Y,Y,Y,Y,Y,Y,Y,Y,Y,Z,Z,Z,Z,Z,Z,Z,Z,Z,Z,Z,Z,Z,Z,Z,Z,Z,Z,Z,Z,Z,Z]
abbrev q19_11 : Array Bool := #[Y,Y,Y,Y,Y,Y,Y,Y,Y,Y,Y,Z,Z,Z,Z,Z,Z,Z,Z,Z,Z,Z,Z,Z,Z,Z,Z,Z,Z,Z,Z,Z]
abbrev q19_12 : Array Bool := #[Y,Y,Y,Y,Y,Y,Y,Y,Y,Y,Y,Y,Z,Z,Z,Z,Z,Z,Z,Z,Z,Z,Z,Z,Z,Z,Z,Z,Z,Z,Z,Z]
abbrev q19_13 : Array Bool := #[Y,Y,Y,Y,Y,Y,Y,Y,Y,Y,Y,Y,Y,Z,Z,Z,Z,Z,Z,Z,Z,Z,Z,Z,Z,Z,Z,Z,Z,Z,Z,Z]
abbrev q19_14 : Array Bool := #[Y,Y,Y,Y,Y,Y,Y,Y,Y,Y,Y,Y,Y,Y,Z,Z,Z,Z,Z,Z,Z,Z,Z,Z,Z,Z,Z,Z,Z,Z,Z,Z]
abbrev q19_15 : Array Bool := #[Y,Y,Y,Y,Y,Y,Y,Y,Y,Y,Y,Y,Y,Y,Y,Z,Z,Z,Z,Z,Z,Z,Z,Z,Z,Z,Z,Z,Z,Z,Z,Z]
abbrev q19_16 : Array Bool := #[Y,Y,Y,Y,Y,Y,Y,Y,Y,Y,Y,Y,Y,Y,Y,Y,Z,Z,Z,Z,Z,Z,Z,Z,Z,Z,Z,Z,Z,Z,Z,Z]
abbrev q19_17 : Array Bool := #[Y,Y,Y,Y,Y,Y,Y,Y,Y,Y,Y,Y,Y,Y,Y,Y,Y,Z,Z,Z,Z,Z,Z,Z,Z,Z,Z,Z,Z,Z,Z,Z]
abbrev q19_18 : Array Bool := #[Y,Y,Y,Y,Y,Y,Y,Y,Y,Y,Y,Y,Y,Y,Y,Y,Y,Y,Z,Z,Z,Z,Z,Z,Z,Z,Z,Z,Z,Z,Z,Z]
abbrev q19_19 : Array Bool := #[Y,Y,Y,Y,Y,Y,Y,Y,Y,Y,Y,Y,Y,Y,Y,Y,Y,Y,Y,Z,Z,Z,Z,Z,Z,Z,Z,Z,Z,Z,Z,Z]
abbrev q19_20 : Array Bool := #[Y,Y,Y,Y,Y,Y,Y,Y,Y,Y,Y,Y,Y,Y,Y,Y,Y,Y,Y,Y,Z,Z,Z,Z,Z,Z,Z,Z,Z,Z,Z,Z]
abbrev q19_21 : Array Bool := #[Y,Y,Y,Y,Y,Y,Y,Y,Y,Y,Y,Y,Y,Y,Y,Y,Y,Y,Y,Y,Y,Z,Z,Z,Z,Z,Z,Z,Z,Z,Z,Z]
abbrev q19_22 : Array Bool := #[Y,Y,Y,Y,Y,Y,Y,Y,Y,Y,Y,Y,Y,Y,Y,Y,Y,Y,Y,Y,Y,Y,Z,Z,Z,Z,Z,Z,Z,Z,Z,Z]
abbrev q19_23 : Array Bool := #[Y,Y,Y,Y,Y,Y,Y,Y,Y,Y,Y,Y,Y,Y,Y,Y,Y,Y,Y,Y,Y,Y,Y,Z,Z,Z,Z,Z,Z,Z,Z,Z]
abbrev q19_24 : Array Bool := #[Y,Y,Y,Y,Y,Y,Y,Y,Y,Y,Y,Y,Y,Y,Y,Y,Y,Y,Y,Y,Y,Y,Y,Y,Z,Z,Z,Z,Z,Z,Z,Z]
abbrev q19_25 : Array Bool := #[Y,Y,Y,Y,Y,Y,Y,Y,Y,Y,Y,Y,Y,Y,Y,Y,Y,Y,Y,Y,Y,Y,Y,Y,Y,Z,Z,Z,Z,Z,Z,Z]
abbrev q19_26 : Array Bool := #[Y,Y,Y,Y,Y,Y,Y,Y,Y,Y,Y,Y,Y,Y,Y,Y,Y,Y,Y,Y,Y,Y,Y,Y,Y,Y,Z,Z,Z,Z,Z,Z]
abbrev q19_27 : Array Bool := #[Y,Y,Y,Y,Y,Y,Y,Y,Y,Y,Y,Y,Y,Y,Y,Y,Y,Y,Y,Y,Y,Y,Y,Y,Y,Y,Y,Z,Z,Z,Z,Z]
abbrev q19_28 : Array Bool := #[Y,Y,Y,Y,Y,Y,Y,Y,Y,Y,Y,Y,Y,Y,Y,Y,Y,Y,Y,Y,Y,Y,Y,Y,Y,Y,Y,Y,Z,Z,Z,Z]
abbrev q19_29 : Array Bool := #[Y,Y,Y,Y,Y,Y,Y,Y,Y,Y,Y,Y,Y,Y,Y,Y,Y,Y,Y,Y,Y,Y,Y,Y,Y,Y,Y,Y,Y,Z,Z,Z]
abbrev q19_30 : Array Bool := #[Y,Y,Y,Y,Y,Y,Y,Y,Y,Y,Y,Y,Y,Y,Y,Y,Y,Y,Y,Y,Y,Y,Y,Y,Y,Y,Y,Y,Y,Y,Z,Z]
abbrev q19_31 : Array Bool := #[Y,Y,Y,Y,Y,Y,Y,Y,Y,Y,Y,Y,Y,Y,Y,Y,Y,Y,Y,Y,Y,Y,Y,Y,Y,Y,Y,Y,Y,Y,Y,Z]
abbrev q19_32 : Array Bool := #[Y,Y,Y,Y,Y,Y,Y,Y,Y,Y,Y,Y,Y,Y,Y,Y,Y,Y,Y,Y,Y,Y,Y,Y,Y,Y,Y,Y,Y,Y,Y,Y]
abbrev q19_33 : Array Bool := #[Z,Z,Z,Z,Z,Z,Z,Z,Z,Z,Z]
abbrev q19_34 : Array Bool := #[Y,Z,Z,Z,Z,Z,Z,Z,Z,Z,Z]
abbrev q19_35 : Array Bool := #[Y,Y,Z,Z,Z,Z,Z,Z,Z,Z,Z]
abbrev q19_36 : Array Bool := #[Y,Y,Y,Z,Z,Z,Z,Z,Z,Z,Z]
abbrev q19_37 : Array Bool := #[Y,Y,Y,Y,Z,Z,Z,Z,Z,Z,Z]
abbrev q19_38 : Array Bool := #[Y,Y,Y,Y,Z,Y,Z,Z,Z,Z,Z]
abbrev q19_39 : Array Bool := #[Y,Y,Y,Y,Z,Y,Y,Z,Z,Z,Z]
abbrev q19_40 : Array Bool := #[Y,Y,Y,Y,Z,Y,Y,Y,Z,Z,Z]
abbrev q19_41 : Array Bool := #[Y,Y,Y,Y,Y,Y,Y,Y,Z,Z,Z]
abbrev q19_42 : Array Bool := #[Y,Y,Y,Y,Y,Y,Y,Y,Y,Z,Z]
abbrev q19_43 : Array Bool := #[Y,Y,Y,Y,Y,Y,Y,Y,Y,Y,Z]
abbrev q19_44 : Array Bool := #[Y,Y,Y,Y,Y,Y,Y,Y,Y,Y,Y]
mutual
def mummerref01_ParseList.l0 : Nat → ByteArray → List ByteArray → List ByteArray → List ByteArray → Int → Option (List Int × Int)
 | 0, _, _, _, _, _ => none
 | k + 1, x4, x5, x6, x7, x8 => if x8 < (x7.length : Int) then (if 0 ≤ x8 then ((mummerref01_parts.f k (rdOf ByteArray.empty x7 x8) 45).bind fun t271 => (if (t271.length : Int) > 2 then (mummerref01_ParseList.j1 k x4 x5 x6 x7 x8 t271 true) else (if 0 < (t271.length : Int) then ((mummerref01_decimal.f k (rdOf ByteArray.empty t271 0)).bind fun t275 => (if t275 = true then (if (t271.length : Int) = 2 then (if 1 < (t271.length : Int) then ((mummerref01_decimal.f k (rdOf ByteArray.empty t271 1)).bind fun t277 => (if t277 = true then ((mummerref01_less.f (rdOf ByteArray.empty t271 0) (rdOf ByteArray.empty t271 1)).bind fun t280 => (mummerref01_ParseList.j1 k x4 x5 x6 x7 x8 t271 (!t280))) else (mummerref01_ParseList.j1 k x4 x5 x6 x7 x8 t271 true))) else (none)) else (mummerref01_ParseList.j1 k x4 x5 x6 x7 x8 t271 false)) else (mummerref01_ParseList.j1 k x4 x5 x6 x7 x8 t271 true))) else (none)))) else (none)) else ((mummerref01_Digits.f k 1000000000).bind fun t300 => ((mummerref01_less.f t300 x4).bind fun t301 => (if t301 = true then (some (([] : List Int), 7)) else (mummerref01_ParseList.l1 k x5 x6 x7 ([] : List Int) 0))))
def mummerref01_ParseList.j1 : Nat → ByteArray → List ByteArray → List ByteArray → List ByteArray → Int → List ByteArray → Bool → Option (List Int × Int)
 | 0, _, _, _, _, _, _, _ => none
 | k + 1, x4, x5, x6, x7, x8, x9, x63 => if x63 = true then (some (([] : List Int), 6)) else (if x8 > 0 then ((mummerref01_next.f k x4).bind fun t281 => (if 0 < (x9.length : Int) then ((mummerref01_less.f t281 (rdOf ByteArray.empty x9 0)).bind fun t283 => (if t283 = true then (if 0 ≤ (wrap64 ((x9.length : Int) - 1)) then (if (wrap64 ((x9.length : Int) - 1)) < (x9.length : Int) then (if x5.length < 8796093022208 then (if x6.length < 8796093022208 then (mummerref01_ParseList.l0 k (rdOf ByteArray.empty x9 (wrap64 ((x9.length : Int) - 1))) (x5 ++ [rdOf ByteArray.empty x9 0]) (x6 ++ [rdOf ByteArray.empty x9 (wrap64 ((x9.length : Int) - 1))]) x7 (wrap64 (x8 + 1))) else (none)) else (none)) else (none)) else (none)) else (some (([] : List Int), 6)))) else (none))) else (if 0 ≤ (wrap64 ((x9.length : Int) - 1)) then (if (wrap64 ((x9.length : Int) - 1)) < (x9.length : Int) then (if 0 < (x9.length : Int) then (if x5.length < 8796093022208 then (if x6.length < 8796093022208 then (mummerref01_ParseList.l0 k (rdOf ByteArray.empty x9 (wrap64 ((x9.length : Int) - 1))) (x5 ++ [rdOf ByteArray.empty x9 0]) (x6 ++ [rdOf ByteArray.empty x9 (wrap64 ((x9.length : Int) - 1))]) x7 (wrap64 (x8 + 1))) else (none)) else (none)) else (none)) else (none)) else (none)))
def mummerref01_ParseList.l1 : Nat → List ByteArray → List ByteArray → List ByteArray → List Int → Int → Option (List Int × Int)
 | 0, _, _, _, _, _ => none
 | k + 1, x5, x6, x7, x10, x11 => if x11 < (x7.length : Int) then (if 0 ≤ x11 then (if x11 < (x5.length : Int) then ((mummerref01_Int.f k (rdOf ByteArray.empty x5 x11) 0 1000000000).bind fun bt303 => (if x11 < (x6.length : Int) then ((mummerref01_Int.f k (rdOf ByteArray.empty x6 x11) 0 1000000000).bind fun bt306 => (mummerref01_ParseList.l2 k x5 x6 x7 x10 x11 bt306.1 bt303.1)) else (none))) else (none)) else (none)) else (some (x10, 0))
def mummerref01_ParseList.l2 : Nat → List ByteArray → List ByteArray → List ByteArray → List Int → Int → Int → Int → Option (List Int × Int)
 | 0, _, _, _, _, _, _, _ => none
 | k + 1, x5, x6, x7, x10, x11, x14, x16 => if x16 ≤ x14 then (if (x10.length : Int) = 500 then (some (([] : List Int), 3)) else (if x10.length < 17592186044416 then (mummerref01_ParseList.l2 k x5 x6 x7 (x10 ++ [x16]) x11 x14 (wrap64 (x16 + 1))) else (none))) else (mummerref01_ParseList.l1 k x5 x6 x7 x10 (wrap64 (x11 + 1)))
end
def mummerref01_ParseList.f (k : Nat) (a0 : ByteArray) : Option (List Int × Int) := if a0.toList = ([45] : List UInt8) then (some (([] : List Int), 0)) else ((mummerref01_parts.f k a0 44).bind fun t267 => (mummerref01_ParseList.l0 k (⟨#[]⟩ : ByteArray) ([] : List ByteArray) ([] : List ByteArray) t267 0))
def mummerref01_ParseList.T10 : Bool × List (List Nat × List Nat) := (true, [([], []), ([0], [0]), ([1], [1]), ([2], [2]), ([3], [3]), ([4, 3], [3, 4]), ([5, 3], [3, 5]), ([6, 3, 3], [3, 6]), ([7, 3], [3, 7]), ([3, 8], [3, 8]), ([9, 7], [9]), ([10], [10]), ([11, 10], [10, 11]), ([12, 10], [10, 12]), ([13, 10, 10], [10, 13]), ([14], [14]), ([15, 14], [14, 15]), ([16, 14], [14, 16]), ([17, 14, 14], [14, 17]), ([18, 14], [14, 18]), ([19, 18, 14], [14, 19]), ([20], [20]), ([21, 20], [20, 21]), ([22, 20], [20, 22]), ([20], [20]), ([24, 20], [20, 24]), ([25, 20], [20, 25]), ([23, 26, 20, 20], [20, 23, 26]), ([27, 20], [20, 27]), ([20, 28, 14], [14, 20, 28]), ([14, 29, 10], [10, 14, 29]), ([10, 30], [10, 30])])
def mummerref01_ParseList.B10 : List Nat := [0, 1, 3, 7, 15, 31, 63, 127, 255, 511, 1023, 2047, 4095, 8191, 16383, 32767, 65535, 131071, 262143, 524287, 1048575, 2097151, 4194303, 8388607, 2097151, 18874367, 52428799, 134217727, 268435455, 536870911, 1073741823, 2147483647]
theorem mummerref01_ParseList.tab10 : rtab .any (opsOf Tryz.f19 10) = mummerref01_ParseList.T10 := by kernel_rfl
theorem mummerref01_ParseList.bits10 : waitsOk mummerref01_ParseList.T10.2 mummerref01_ParseList.B10 = true := by kernel_rfl
def mummerref01_ParseList.T12 : Bool × List (List Nat × List Nat) := (true, [([], []), ([0], [0]), ([1], [1]), ([2], [2]), ([3, 2, 2], [2, 3]), ([2], [2]), ([5, 2], [2, 5]), ([6, 2], [2, 6]), ([4, 7, 4, 2], [2, 4, 7]), ([8, 2], [2, 8]), ([2, 9], [2, 9])])
def mummerref01_ParseList.B12 : List Nat := [0, 1, 3, 7, 15, 7, 39, 103, 255, 511, 1023]
theorem mummerref01_ParseList.tab12 : rtab .any (opsOf Tryz.f19 12) = mummerref01_ParseList.T12 := by kernel_rfl
theorem mummerref01_ParseList.bits12 : waitsOk mummerref01_ParseList.T12.2 mummerref01_ParseList.B12 = true := by kernel_rfl
set_option maxHeartbeats 8000000 in
set_option maxRecDepth 100000 in
theorem mummerref01_ParseList.calls (k : Nat) (a0 : ByteArray) (r1 : List Int) (r2 : Int) (w : World) (h : mummerref01_ParseList.f k a0 = some (r1, r2)) :
  Calls Tryz.prog 19 #[.string a0] w fun e w' => ∃ v0_ : Value, e = .returned (.tuple #[v0_, .int .i64 r2]) ∧ Kd.R (Kd.int .i64) 3 w' w.heap.size (fun _ => True) v0_ r1 ∧ Below w.heap.size w w' := by
 have HB := ak (Below.refl w.heap.size w)
 have H : (if a0.toList = ([45] : List UInt8) then (some (([] : List Int), 0)) else ((mummerref01_parts.f k a0 44).bind fun t267 => (mummerref01_ParseList.l0 k (⟨#[]⟩ : ByteArray) ([] : List ByteArray) ([] : List ByteArray) t267 0))) = some (r1, r2) := h
 clear h
 by_cases c2 : a0.toList = ([45] : List UInt8)
 ·rw [if_pos c2] at H
  have c2b0 : (a0.toList == ([45] : List UInt8)) = true := beq_iff_eq.mpr c2
  have c2b1 : (a0.toList != ([45] : List UInt8)) = false := bne_eq_false_iff_eq.mpr c2
  clear c2
  simp only [Option.some.injEq, Prod.mk.injEq] at H
  obtain ⟨rfl, rfl⟩ := H
  go_enter Tryz.func19, Tryz.ntmps19
  go_wp2
  go_ret2
  exact ⟨_, by first | rfl | (simp [errW_none, errW_some] <;> rfl) | (simp [*, errW_none, errW_some] <;> rfl), by first | exact Kd.R_nil _ _ _ _ _ | exact Kd.N_nil _ _ _ _ _ | exact Kd.V_nil _ _ _ _ _ | exact Kd.Q_nil _ _ _ _ _ | exact Kd.S_nil _ _ _ _ _, by repeat (first | (with_reducible first | exact HB.out | apply wA | apply wN | apply wD) | exact HB.out)⟩
 ·rw [if_neg c2] at H
  have c2b0 : (a0.toList == ([45] : List UInt8)) = false := beq_eq_false_iff_ne.mpr c2
  have c2b1 : (a0.toList != ([45] : List UInt8)) = true := bne_iff_ne.mpr c2
  replace H := Option.bind_eq_some_iff.mp H
  obtain ⟨t267, A30, H⟩ := H
  replace H : (mummerref01_ParseList.l0 k (⟨#[]⟩ : ByteArray) ([] : List ByteArray) ([] : List ByteArray) t267 0) = some (r1, r2) := H
  have A3 := ak A30
  clear A30
  have H' := ak H
  clear H
  go_enter Tryz.func19, Tryz.ntmps19
  go_wp2_with (first | ((with_reducible refine gate_callee (f := 47) rfl ?_); refine goesL_ (some 20) rfl rfl Tryz.func47 (by kernel_rfl) rfl #[.string a0, .int .u8 44] rfl (by (try simp only [List.map_toArray, List.map_cons, List.map_nil]); first | done | rfl | (simp only [List.length_drop, List.length_take]; rfl)) ?_; (with_reducible refine (mummerref01_parts.calls k a0 44 t267 _ A3.out).mono ?_); rintro e w4 ⟨v268, rfl, ho0, hb⟩; refine ⟨_, rfl, ?_⟩; have n0_ := ak (Kd.R_lower ho0 (below_size (by repeat (first | (with_reducible first | exact HB.out | apply wA | apply wN | apply wD) | exact HB.out)))); have n1_ := ak (below_step (by repeat (first | (with_reducible first | exact HB.out | apply wA | apply wN | apply wD) | exact HB.out)) hb); clear HB; have HO269 := n0_; have HB := n1_; clear n0_ n1_; (try clear hb); (try clear hb2); (try clear hk); (try clear hi); (try clear ho0)))
  go_loopg [4, 5, 6, 8] k (fun kq v4 v5 v6 v8 w' => ∃ (x4_1 : ByteArray) (x5_1 : List ByteArray) (x6_1 : List ByteArray) (x8_1 : Int), v4 = .string x4_1 ∧ v8 = .int .i64 x8_1 ∧ Aside0 (mummerref01_ParseList.l0 kq x4_1 x5_1 x6_1 t267 x8_1 = some (r1, r2)) ∧ Aside0 (kq ≤ k) ∧ Aside0 (Kd.R Kd.string 9 w' w.heap.size (fun k_ => some k_ ≠ (v6 : Value).ownBlock ∧ some k_ ≠ (v268 : Value).ownBlock) v5 x5_1) ∧ Aside0 (Kd.R Kd.string 9 w' w.heap.size (fun k_ => some k_ ≠ (v5 : Value).ownBlock ∧ some k_ ≠ (v268 : Value).ownBlock) v6 x6_1) ∧ Aside0 (Kd.R Kd.string 9 w' w.heap.size (fun k_ => some k_ ≠ (v5 : Value).ownBlock ∧ some k_ ≠ (v6 : Value).ownBlock) v268 t267) ∧ Aside0 (Below w.heap.size w w'))
  case atStart => exact ⟨((⟨#[]⟩ : ByteArray)), (([] : List ByteArray)), (([] : List ByteArray)), (0), (by first | rfl | (simp; done) | (simp [*]; done)), (by first | rfl | (simp; done) | (simp [*]; done)), H', ⟨Nat.le_refl _⟩, ⟨by first | exact Kd.R_nil _ _ _ _ _ | exact Kd.N_nil _ _ _ _ _ | exact Kd.V_nil _ _ _ _ _ | exact Kd.Q_nil _ _ _ _ _ | exact Kd.S_nil _ _ _ _ _⟩, ⟨by first | exact Kd.R_nil _ _ _ _ _ | exact Kd.N_nil _ _ _ _ _ | exact Kd.V_nil _ _ _ _ _ | exact Kd.Q_nil _ _ _ _ _ | exact Kd.S_nil _ _ _ _ _⟩, ⟨by (with_reducible repeat (first | apply Kd.R_alloc | apply Kd.R_drewN | apply Kd.R_drew)); exact Kd.R_mono HO269.out (fun _ hk => ⟨(by simp [Value.ownBlock]), (by simp [Value.ownBlock])⟩)⟩, ⟨by repeat (first | (with_reducible first | exact HB.out | apply wA | apply wN | apply wD) | exact HB.out)⟩⟩
  case round =>
   clear H'
   try clear c1
   try clear c2
   try clear c2b0
   try clear c2b1
   try clear p2
   try clear c4
   obtain ⟨x4_1, x5_1, x6_1, x8_1, rfl, rfl, HA, HK1, HO_5, HO_6, HO_7, HB⟩ := hrel
   cases gk with
   | zero => exact absurd HA.out (by simp [mummerref01_ParseList.l0])
   | succ k1 =>
    have H := HA.out
    clear HA
    simp only [mummerref01_ParseList.l0] at H
    by_cases c5 : x8_1 < (t267.length : Int)
    ·rw [if_pos c5] at H
     have c5b0 : decide (x8_1 < (t267.length : Int)) = true := decide_eq_true c5
     clear c5
     by_cases c6 : 0 ≤ x8_1
     ·rw [if_pos c6] at H
      have c6b0 : decide (0 ≤ x8_1) = true := decide_eq_true c6
      clear c6
      replace H := Option.bind_eq_some_iff.mp H
      obtain ⟨t271, A70, H⟩ := H
      replace H : (if (t271.length : Int) > 2 then (mummerref01_ParseList.j1 k1 x4_1 x5_1 x6_1 t267 x8_1 t271 true) else (if 0 < (t271.length : Int) then ((mummerref01_decimal.f k1 (rdOf ByteArray.empty t271 0)).bind fun t275 => (if t275 = true then (if (t271.length : Int) = 2 then (if 1 < (t271.length : Int) then ((mummerref01_decimal.f k1 (rdOf ByteArray.empty t271 1)).bind fun t277 => (if t277 = true then ((mummerref01_less.f (rdOf ByteArray.empty t271 0) (rdOf ByteArray.empty t271 1)).bind fun t280 => (mummerref01_ParseList.j1 k1 x4_1 x5_1 x6_1 t267 x8_1 t271 (!t280))) else (mummerref01_ParseList.j1 k1 x4_1 x5_1 x6_1 t267 x8_1 t271 true))) else (none)) else (mummerref01_ParseList.j1 k1 x4_1 x5_1 x6_1 t267 x8_1 t271 false)) else (mummerref01_ParseList.j1 k1 x4_1 x5_1 x6_1 t267 x8_1 t271 true))) else (none))) = some (r1, r2) := H
      have A7 := ak A70
      clear A70
      have HC8 := ak H
      clear H
      obtain ⟨Ao9, co9, eo9⟩ := Kd.R_slice HO_7.out
      subst eo9
      have p270 : 0 ≤ (x8_1 : Int) := of_decide_eq_true (by first | (with_reducible assumption) | assumption)
      have q270 : x8_1 < (t267.length : Int) := of_decide_eq_true (by first | (with_reducible assumption) | assumption)
      obtain ⟨ad270, e270, hx270_0⟩ := Kd.at_string (Kd.R_reads' HO_7.out).2.2 x8_1 p270 q270
      cases e270
      replace p270 := eq_true p270
      replace q270 := eq_true q270
      go_upto_region 10 with (first | ((with_reducible refine gate_callee (f := 47) rfl ?_); refine goesL_ (some 31) rfl rfl Tryz.func47 (by kernel_rfl) rfl #[.string (rdOf ByteArray.empty t267 x8_1), .int .u8 45] rfl (by (try simp only [List.map_toArray, List.map_cons, List.map_nil]); first | done | rfl | (simp only [List.length_drop, List.length_take]; rfl)) ?_; (with_reducible refine (mummerref01_parts.calls k1 (rdOf ByteArray.empty t267 x8_1) 45 t271 _ A7.out).mono ?_); rintro e w10 ⟨v272, rfl, ho0, hb⟩; refine ⟨_, rfl, ?_⟩; have n0_ := ak (Kd.R_elder' (by (with_reducible repeat (first | apply Kd.R_alloc | apply Kd.R_drewN | apply Kd.R_drew)); exact HO_5.out) (Kd.R_base ho0) hb); have n1_ := ak (Kd.R_elder' (by (with_reducible repeat (first | apply Kd.R_alloc | apply Kd.R_drewN | apply Kd.R_drew)); exact HO_6.out) (Kd.R_base ho0) hb); have n2_ := ak (Kd.R_elder' (by (with_reducible repeat (first | apply Kd.R_alloc | apply Kd.R_drewN | apply Kd.R_drew)); exact HO_7.out) (Kd.R_base ho0) hb); have n3_ := ak (Kd.R_lower (Kd.R_new' (Kd.R_new' (Kd.R_new' ho0 (Kd.R_lt (by (with_reducible repeat (first | apply Kd.R_alloc | apply Kd.R_drewN | apply Kd.R_drew)); exact HO_5.out))) (Kd.R_lt (by (with_reducible repeat (first | apply Kd.R_alloc | apply Kd.R_drewN | apply Kd.R_drew)); exact HO_6.out))) (Kd.R_lt (by (with_reducible repeat (first | apply Kd.R_alloc | apply Kd.R_drewN | apply Kd.R_drew)); exact HO_7.out))) (below_size (by repeat (first | (with_reducible first | exact HB.out | apply wA | apply wN | apply wD) | exact HB.out)))); have n4_ := ak (below_step (by repeat (first | (with_reducible first | exact HB.out | apply wA | apply wN | apply wD) | exact HB.out)) hb); clear HO_5; clear HO_6; clear HO_7; clear HB; have HO_5 := n0_; have HO_6 := n1_; have HO_7 := n2_; have HO273 := n3_; have HB := n4_; clear n0_ n1_ n2_ n3_ n4_; (try clear hb); (try clear hb2); (try clear hk); (try clear hi); (try clear ho0)))
      (try simp only [Act.put, sA_, s0_, s1_])
      go_cut [63] (fun v63 wc => ∃ (kq : Nat) (x63_7 : Bool), v63 = .bool x63_7 ∧ Aside0 (mummerref01_ParseList.j1 kq x4_1 x5_1 x6_1 t267 x8_1 t271 x63_7 = some (r1, r2)) ∧ Aside0 (kq ≤ k1) ∧ Aside0 (Kd.R Kd.string 9 wc w.heap.size (fun k_ => some k_ ≠ (u6 : Value).ownBlock ∧ some k_ ≠ ((.slice (some ad270) t267.length co9) : Value).ownBlock ∧ some k_ ≠ (v272 : Value).ownBlock) u5 x5_1) ∧ Aside0 (Kd.R Kd.string 9 wc w.heap.size (fun k_ => some k_ ≠ (u5 : Value).ownBlock ∧ some k_ ≠ ((.slice (some ad270) t267.length co9) : Value).ownBlock ∧ some k_ ≠ (v272 : Value).ownBlock) u6 x6_1) ∧ Aside0 (Kd.R Kd.string 9 wc w.heap.size (fun k_ => some k_ ≠ (u5 : Value).ownBlock ∧ some k_ ≠ (u6 : Value).ownBlock ∧ some k_ ≠ (v272 : Value).ownBlock) (.slice (some ad270) t267.length co9) t267) ∧ Aside0 (Kd.R Kd.string 9 wc w.heap.size (fun k_ => some k_ ≠ (u5 : Value).ownBlock ∧ some k_ ≠ (u6 : Value).ownBlock ∧ some k_ ≠ ((.slice (some ad270) t267.length co9) : Value).ownBlock) v272 t271) ∧ Aside0 (Below w.heap.size w wc))
      case first =>
       have H := HC8.out
       clear HC8
       by_cases c11 : (t271.length : Int) > 2
       ·rw [if_pos c11] at H
        have c11b0 : decide (2 < (t271.length : Int)) = true := decide_eq_true c11
        have c11b1 : decide (2 < t271.length) = true := decide_eq_true (by omega)
        clear c11
        (first | rw [c11b0] | (simp only [i64_w, i32_w]; rw [c11b0]) | skip)
        have H' := ak H
        clear H
        try go_wp2
        have n0_ := ak (Kd.R_drew HO_5.out)
        have n1_ := ak (Kd.R_drew HO_6.out)
        have n2_ := ak (Kd.R_drew HO_7.out)
        have n3_ := ak (Kd.R_drew HO273.out)
        have n4_ := ak (wD HB.out)
        clear HO_5 HO_6 HO_7 HO273 HB
        have HO_5 := n0_
        have HO_6 := n1_
        have HO_7 := n2_
        have HO273 := n3_
        have HB := n4_
        clear n0_ n1_ n2_ n3_ n4_
        obtain ⟨Ao13, co13, eo13⟩ := Kd.R_slice HO273.out
        (first | subst eo13 | (injection eo13 with f1_ f2_ f3_; have f4_ := f1_.symm; have f5_ := f3_.symm; clear f1_ f2_ f3_; subst f4_; subst f5_))
        refine start_ (n := 32) (S := fun w' => True) (ds := []) q19_0 (by kernel_rfl) rfl rfl trivial (fun hHeld => ?_); refine with_tabW mummerref01_ParseList.tab10 mummerref01_ParseList.bits10 (fun HT_ HW_ => ?_)
        generalize w10.drew = w12 at HO_5 HO_6 HO_7 HO273 HB hHeld ⊢
        refine pure_ (i := 0) (N := some 32) (v := ?_) (a' := ?_) q19_1 rfl rfl (any_of HT_.out (by kernel_rfl)) (fun _ _ _ h => h) (Or.inl ⟨by rfl, ?_⟩) ?_ ?_; rotate_left; ·(intro w'; go_simp; with_reducible rfl)
        rotate_left; ·(simp only [Act.put, sA_, s0_, s1_, i64_w, i32_w]; rfl)
        refine pure_ (i := 1) (N := some 33) (v := ?_) (a' := ?_) q19_2 rfl rfl (any_of HT_.out (by kernel_rfl)) (fun _ _ _ h => h) (Or.inl ⟨by rfl, ?_⟩) ?_ ?_; rotate_left; ·(intro w'; go_simp; with_reducible rfl)
        rotate_left; ·(simp only [Act.put, sA_, s0_, s1_, i64_w, i32_w]; rfl)
        refine pure_ (i := 2) (N := some 34) (v := ?_) (a' := ?_) q19_3 rfl rfl (any_of HT_.out (by kernel_rfl)) (fun _ _ _ h => h) (Or.inl ⟨by rfl, ?_⟩) ?_ ?_; rotate_left; ·(intro w'; go_simp; with_reducible rfl)
        rotate_left; ·(simp only [Act.put, sA_, s0_, s1_, i64_w, i32_w]; rfl)
        refine pure_ (i := 3) (N := some 35) (v := ?_) (a' := ?_) q19_4 rfl rfl (any_of HT_.out (by kernel_rfl)) (fun _ _ _ h => h) (Or.inl ⟨by rfl, ?_⟩) ?_ ?_; rotate_left; ·(intro w'; go_simp; with_reducible rfl)
        rotate_left; ·(simp only [Act.put, sA_, s0_, s1_, i64_w, i32_w]; rfl)
        refine pure_ (i := 4) (N := some 36) (v := undef) (a' := ?_) q19_5 rfl rfl (any_of HT_.out (by kernel_rfl)) (fun _ _ _ h => h) (Or.inr ⟨by rfl, rfl⟩) ?_ ?_
        rotate_left
        ·simp only [Act.put, sA_, s0_, s1_, i64_w, i32_w]
         rfl
        refine pure_ (i := 5) (N := some 37) (v := undef) (a' := ?_) q19_6 rfl rfl (any_of HT_.out (by kernel_rfl)) (fun _ _ _ h => h) (Or.inr ⟨by rfl, rfl⟩) ?_ ?_
        rotate_left
        ·simp only [Act.put, sA_, s0_, s1_, i64_w, i32_w]
         rfl
        refine pure_ (i := 6) (N := some 38) (v := undef) (a' := ?_) q19_7 rfl rfl (any_of HT_.out (by kernel_rfl)) (fun _ _ _ h => h) (Or.inr ⟨by rfl, rfl⟩) ?_ ?_
        rotate_left
        ·simp only [Act.put, sA_, s0_, s1_, i64_w, i32_w]
         rfl
        refine pure_ (i := 7) (N := some 39) (v := undef) (a' := ?_) q19_8 rfl rfl (any_of HT_.out (by kernel_rfl)) (fun _ _ _ h => h) (Or.inr ⟨by rfl, rfl⟩) ?_ ?_
        rotate_left
        ·simp only [Act.put, sA_, s0_, s1_, i64_w, i32_w]
         rfl
        refine pure_ (i := 8) (N := some 40) (v := undef) (a' := ?_) q19_9 rfl rfl (any_of HT_.out (by kernel_rfl)) (fun _ _ _ h => h) (Or.inr ⟨by rfl, rfl⟩) ?_ ?_
        rotate_left
        ·simp only [Act.put, sA_, s0_, s1_, i64_w, i32_w]
         rfl
        refine pure_ (i := 9) (N := some 41) (v := ?_) (a' := ?_) q19_10 rfl rfl (any_of HT_.out (by kernel_rfl)) (fun _ _ _ h => h) (Or.inl ⟨by rfl, ?_⟩) ?_ ?_; rotate_left; ·(intro w'; go_simp; with_reducible rfl)
        rotate_left; ·(simp only [Act.put, sA_, s0_, s1_, i64_w, i32_w]; rfl)
        refine pure_ (i := 10) (N := some 42) (v := ?_) (a' := ?_) q19_11 rfl rfl (any_of HT_.out (by kernel_rfl)) (fun _ _ _ h => h) (Or.inl ⟨by rfl, ?_⟩) ?_ ?_; rotate_left; ·(intro w'; go_simp; with_reducible rfl)
        rotate_left; ·(simp only [Act.put, sA_, s0_, s1_, i64_w, i32_w]; rfl)
        refine pure_ (i := 11) (N := some 43) (v := undef) (a' := ?_) q19_12 rfl rfl (any_of HT_.out (by kernel_rfl)) (fun _ _ _ h => h) (Or.inr ⟨by rfl, rfl⟩) ?_ ?_
        rotate_left
        ·simp only [Act.put, sA_, s0_, s1_, i64_w, i32_w]
         rfl
        refine pure_ (i := 12) (N := some 44) (v := undef) (a' := ?_) q19_13 rfl rfl (any_of HT_.out (by kernel_rfl)) (fun _ _ _ h => h) (Or.inr ⟨by rfl, rfl⟩) ?_ ?_
        rotate_left
        ·simp only [Act.put, sA_, s0_, s1_, i64_w, i32_w]
         rfl
        refine pure_ (i := 13) (N := some 45) (v := undef) (a' := ?_) q19_14 rfl rfl (any_of HT_.out (by kernel_rfl)) (fun _ _ _ h => h) (Or.inr ⟨by rfl, rfl⟩) ?_ ?_
        rotate_left
        ·simp only [Act.put, sA_, s0_, s1_, i64_w, i32_w]
         rfl
        refine pure_ (i := 14) (N := some 46) (v := undef) (a' := ?_) q19_15 rfl rfl (any_of HT_.out (by kernel_rfl)) (fun _ _ _ h => h) (Or.inr ⟨by rfl, rfl⟩) ?_ ?_
        rotate_left
        ·simp only [Act.put, sA_, s0_, s1_, i64_w, i32_w]
         rfl
        refine pure_ (i := 15) (N := some 47) (v := undef) (a' := ?_) q19_16 rfl rfl (any_of HT_.out (by kernel_rfl)) (fun _ _ _ h => h) (Or.inr ⟨by rfl, rfl⟩) ?_ ?_
        rotate_left
        ·simp only [Act.put, sA_, s0_, s1_, i64_w, i32_w]
         rfl
        refine pure_ (i := 16) (N := some 48) (v := undef) (a' := ?_) q19_17 rfl rfl (any_of HT_.out (by kernel_rfl)) (fun _ _ _ h => h) (Or.inr ⟨by rfl, rfl⟩) ?_ ?_
        rotate_left
        ·simp only [Act.put, sA_, s0_, s1_, i64_w, i32_w]
         rfl
        refine pure_ (i := 17) (N := some 49) (v := undef) (a' := ?_) q19_18 rfl rfl (any_of HT_.out (by kernel_rfl)) (fun _ _ _ h => h) (Or.inr ⟨by rfl, rfl⟩) ?_ ?_
        rotate_left
        ·simp only [Act.put, sA_, s0_, s1_, i64_w, i32_w]
         rfl
        refine pure_ (i := 18) (N := some 50) (v := undef) (a' := ?_) q19_19 rfl rfl (any_of HT_.out (by kernel_rfl)) (fun _ _ _ h => h) (Or.inr ⟨by rfl, rfl⟩) ?_ ?_
        rotate_left
        ·simp only [Act.put, sA_, s0_, s1_, i64_w, i32_w]
         rfl
        refine pure_ (i := 19) (N := some 51) (v := undef) (a' := ?_) q19_20 rfl rfl (any_of HT_.out (by kernel_rfl)) (fun _ _ _ h => h) (Or.inr ⟨by rfl, rfl⟩) ?_ ?_
        rotate_left
        ·simp only [Act.put, sA_, s0_, s1_, i64_w, i32_w]
         rfl
        refine pure_ (i := 20) (N := some 52) (v := undef) (a' := ?_) q19_21 rfl rfl (any_of HT_.out (by kernel_rfl)) (fun _ _ _ h => h) (Or.inr ⟨by rfl, rfl⟩) ?_ ?_
        rotate_left
        ·simp only [Act.put, sA_, s0_, s1_, i64_w, i32_w]
         rfl
        refine pure_ (i := 21) (N := some 53) (v := undef) (a' := ?_) q19_22 rfl rfl (any_of HT_.out (by kernel_rfl)) (fun _ _ _ h => h) (Or.inr ⟨by rfl, rfl⟩) ?_ ?_
        rotate_left
        ·simp only [Act.put, sA_, s0_, s1_, i64_w, i32_w]
         rfl
        refine pure_ (i := 22) (N := some 54) (v := undef) (a' := ?_) q19_23 rfl rfl (any_of HT_.out (by kernel_rfl)) (fun _ _ _ h => h) (Or.inr ⟨by rfl, rfl⟩) ?_ ?_
        rotate_left
        ·simp only [Act.put, sA_, s0_, s1_, i64_w, i32_w]
         rfl
        refine pure_ (i := 23) (N := some 55) (v := undef) (a' := ?_) q19_24 rfl rfl (any_of HT_.out (by kernel_rfl)) (fun _ _ _ h => h) (Or.inr ⟨by rfl, rfl⟩) ?_ ?_
        rotate_left
        ·simp only [Act.put, sA_, s0_, s1_, i64_w, i32_w]
         rfl
        refine pure_ (i := 24) (N := some 56) (v := undef) (a' := ?_) q19_25 rfl rfl (any_of HT_.out (by kernel_rfl)) (fun _ _ _ h => h) (Or.inr ⟨by rfl, rfl⟩) ?_ ?_
        rotate_left
        ·simp only [Act.put, sA_, s0_, s1_, i64_w, i32_w]
         rfl
        refine pure_ (i := 25) (N := some 57) (v := undef) (a' := ?_) q19_26 rfl rfl (any_of HT_.out (by kernel_rfl)) (fun _ _ _ h => h) (Or.inr ⟨by rfl, rfl⟩) ?_ ?_
        rotate_left
        ·simp only [Act.put, sA_, s0_, s1_, i64_w, i32_w]
         rfl
        refine pure_ (i := 26) (N := some 58) (v := undef) (a' := ?_) q19_27 rfl rfl (any_of HT_.out (by kernel_rfl)) (fun _ _ _ h => h) (Or.inr ⟨by rfl, rfl⟩) ?_ ?_
        rotate_left
        ·simp only [Act.put, sA_, s0_, s1_, i64_w, i32_w]
         rfl
        refine pure_ (i := 27) (N := some 59) (v := undef) (a' := ?_) q19_28 rfl rfl (any_of HT_.out (by kernel_rfl)) (fun _ _ _ h => h) (Or.inr ⟨by rfl, rfl⟩) ?_ ?_
        rotate_left
        ·simp only [Act.put, sA_, s0_, s1_, i64_w, i32_w]
         rfl
        refine pure_ (i := 28) (N := some 60) (v := undef) (a' := ?_) q19_29 rfl rfl (any_of HT_.out (by kernel_rfl)) (fun _ _ _ h => h) (Or.inr ⟨by rfl, rfl⟩) ?_ ?_
        rotate_left
        ·simp only [Act.put, sA_, s0_, s1_, i64_w, i32_w]
         rfl
        refine pure_ (i := 29) (N := some 61) (v := undef) (a' := ?_) q19_30 rfl rfl (any_of HT_.out (by kernel_rfl)) (fun _ _ _ h => h) (Or.inr ⟨by rfl, rfl⟩) ?_ ?_
        rotate_left
        ·simp only [Act.put, sA_, s0_, s1_, i64_w, i32_w]
         rfl
        refine pure_ (i := 30) (N := some 62) (v := undef) (a' := ?_) q19_31 rfl rfl (any_of HT_.out (by kernel_rfl)) (fun _ _ _ h => h) (Or.inr ⟨by rfl, rfl⟩) ?_ ?_
        rotate_left
        ·simp only [Act.put, sA_, s0_, s1_, i64_w, i32_w]
         rfl
        refine pure_ (i := 31) (N := some 63) (v := ?_) (a' := ?_) q19_32 rfl rfl (any_of HT_.out (by kernel_rfl)) (fun _ _ _ h => h) (Or.inl ⟨by rfl, ?_⟩) ?_ ?_; rotate_left; ·(intro w'; go_simp; with_reducible rfl)
        rotate_left; ·(simp only [Act.put, sA_, s0_, s1_, i64_w, i32_w]; rfl)
        refine done_ (done_of HT_.out (by kernel_rfl)) ?_
        try go_wp2
        go_meet
        case rel => exact ⟨_, (true), (by first | rfl | (simp; done) | (simp [*]; done)), H', ⟨by have := HK1.out; first | omega | exact Nat.le_refl _⟩, ⟨by (with_reducible repeat (first | apply Kd.R_alloc | apply Kd.R_drewN | apply Kd.R_drew)); exact Kd.R_mono HO_5.out (fun _ hk => by first | exact ⟨hk.1.1, ⟨hk.1.2, hk.2⟩⟩ | (simp only [ne_eq] at hk ⊢; simp [hk]))⟩, ⟨by (with_reducible repeat (first | apply Kd.R_alloc | apply Kd.R_drewN | apply Kd.R_drew)); exact Kd.R_mono HO_6.out (fun _ hk => by first | exact ⟨hk.1.1, ⟨hk.1.2, hk.2⟩⟩ | (simp only [ne_eq] at hk ⊢; simp [hk]))⟩, ⟨by (with_reducible repeat (first | apply Kd.R_alloc | apply Kd.R_drewN | apply Kd.R_drew)); exact Kd.R_mono HO_7.out (fun _ hk => by first | exact ⟨hk.1.1, ⟨hk.1.2, hk.2⟩⟩ | (simp only [ne_eq] at hk ⊢; simp [hk]))⟩, ⟨by (with_reducible repeat (first | apply Kd.R_alloc | apply Kd.R_drewN | apply Kd.R_drew)); exact Kd.R_mono HO273.out (fun _ hk => by first | exact ⟨hk.1.1.2, ⟨hk.1.2, hk.2⟩⟩ | (simp only [ne_eq] at hk ⊢; simp [hk]))⟩, ⟨by repeat (first | (with_reducible first | exact HB.out | apply wA | apply wN | apply wD) | exact HB.out)⟩⟩
       ·rw [if_neg c11] at H
        have c11b0 : decide (2 < (t271.length : Int)) = false := decide_eq_false c11
        have c11b1 : decide (2 < t271.length) = false := decide_eq_false (by omega)
        clear c11
        (first | rw [c11b0] | (simp only [i64_w, i32_w]; rw [c11b0]) | skip)
        by_cases c14 : 0 < (t271.length : Int)
        ·rw [if_pos c14] at H
         have c14b0 : decide (0 < (t271.length : Int)) = true := decide_eq_true c14
         have c14b1 : decide (0 < t271.length) = true := decide_eq_true (by omega)
         clear c14
         replace H := Option.bind_eq_some_iff.mp H
         obtain ⟨t275, A150, H⟩ := H
         replace H : (if t275 = true then (if (t271.length : Int) = 2 then (if 1 < (t271.length : Int) then ((mummerref01_decimal.f k1 (rdOf ByteArray.empty t271 1)).bind fun t277 => (if t277 = true then ((mummerref01_less.f (rdOf ByteArray.empty t271 0) (rdOf ByteArray.empty t271 1)).bind fun t280 => (mummerref01_ParseList.j1 k1 x4_1 x5_1 x6_1 t267 x8_1 t271 (!t280))) else (mummerref01_ParseList.j1 k1 x4_1 x5_1 x6_1 t267 x8_1 t271 true))) else (none)) else (mummerref01_ParseList.j1 k1 x4_1 x5_1 x6_1 t267 x8_1 t271 false)) else (mummerref01_ParseList.j1 k1 x4_1 x5_1 x6_1 t267 x8_1 t271 true)) = some (r1, r2) := H
         have A15 := ak A150
         clear A150
         by_cases c16 : t275 = true
         ·subst c16
          have H1 : (if (t271.length : Int) = 2 then (if 1 < (t271.length : Int) then ((mummerref01_decimal.f k1 (rdOf ByteArray.empty t271 1)).bind fun t277 => (if t277 = true then ((mummerref01_less.f (rdOf ByteArray.empty t271 0) (rdOf ByteArray.empty t271 1)).bind fun t280 => (mummerref01_ParseList.j1 k1 x4_1 x5_1 x6_1 t267 x8_1 t271 (!t280))) else (mummerref01_ParseList.j1 k1 x4_1 x5_1 x6_1 t267 x8_1 t271 true))) else (none)) else (mummerref01_ParseList.j1 k1 x4_1 x5_1 x6_1 t267 x8_1 t271 false)) = some (r1, r2) := by rw [if_pos rfl] at H; exact H
          clear H
          have H := H1
          clear H1
          by_cases c17 : (t271.length : Int) = 2
          ·rw [if_pos c17] at H
           have c17b0 : ((t271.length : Int) == 2) = true := beq_iff_eq.mpr c17
           have c17b1 : ((t271.length : Int) != 2) = false := bne_eq_false_iff_eq.mpr c17
           clear c17
           by_cases c18 : 1 < (t271.length : Int)
           ·rw [if_pos c18] at H
            have c18b0 : decide (1 < (t271.length : Int)) = true := decide_eq_true c18
            have c18b1 : decide (1 < t271.length) = true := decide_eq_true (by omega)
            clear c18
            replace H := Option.bind_eq_some_iff.mp H
            obtain ⟨t277, A190, H⟩ := H
            replace H : (if t277 = true then ((mummerref01_less.f (rdOf ByteArray.empty t271 0) (rdOf ByteArray.empty t271 1)).bind fun t280 => (mummerref01_ParseList.j1 k1 x4_1 x5_1 x6_1 t267 x8_1 t271 (!t280))) else (mummerref01_ParseList.j1 k1 x4_1 x5_1 x6_1 t267 x8_1 t271 true)) = some (r1, r2) := H
            have A19 := ak A190
            clear A190
            by_cases c20 : t277 = true
            ·subst c20
             have H1 : ((mummerref01_less.f (rdOf ByteArray.empty t271 0) (rdOf ByteArray.empty t271 1)).bind fun t280 => (mummerref01_ParseList.j1 k1 x4_1 x5_1 x6_1 t267 x8_1 t271 (!t280))) = some (r1, r2) := by rw [if_pos rfl] at H; exact H
             clear H
             have H := H1
             clear H1
             replace H := Option.bind_eq_some_iff.mp H
             obtain ⟨t280, A210, H⟩ := H
             replace H : (mummerref01_ParseList.j1 k1 x4_1 x5_1 x6_1 t267 x8_1 t271 (!t280)) = some (r1, r2) := H
             have A21 := ak A210
             clear A210
             have H' := ak H
             clear H
             try go_wp2
             have n0_ := ak (Kd.R_drew HO_5.out)
             have n1_ := ak (Kd.R_drew HO_6.out)
             have n2_ := ak (Kd.R_drew HO_7.out)
             have n3_ := ak (Kd.R_drew HO273.out)
             have n4_ := ak (wD HB.out)
             clear HO_5 HO_6 HO_7 HO273 HB
             have HO_5 := n0_
             have HO_6 := n1_
             have HO_7 := n2_
             have HO273 := n3_
             have HB := n4_
             clear n0_ n1_ n2_ n3_ n4_
             obtain ⟨Ao23, co23, eo23⟩ := Kd.R_slice HO273.out
             (first | subst eo23 | (injection eo23 with f1_ f2_ f3_; have f4_ := f1_.symm; have f5_ := f3_.symm; clear f1_ f2_ f3_; subst f4_; subst f5_))
             have p274 : 0 ≤ (0 : Int) := (by omega)
             have q274 : 0 < (t271.length : Int) := of_decide_eq_true (by first | (with_reducible assumption) | assumption)
             obtain ⟨ad274, e274, hx274_0⟩ := Kd.at_string (Kd.R_reads' HO273.out).2.2 0 p274 q274
             cases e274
             have qi274 : (0 < t271.length) = True := eq_true (by omega)
             (try rw [show ((0 : Int)).toNat = 0 from rfl] at hx274_0)
             (try rw [Addr.add_zero'] at hx274_0)
             replace p274 := eq_true p274
             replace q274 := eq_true q274
             have p276 : 0 ≤ (1 : Int) := (by omega)
             have q276 : 1 < (t271.length : Int) := of_decide_eq_true (by first | (with_reducible assumption) | assumption)
             obtain ⟨ad276, e276, hx276_0⟩ := Kd.at_string (Kd.R_reads' HO273.out).2.2 1 p276 q276
             obtain rfl : ad274 = ad276 := (by injection e276)
             (try simp only [show (1 : Int).toNat = 1 from rfl, Nat.reduceMul, Nat.reduceEqDiff, Go.Addr.add, ↓reduceIte] at hx276_0)
             have qi276 : (1 < t271.length) = True := eq_true (by omega)
             (try rw [show ((1 : Int)).toNat = 1 from rfl] at hx276_0)
             replace p276 := eq_true p276
             replace q276 := eq_true q276
             have p278 : 0 ≤ (0 : Int) := (by omega)
             have q278 : 0 < (t271.length : Int) := of_decide_eq_true (by first | (with_reducible assumption) | assumption)
             obtain ⟨ad278, e278, hx278_0⟩ := Kd.at_string (Kd.R_reads' HO273.out).2.2 0 p278 q278
             obtain rfl : ad274 = ad278 := (by injection e278)
             have qi278 : (0 < t271.length) = True := eq_true (by omega)
             (try rw [show ((0 : Int)).toNat = 0 from rfl] at hx278_0)
             (try rw [Addr.add_zero'] at hx278_0)
             replace p278 := eq_true p278
             replace q278 := eq_true q278
             have p279 : 0 ≤ (1 : Int) := (by omega)
             have q279 : 1 < (t271.length : Int) := of_decide_eq_true (by first | (with_reducible assumption) | assumption)
             obtain ⟨ad279, e279, hx279_0⟩ := Kd.at_string (Kd.R_reads' HO273.out).2.2 1 p279 q279
             obtain rfl : ad274 = ad279 := (by injection e279)
             (try simp only [show (1 : Int).toNat = 1 from rfl, Nat.reduceMul, Nat.reduceEqDiff, Go.Addr.add, ↓reduceIte] at hx279_0)
             have qi279 : (1 < t271.length) = True := eq_true (by omega)
             (try rw [show ((1 : Int)).toNat = 1 from rfl] at hx279_0)
             replace p279 := eq_true p279
             replace q279 := eq_true q279
             refine start_ (n := 32) (S := fun w' => w'.cell? ad274 = some (.string (rdOf ByteArray.empty t271 0)) ∧ w'.cell? ⟨ad274.block, ad274.off + 1, none⟩ = some (.string (rdOf ByteArray.empty t271 1)) ∧ w'.cell? ad274 = some (.string (rdOf ByteArray.empty t271 0)) ∧ w'.cell? ⟨ad274.block, ad274.off + 1, none⟩ = some (.string (rdOf ByteArray.empty t271 1))) (ds := []) q19_0 (by kernel_rfl) rfl rfl ⟨hx274_0, hx276_0, hx278_0, hx279_0⟩ (fun hHeld => ?_); refine with_tabW mummerref01_ParseList.tab10 mummerref01_ParseList.bits10 (fun HT_ HW_ => ?_)
             generalize w10.drew = w22 at HO_5 HO_6 HO_7 HO273 HB hx274_0 hx276_0 hx278_0 hx279_0 hHeld ⊢
             refine pure_ (i := 0) (N := some 32) (v := ?_) (a' := ?_) q19_1 rfl rfl (any_of HT_.out (by kernel_rfl)) (fun _ _ _ h => h) (Or.inl ⟨by rfl, ?_⟩) ?_ ?_; rotate_left; ·(intro w'; go_simp; with_reducible rfl)
             rotate_left; ·(simp only [Act.put, sA_, s0_, s1_, i64_w, i32_w]; rfl)
             refine pure_ (i := 1) (N := some 33) (v := ?_) (a' := ?_) q19_2 rfl rfl (any_of HT_.out (by kernel_rfl)) (fun _ _ _ h => h) (Or.inl ⟨by rfl, ?_⟩) ?_ ?_; rotate_left; ·(intro w'; go_simp; with_reducible rfl)
             rotate_left; ·(simp only [Act.put, sA_, s0_, s1_, i64_w, i32_w]; rfl)
             refine pure_ (i := 2) (N := some 34) (v := ?_) (a' := ?_) q19_3 rfl rfl (any_of HT_.out (by kernel_rfl)) (fun _ _ _ h => h) (Or.inl ⟨by rfl, ?_⟩) ?_ ?_; rotate_left; ·(intro w'; go_simp; with_reducible rfl)
             rotate_left; ·(simp only [Act.put, sA_, s0_, s1_, i64_w, i32_w]; rfl)
             refine pure_ (i := 3) (N := some 35) (v := ?_) (a' := ?_) q19_4 rfl rfl (any_of HT_.out (by kernel_rfl)) (fun _ _ _ h => h) (Or.inl ⟨by rfl, ?_⟩) ?_ ?_; rotate_left; ·(intro w'; go_simp; with_reducible rfl)
             rotate_left; ·(simp only [Act.put, sA_, s0_, s1_, i64_w, i32_w]; rfl)
             refine pure_ (i := 4) (N := some 36) (v := ?_) (a' := ?_) q19_5 rfl rfl (any_of HT_.out (by kernel_rfl)) (fun _ _ _ h => h) (Or.inl ⟨by rfl, ?_⟩) ?_ ?_; rotate_left; ·(intro w'; go_simp; with_reducible rfl)
             rotate_left; ·(simp only [Act.put, sA_, s0_, s1_, i64_w, i32_w]; rfl)
             refine pure_ (i := 5) (N := some 37) (v := ?_) (a' := ?_) q19_6 rfl rfl (any_of HT_.out (by kernel_rfl)) (fun _ _ _ h => h) (Or.inl ⟨by rfl, ?_⟩) ?_ ?_; rotate_left; ·(intro w'; go_simp; with_reducible rfl)
             rotate_left; ·(simp only [Act.put, sA_, s0_, s1_, i64_w, i32_w]; rfl)
             refine take_ (i := 6) (N := some 38) (v := ?_) (a' := ?_) q19_7 rfl rfl (take_ofW HT_.out HW_.out (by kernel_rfl)) (fun _ _ _ h => h) (Or.inl ⟨by rfl, ?_⟩) hHeld ?_ ?_; rotate_left; ·(rintro w' ⟨s0, s1, s2, s3⟩; go_simp; with_reducible rfl)
             rotate_left; ·(simp only [Act.put, sA_, s0_, s1_, i64_w, i32_w]; rfl)
             refine one_ (i := 7) (N := some 39) q19_8 rfl rfl (one_of HT_.out (by kernel_rfl)) (by decide) (fun K hK => ?_)
             refine goes_ Tryz.func48 (by kernel_rfl) rfl #[.string (rdOf ByteArray.empty t271 0)] (by rfl) rfl rfl (by (try simp only [List.map_toArray, List.map_cons, List.map_nil]); first | done | rfl | (simp only [List.length_drop, List.length_take]; rfl)) ?_
             with_reducible refine (mummerref01_decimal.calls k1 (rdOf ByteArray.empty t271 0) true _ A15.out).mono ?_
             rintro e w' ⟨rfl, ⟨nd, rfl⟩⟩
             refine ⟨_, rfl, ?_⟩
             refine hK.out _ _ ⟨hHeld.1, hHeld.2.1, hHeld.2.2.1, hHeld.2.2.2⟩ (fun hHeld => ?_)
             clear hK K
             refine norm_ (a' := ?_) ?_ ?_
             rotate_left
             ·show Act.put _ (some 39) _ = _
              simp only [Act.put, sA_, s0_, s1_, i64_w, i32_w]
              rfl
             refine pure_ (i := 8) (N := some 40) (v := ?_) (a' := ?_) q19_9 rfl rfl (any_of HT_.out (by kernel_rfl)) (fun _ _ _ h => h) (Or.inl ⟨by rfl, ?_⟩) ?_ ?_; rotate_left; ·(intro w'; go_simp; with_reducible rfl)
             rotate_left; ·(simp only [Act.put, sA_, s0_, s1_, i64_w, i32_w]; rfl)
             refine pure_ (i := 9) (N := some 41) (v := ?_) (a' := ?_) q19_10 rfl rfl (any_of HT_.out (by kernel_rfl)) (fun _ _ _ h => h) (Or.inl ⟨by rfl, ?_⟩) ?_ ?_; rotate_left; ·(intro w'; go_simp; with_reducible rfl)
             rotate_left; ·(simp only [Act.put, sA_, s0_, s1_, i64_w, i32_w]; rfl)
             refine pure_ (i := 10) (N := some 42) (v := ?_) (a' := ?_) q19_11 rfl rfl (any_of HT_.out (by kernel_rfl)) (fun _ _ _ h => h) (Or.inl ⟨by rfl, ?_⟩) ?_ ?_; rotate_left; ·(intro w'; go_simp; with_reducible rfl)
             rotate_left; ·(simp only [Act.put, sA_, s0_, s1_, i64_w, i32_w]; rfl)
             refine pure_ (i := 11) (N := some 43) (v := ?_) (a' := ?_) q19_12 rfl rfl (any_of HT_.out (by kernel_rfl)) (fun _ _ _ h => h) (Or.inl ⟨by rfl, ?_⟩) ?_ ?_; rotate_left; ·(intro w'; go_simp; with_reducible rfl)
             rotate_left; ·(simp only [Act.put, sA_, s0_, s1_, i64_w, i32_w]; rfl)
             refine pure_ (i := 12) (N := some 44) (v := ?_) (a' := ?_) q19_13 rfl rfl (any_of HT_.out (by kernel_rfl)) (fun _ _ _ h => h) (Or.inl ⟨by rfl, ?_⟩) ?_ ?_; rotate_left; ·(intro w'; go_simp; with_reducible rfl)
             rotate_left; ·(simp only [Act.put, sA_, s0_, s1_, i64_w, i32_w]; rfl)
             refine pure_ (i := 13) (N := some 45) (v := ?_) (a' := ?_) q19_14 rfl rfl (any_of HT_.out (by kernel_rfl)) (fun _ _ _ h => h) (Or.inl ⟨by rfl, ?_⟩) ?_ ?_; rotate_left; ·(intro w'; go_simp; with_reducible rfl)
             rotate_left; ·(simp only [Act.put, sA_, s0_, s1_, i64_w, i32_w]; rfl)
             refine pure_ (i := 14) (N := some 46) (v := ?_) (a' := ?_) q19_15 rfl rfl (any_of HT_.out (by kernel_rfl)) (fun _ _ _ h => h) (Or.inl ⟨by rfl, ?_⟩) ?_ ?_; rotate_left; ·(intro w'; go_simp; with_reducible rfl)
             rotate_left; ·(simp only [Act.put, sA_, s0_, s1_, i64_w, i32_w]; rfl)
             refine pure_ (i := 15) (N := some 47) (v := ?_) (a' := ?_) q19_16 rfl rfl (any_of HT_.out (by kernel_rfl)) (fun _ _ _ h => h) (Or.inl ⟨by rfl, ?_⟩) ?_ ?_; rotate_left; ·(intro w'; go_simp; with_reducible rfl)
             rotate_left; ·(simp only [Act.put, sA_, s0_, s1_, i64_w, i32_w]; rfl)
             refine pure_ (i := 16) (N := some 48) (v := ?_) (a' := ?_) q19_17 rfl rfl (any_of HT_.out (by kernel_rfl)) (fun _ _ _ h => h) (Or.inl ⟨by rfl, ?_⟩) ?_ ?_; rotate_left; ·(intro w'; go_simp; with_reducible rfl)
             rotate_left; ·(simp only [Act.put, sA_, s0_, s1_, i64_w, i32_w]; rfl)
             refine take_ (i := 17) (N := some 49) (v := ?_) (a' := ?_) q19_18 rfl rfl (take_ofW HT_.out HW_.out (by kernel_rfl)) (fun _ _ _ h => h) (Or.inl ⟨by rfl, ?_⟩) hHeld ?_ ?_; rotate_left; ·(rintro w' ⟨s0, s1, s2, s3⟩; go_simp; with_reducible rfl)
             rotate_left; ·(simp only [Act.put, sA_, s0_, s1_, i64_w, i32_w]; rfl)
             refine one_ (i := 18) (N := some 50) q19_19 rfl rfl (one_of HT_.out (by kernel_rfl)) (by decide) (fun K hK => ?_)
             refine goes_ Tryz.func48 (by kernel_rfl) rfl #[.string (rdOf ByteArray.empty t271 1)] (by rfl) rfl rfl (by (try simp only [List.map_toArray, List.map_cons, List.map_nil]); first | done | rfl | (simp only [List.length_drop, List.length_take]; rfl)) ?_
             with_reducible refine (mummerref01_decimal.calls k1 (rdOf ByteArray.empty t271 1) true _ A19.out).mono ?_
             rintro e w' ⟨rfl, ⟨nd, rfl⟩⟩
             refine ⟨_, rfl, ?_⟩
             refine hK.out _ _ ⟨hHeld.1, hHeld.2.1, hHeld.2.2.1, hHeld.2.2.2⟩ (fun hHeld => ?_)
             clear hK K
             refine norm_ (a' := ?_) ?_ ?_
             rotate_left
             ·show Act.put _ (some 50) _ = _
              simp only [Act.put, sA_, s0_, s1_, i64_w, i32_w]
              rfl
             refine pure_ (i := 19) (N := some 51) (v := ?_) (a' := ?_) q19_20 rfl rfl (any_of HT_.out (by kernel_rfl)) (fun _ _ _ h => h) (Or.inl ⟨by rfl, ?_⟩) ?_ ?_; rotate_left; ·(intro w'; go_simp; with_reducible rfl)
             rotate_left; ·(simp only [Act.put, sA_, s0_, s1_, i64_w, i32_w]; rfl)
             refine pure_ (i := 20) (N := some 52) (v := ?_) (a' := ?_) q19_21 rfl rfl (any_of HT_.out (by kernel_rfl)) (fun _ _ _ h => h) (Or.inl ⟨by rfl, ?_⟩) ?_ ?_; rotate_left; ·(intro w'; go_simp; with_reducible rfl)
             rotate_left; ·(simp only [Act.put, sA_, s0_, s1_, i64_w, i32_w]; rfl)
             refine pure_ (i := 21) (N := some 53) (v := ?_) (a' := ?_) q19_22 rfl rfl (any_of HT_.out (by kernel_rfl)) (fun _ _ _ h => h) (Or.inl ⟨by rfl, ?_⟩) ?_ ?_; rotate_left; ·(intro w'; go_simp; with_reducible rfl)
             rotate_left; ·(simp only [Act.put, sA_, s0_, s1_, i64_w, i32_w]; rfl)
             refine pure_ (i := 22) (N := some 54) (v := ?_) (a' := ?_) q19_23 rfl rfl (any_of HT_.out (by kernel_rfl)) (fun _ _ _ h => h) (Or.inl ⟨by rfl, ?_⟩) ?_ ?_; rotate_left; ·(intro w'; go_simp; with_reducible rfl)
             rotate_left; ·(simp only [Act.put, sA_, s0_, s1_, i64_w, i32_w]; rfl)
             refine pure_ (i := 24) (N := some 56) (v := ?_) (a' := ?_) #[Y,Y,Y,Y,Y,Y,Y,Y,Y,Y,Y,Y,Y,Y,Y,Y,Y,Y,Y,Y,Y,Y,Y,Z,Y,Z,Z,Z,Z,Z,Z,Z] rfl rfl (any_of HT_.out (by kernel_rfl)) (fun _ _ _ h => h) (Or.inl ⟨by rfl, ?_⟩) ?_ ?_; rotate_left; ·(intro w'; go_simp; with_reducible rfl)
             rotate_left; ·(simp only [Act.put, sA_, s0_, s1_, i64_w, i32_w]; rfl)
             refine pure_ (i := 25) (N := some 57) (v := ?_) (a' := ?_) #[Y,Y,Y,Y,Y,Y,Y,Y,Y,Y,Y,Y,Y,Y,Y,Y,Y,Y,Y,Y,Y,Y,Y,Z,Y,Y,Z,Z,Z,Z,Z,Z] rfl rfl (any_of HT_.out (by kernel_rfl)) (fun _ _ _ h => h) (Or.inl ⟨by rfl, ?_⟩) ?_ ?_; rotate_left; ·(intro w'; go_simp; with_reducible rfl)
             rotate_left; ·(simp only [Act.put, sA_, s0_, s1_, i64_w, i32_w]; rfl)
             refine take_ (i := 23) (N := some 55) (v := ?_) (a' := ?_) q19_26 rfl rfl (take_ofW HT_.out HW_.out (by kernel_rfl)) (fun _ _ _ h => h) (Or.inl ⟨by rfl, ?_⟩) hHeld ?_ ?_; rotate_left; ·(rintro w' ⟨s0, s1, s2, s3⟩; go_simp; with_reducible rfl)
             rotate_left; ·(simp only [Act.put, sA_, s0_, s1_, i64_w, i32_w]; rfl)
             refine take_ (i := 26) (N := some 58) (v := ?_) (a' := ?_) q19_27 rfl rfl (take_ofW HT_.out HW_.out (by kernel_rfl)) (fun _ _ _ h => h) (Or.inl ⟨by rfl, ?_⟩) hHeld ?_ ?_; rotate_left; ·(rintro w' ⟨s0, s1, s2, s3⟩; go_simp; with_reducible rfl)
             rotate_left; ·(simp only [Act.put, sA_, s0_, s1_, i64_w, i32_w]; rfl)
             refine one_ (i := 27) (N := some 59) q19_28 rfl rfl (one_of HT_.out (by kernel_rfl)) (by decide) (fun K hK => ?_)
             refine goes_ Tryz.func49 (by kernel_rfl) rfl #[.string (rdOf ByteArray.empty t271 0), .string (rdOf ByteArray.empty t271 1)] (by rfl) rfl rfl (by (try simp only [List.map_toArray, List.map_cons, List.map_nil]); first | done | rfl | (simp only [List.length_drop, List.length_take]; rfl)) ?_
             with_reducible refine (mummerref01_less.calls (rdOf ByteArray.empty t271 0) (rdOf ByteArray.empty t271 1) t280 _ A21.out).mono ?_
             rintro e w' ⟨rfl, ⟨nd, rfl⟩⟩
             refine ⟨_, rfl, ?_⟩
             refine hK.out _ _ ⟨hHeld.1, hHeld.2.1, hHeld.2.2.1, hHeld.2.2.2⟩ (fun hHeld => ?_)
             clear hK K
             refine norm_ (a' := ?_) ?_ ?_
             rotate_left
             ·show Act.put _ (some 59) _ = _
              simp only [Act.put, sA_, s0_, s1_, i64_w, i32_w]
              rfl
             refine pure_ (i := 28) (N := some 60) (v := ?_) (a' := ?_) q19_29 rfl rfl (any_of HT_.out (by kernel_rfl)) (fun _ _ _ h => h) (Or.inl ⟨by rfl, ?_⟩) ?_ ?_; rotate_left; ·(intro w'; go_simp; with_reducible rfl)
             rotate_left; ·(simp only [Act.put, sA_, s0_, s1_, i64_w, i32_w]; rfl)
             refine pure_ (i := 29) (N := some 61) (v := ?_) (a' := ?_) q19_30 rfl rfl (any_of HT_.out (by kernel_rfl)) (fun _ _ _ h => h) (Or.inl ⟨by rfl, ?_⟩) ?_ ?_; rotate_left; ·(intro w'; go_simp; with_reducible rfl)
             rotate_left; ·(simp only [Act.put, sA_, s0_, s1_, i64_w, i32_w]; rfl)
             refine pure_ (i := 30) (N := some 62) (v := ?_) (a' := ?_) q19_31 rfl rfl (any_of HT_.out (by kernel_rfl)) (fun _ _ _ h => h) (Or.inl ⟨by rfl, ?_⟩) ?_ ?_; rotate_left; ·(intro w'; go_simp; with_reducible rfl)
             rotate_left; ·(simp only [Act.put, sA_, s0_, s1_, i64_w, i32_w]; rfl)
             refine pure_ (i := 31) (N := some 63) (v := ?_) (a' := ?_) q19_32 rfl rfl (any_of HT_.out (by kernel_rfl)) (fun _ _ _ h => h) (Or.inl ⟨by rfl, ?_⟩) ?_ ?_; rotate_left; ·(intro w'; go_simp; with_reducible rfl)
             rotate_left; ·(simp only [Act.put, sA_, s0_, s1_, i64_w, i32_w]; rfl)
             refine done_ (done_of HT_.out (by kernel_rfl)) ?_
             try go_wp2
             go_meet
             case rel => exact ⟨_, (!t280), (by first | rfl | (simp; done) | (simp [*]; done)), H', ⟨by have := HK1.out; first | omega | exact Nat.le_refl _⟩, ⟨by (with_reducible repeat (first | apply Kd.R_alloc | apply Kd.R_drewN | apply Kd.R_drew)); exact Kd.R_mono HO_5.out (fun _ hk => by first | exact ⟨hk.1.1, ⟨hk.1.2, hk.2⟩⟩ | (simp only [ne_eq] at hk ⊢; simp [hk]))⟩, ⟨by (with_reducible repeat (first | apply Kd.R_alloc | apply Kd.R_drewN | apply Kd.R_drew)); exact Kd.R_mono HO_6.out (fun _ hk => by first | exact ⟨hk.1.1, ⟨hk.1.2, hk.2⟩⟩ | (simp only [ne_eq] at hk ⊢; simp [hk]))⟩, ⟨by (with_reducible repeat (first | apply Kd.R_alloc | apply Kd.R_drewN | apply Kd.R_drew)); exact Kd.R_mono HO_7.out (fun _ hk => by first | exact ⟨hk.1.1, ⟨hk.1.2, hk.2⟩⟩ | (simp only [ne_eq] at hk ⊢; simp [hk]))⟩, ⟨by (with_reducible repeat (first | apply Kd.R_alloc | apply Kd.R_drewN | apply Kd.R_drew)); exact Kd.R_mono HO273.out (fun _ hk => by first | exact ⟨hk.1.1.2, ⟨hk.1.2, hk.2⟩⟩ | (simp only [ne_eq] at hk ⊢; simp [hk]))⟩, ⟨by repeat (first | (with_reducible first | exact HB.out | apply wA | apply wN | apply wD) | exact HB.out)⟩⟩
            ·replace c20 := Bool.eq_false_iff.mpr c20
             subst c20
             have H1 : (mummerref01_ParseList.j1 k1 x4_1 x5_1 x6_1 t267 x8_1 t271 true) = some (r1, r2) := by rw [if_neg (show ¬ (false = true) by decide)] at H; exact H
             clear H
             have H := H1
             clear H1
             have H' := ak H
             clear H
             try go_wp2
             have n0_ := ak (Kd.R_drew HO_5.out)
             have n1_ := ak (Kd.R_drew HO_6.out)
             have n2_ := ak (Kd.R_drew HO_7.out)
             have n3_ := ak (Kd.R_drew HO273.out)
             have n4_ := ak (wD HB.out)
             clear HO_5 HO_6 HO_7 HO273 HB
             have HO_5 := n0_
             have HO_6 := n1_
             have HO_7 := n2_
             have HO273 := n3_
             have HB := n4_
             clear n0_ n1_ n2_ n3_ n4_
             obtain ⟨Ao25, co25, eo25⟩ := Kd.R_slice HO273.out
             (first | subst eo25 | (injection eo25 with f1_ f2_ f3_; have f4_ := f1_.symm; have f5_ := f3_.symm; clear f1_ f2_ f3_; subst f4_; subst f5_))
             have p274 : 0 ≤ (0 : Int) := (by omega)
             have q274 : 0 < (t271.length : Int) := of_decide_eq_true (by first | (with_reducible assumption) | assumption)
             obtain ⟨ad274, e274, hx274_0⟩ := Kd.at_string (Kd.R_reads' HO273.out).2.2 0 p274 q274
             cases e274
             have qi274 : (0 < t271.length) = True := eq_true (by omega)
             (try rw [show ((0 : Int)).toNat = 0 from rfl] at hx274_0)
             (try rw [Addr.add_zero'] at hx274_0)
             replace p274 := eq_true p274
             replace q274 := eq_true q274
             have p276 : 0 ≤ (1 : Int) := (by omega)
             have q276 : 1 < (t271.length : Int) := of_decide_eq_true (by first | (with_reducible assumption) | assumption)
             obtain ⟨ad276, e276, hx276_0⟩ := Kd.at_string (Kd.R_reads' HO273.out).2.2 1 p276 q276
             obtain rfl : ad274 = ad276 := (by injection e276)
             (try simp only [show (1 : Int).toNat = 1 from rfl, Nat.reduceMul, Nat.reduceEqDiff, Go.Addr.add, ↓reduceIte] at hx276_0)
             have qi276 : (1 < t271.length) = True := eq_true (by omega)
             (try rw [show ((1 : Int)).toNat = 1 from rfl] at hx276_0)
             replace p276 := eq_true p276
             replace q276 := eq_true q276
             refine start_ (n := 32) (S := fun w' => w'.cell? ad274 = some (.string (rdOf ByteArray.empty t271 0)) ∧ w'.cell? ⟨ad274.block, ad274.off + 1, none⟩ = some (.string (rdOf ByteArray.empty t271 1))) (ds := []) q19_0 (by kernel_rfl) rfl rfl ⟨hx274_0, hx276_0⟩ (fun hHeld => ?_); refine with_tabW mummerref01_ParseList.tab10 mummerref01_ParseList.bits10 (fun HT_ HW_ => ?_)
             generalize w10.drew = w24 at HO_5 HO_6 HO_7 HO273 HB hx274_0 hx276_0 hHeld ⊢
             refine pure_ (i := 0) (N := some 32) (v := ?_) (a' := ?_) q19_1 rfl rfl (any_of HT_.out (by kernel_rfl)) (fun _ _ _ h => h) (Or.inl ⟨by rfl, ?_⟩) ?_ ?_; rotate_left; ·(intro w'; go_simp; with_reducible rfl)
             rotate_left; ·(simp only [Act.put, sA_, s0_, s1_, i64_w, i32_w]; rfl)
             refine pure_ (i := 1) (N := some 33) (v := ?_) (a' := ?_) q19_2 rfl rfl (any_of HT_.out (by kernel_rfl)) (fun _ _ _ h => h) (Or.inl ⟨by rfl, ?_⟩) ?_ ?_; rotate_left; ·(intro w'; go_simp; with_reducible rfl)
             rotate_left; ·(simp only [Act.put, sA_, s0_, s1_, i64_w, i32_w]; rfl)
             refine pure_ (i := 2) (N := some 34) (v := ?_) (a' := ?_) q19_3 rfl rfl (any_of HT_.out (by kernel_rfl)) (fun _ _ _ h => h) (Or.inl ⟨by rfl, ?_⟩) ?_ ?_; rotate_left; ·(intro w'; go_simp; with_reducible rfl)
             rotate_left; ·(simp only [Act.put, sA_, s0_, s1_, i64_w, i32_w]; rfl)
             refine pure_ (i := 3) (N := some 35) (v := ?_) (a' := ?_) q19_4 rfl rfl (any_of HT_.out (by kernel_rfl)) (fun _ _ _ h => h) (Or.inl ⟨by rfl, ?_⟩) ?_ ?_; rotate_left; ·(intro w'; go_simp; with_reducible rfl)
             rotate_left; ·(simp only [Act.put, sA_, s0_, s1_, i64_w, i32_w]; rfl)
             refine pure_ (i := 4) (N := some 36) (v := ?_) (a' := ?_) q19_5 rfl rfl (any_of HT_.out (by kernel_rfl)) (fun _ _ _ h => h) (Or.inl ⟨by rfl, ?_⟩) ?_ ?_; rotate_left; ·(intro w'; go_simp; with_reducible rfl)
             rotate_left; ·(simp only [Act.put, sA_, s0_, s1_, i64_w, i32_w]; rfl)
             refine pure_ (i := 5) (N := some 37) (v := ?_) (a' := ?_) q19_6 rfl rfl (any_of HT_.out (by kernel_rfl)) (fun _ _ _ h => h) (Or.inl ⟨by rfl, ?_⟩) ?_ ?_; rotate_left; ·(intro w'; go_simp; with_reducible rfl)
             rotate_left; ·(simp only [Act.put, sA_, s0_, s1_, i64_w, i32_w]; rfl)
             refine take_ (i := 6) (N := some 38) (v := ?_) (a' := ?_) q19_7 rfl rfl (take_ofW HT_.out HW_.out (by kernel_rfl)) (fun _ _ _ h => h) (Or.inl ⟨by rfl, ?_⟩) hHeld ?_ ?_; rotate_left; ·(rintro w' ⟨s0, s1⟩; go_simp; with_reducible rfl)
             rotate_left; ·(simp only [Act.put, sA_, s0_, s1_, i64_w, i32_w]; rfl)
             refine one_ (i := 7) (N := some 39) q19_8 rfl rfl (one_of HT_.out (by kernel_rfl)) (by decide) (fun K hK => ?_)
             refine goes_ Tryz.func48 (by kernel_rfl) rfl #[.string (rdOf ByteArray.empty t271 0)] (by rfl) rfl rfl (by (try simp only [List.map_toArray, List.map_cons, List.map_nil]); first | done | rfl | (simp only [List.length_drop, List.length_take]; rfl)) ?_
             with_reducible refine (mummerref01_decimal.calls k1 (rdOf ByteArray.empty t271 0) true _ A15.out).mono ?_
             rintro e w' ⟨rfl, ⟨nd, rfl⟩⟩
             refine ⟨_, rfl, ?_⟩
             refine hK.out _ _ ⟨hHeld.1, hHeld.2⟩ (fun hHeld => ?_)
             clear hK K
             refine norm_ (a' := ?_) ?_ ?_
             rotate_left
             ·show Act.put _ (some 39) _ = _
              simp only [Act.put, sA_, s0_, s1_, i64_w, i32_w]
              rfl
             refine pure_ (i := 8) (N := some 40) (v := ?_) (a' := ?_) q19_9 rfl rfl (any_of HT_.out (by kernel_rfl)) (fun _ _ _ h => h) (Or.inl ⟨by rfl, ?_⟩) ?_ ?_; rotate_left; ·(intro w'; go_simp; with_reducible rfl)
             rotate_left; ·(simp only [Act.put, sA_, s0_, s1_, i64_w, i32_w]; rfl)
             refine pure_ (i := 9) (N := some 41) (v := ?_) (a' := ?_) q19_10 rfl rfl (any_of HT_.out (by kernel_rfl)) (fun _ _ _ h => h) (Or.inl ⟨by rfl, ?_⟩) ?_ ?_; rotate_left; ·(intro w'; go_simp; with_reducible rfl)
             rotate_left; ·(simp only [Act.put, sA_, s0_, s1_, i64_w, i32_w]; rfl)
             refine pure_ (i := 10) (N := some 42) (v := ?_) (a' := ?_) q19_11 rfl rfl (any_of HT_.out (by kernel_rfl)) (fun _ _ _ h => h) (Or.inl ⟨by rfl, ?_⟩) ?_ ?_; rotate_left; ·(intro w'; go_simp; with_reducible rfl)
             rotate_left; ·(simp only [Act.put, sA_, s0_, s1_, i64_w, i32_w]; rfl)
             refine pure_ (i := 11) (N := some 43) (v := ?_) (a' := ?_) q19_12 rfl rfl (any_of HT_.out (by kernel_rfl)) (fun _ _ _ h => h) (Or.inl ⟨by rfl, ?_⟩) ?_ ?_; rotate_left; ·(intro w'; go_simp; with_reducible rfl)
             rotate_left; ·(simp only [Act.put, sA_, s0_, s1_, i64_w, i32_w]; rfl)
             refine pure_ (i := 12) (N := some 44) (v := ?_) (a' := ?_) q19_13 rfl rfl (any_of HT_.out (by kernel_rfl)) (fun _ _ _ h => h) (Or.inl ⟨by rfl, ?_⟩) ?_ ?_; rotate_left; ·(intro w'; go_simp; with_reducible rfl)
             rotate_left; ·(simp only [Act.put, sA_, s0_, s1_, i64_w, i32_w]; rfl)
             refine pure_ (i := 13) (N := some 45) (v := ?_) (a' := ?_) q19_14 rfl rfl (any_of HT_.out (by kernel_rfl)) (fun _ _ _ h => h) (Or.inl ⟨by rfl, ?_⟩) ?_ ?_; rotate_left; ·(intro w'; go_simp; with_reducible rfl)
             rotate_left; ·(simp only [Act.put, sA_, s0_, s1_, i64_w, i32_w]; rfl)
             refine pure_ (i := 14) (N := some 46) (v := ?_) (a' := ?_) q19_15 rfl rfl (any_of HT_.out (by kernel_rfl)) (fun _ _ _ h => h) (Or.inl ⟨by rfl, ?_⟩) ?_ ?_; rotate_left; ·(intro w'; go_simp; with_reducible rfl)
             rotate_left; ·(simp only [Act.put, sA_, s0_, s1_, i64_w, i32_w]; rfl)
             refine pure_ (i := 15) (N := some 47) (v := ?_) (a' := ?_) q19_16 rfl rfl (any_of HT_.out (by kernel_rfl)) (fun _ _ _ h => h) (Or.inl ⟨by rfl, ?_⟩) ?_ ?_; rotate_left; ·(intro w'; go_simp; with_reducible rfl)
             rotate_left; ·(simp only [Act.put, sA_, s0_, s1_, i64_w, i32_w]; rfl)
             refine pure_ (i := 16) (N := some 48) (v := ?_) (a' := ?_) q19_17 rfl rfl (any_of HT_.out (by kernel_rfl)) (fun _ _ _ h => h) (Or.inl ⟨by rfl, ?_⟩) ?_ ?_; rotate_left; ·(intro w'; go_simp; with_reducible rfl)
             rotate_left; ·(simp only [Act.put, sA_, s0_, s1_, i64_w, i32_w]; rfl)
             refine take_ (i := 17) (N := some 49) (v := ?_) (a' := ?_) q19_18 rfl rfl (take_ofW HT_.out HW_.out (by kernel_rfl)) (fun _ _ _ h => h) (Or.inl ⟨by rfl, ?_⟩) hHeld ?_ ?_; rotate_left; ·(rintro w' ⟨s0, s1⟩; go_simp; with_reducible rfl)
             rotate_left; ·(simp only [Act.put, sA_, s0_, s1_, i64_w, i32_w]; rfl)
             refine one_ (i := 18) (N := some 50) q19_19 rfl rfl (one_of HT_.out (by kernel_rfl)) (by decide) (fun K hK => ?_)
             refine goes_ Tryz.func48 (by kernel_rfl) rfl #[.string (rdOf ByteArray.empty t271 1)] (by rfl) rfl rfl (by (try simp only [List.map_toArray, List.map_cons, List.map_nil]); first | done | rfl | (simp only [List.length_drop, List.length_take]; rfl)) ?_
             with_reducible refine (mummerref01_decimal.calls k1 (rdOf ByteArray.empty t271 1) false _ A19.out).mono ?_
             rintro e w' ⟨rfl, ⟨nd, rfl⟩⟩
             refine ⟨_, rfl, ?_⟩
             refine hK.out _ _ ⟨hHeld.1, hHeld.2⟩ (fun hHeld => ?_)
             clear hK K
             refine norm_ (a' := ?_) ?_ ?_
             rotate_left
             ·show Act.put _ (some 50) _ = _
              simp only [Act.put, sA_, s0_, s1_, i64_w, i32_w]
              rfl
             refine pure_ (i := 19) (N := some 51) (v := ?_) (a' := ?_) q19_20 rfl rfl (any_of HT_.out (by kernel_rfl)) (fun _ _ _ h => h) (Or.inl ⟨by rfl, ?_⟩) ?_ ?_; rotate_left; ·(intro w'; go_simp; with_reducible rfl)
             rotate_left; ·(simp only [Act.put, sA_, s0_, s1_, i64_w, i32_w]; rfl)
             refine pure_ (i := 20) (N := some 52) (v := ?_) (a' := ?_) q19_21 rfl rfl (any_of HT_.out (by kernel_rfl)) (fun _ _ _ h => h) (Or.inl ⟨by rfl, ?_⟩) ?_ ?_; rotate_left; ·(intro w'; go_simp; with_reducible rfl)
             rotate_left; ·(simp only [Act.put, sA_, s0_, s1_, i64_w, i32_w]; rfl)
             refine pure_ (i := 21) (N := some 53) (v := undef) (a' := ?_) q19_22 rfl rfl (any_of HT_.out (by kernel_rfl)) (fun _ _ _ h => h) (Or.inr ⟨by rfl, rfl⟩) ?_ ?_
             rotate_left
             ·simp only [Act.put, sA_, s0_, s1_, i64_w, i32_w]
              rfl
             refine pure_ (i := 22) (N := some 54) (v := undef) (a' := ?_) q19_23 rfl rfl (any_of HT_.out (by kernel_rfl)) (fun _ _ _ h => h) (Or.inr ⟨by rfl, rfl⟩) ?_ ?_
             rotate_left
             ·simp only [Act.put, sA_, s0_, s1_, i64_w, i32_w]
              rfl
             refine pure_ (i := 23) (N := some 55) (v := undef) (a' := ?_) q19_24 rfl rfl (any_of HT_.out (by kernel_rfl)) (fun _ _ _ h => h) (Or.inr ⟨by rfl, rfl⟩) ?_ ?_
             rotate_left
             ·simp only [Act.put, sA_, s0_, s1_, i64_w, i32_w]
              rfl
             refine pure_ (i := 24) (N := some 56) (v := undef) (a' := ?_) q19_25 rfl rfl (any_of HT_.out (by kernel_rfl)) (fun _ _ _ h => h) (Or.inr ⟨by rfl, rfl⟩) ?_ ?_
             rotate_left
             ·simp only [Act.put, sA_, s0_, s1_, i64_w, i32_w]
              rfl
             refine pure_ (i := 25) (N := some 57) (v := undef) (a' := ?_) q19_26 rfl rfl (any_of HT_.out (by kernel_rfl)) (fun _ _ _ h => h) (Or.inr ⟨by rfl, rfl⟩) ?_ ?_
             rotate_left
             ·simp only [Act.put, sA_, s0_, s1_, i64_w, i32_w]
              rfl
             refine pure_ (i := 26) (N := some 58) (v := undef) (a' := ?_) q19_27 rfl rfl (any_of HT_.out (by kernel_rfl)) (fun _ _ _ h => h) (Or.inr ⟨by rfl, rfl⟩) ?_ ?_
             rotate_left
             ·simp only [Act.put, sA_, s0_, s1_, i64_w, i32_w]
              rfl
             refine pure_ (i := 27) (N := some 59) (v := undef) (a' := ?_) q19_28 rfl rfl (any_of HT_.out (by kernel_rfl)) (fun _ _ _ h => h) (Or.inr ⟨by rfl, rfl⟩) ?_ ?_
             rotate_left
             ·simp only [Act.put, sA_, s0_, s1_, i64_w, i32_w]
              rfl
             refine pure_ (i := 28) (N := some 60) (v := undef) (a' := ?_) q19_29 rfl rfl (any_of HT_.out (by kernel_rfl)) (fun _ _ _ h => h) (Or.inr ⟨by rfl, rfl⟩) ?_ ?_
             rotate_left
             ·simp only [Act.put, sA_, s0_, s1_, i64_w, i32_w]
              rfl
             refine pure_ (i := 29) (N := some 61) (v := ?_) (a' := ?_) q19_30 rfl rfl (any_of HT_.out (by kernel_rfl)) (fun _ _ _ h => h) (Or.inl ⟨by rfl, ?_⟩) ?_ ?_; rotate_left; ·(intro w'; go_simp; with_reducible rfl)
             rotate_left; ·(simp only [Act.put, sA_, s0_, s1_, i64_w, i32_w]; rfl)
             refine pure_ (i := 30) (N := some 62) (v := ?_) (a' := ?_) q19_31 rfl rfl (any_of HT_.out (by kernel_rfl)) (fun _ _ _ h => h) (Or.inl ⟨by rfl, ?_⟩) ?_ ?_; rotate_left; ·(intro w'; go_simp; with_reducible rfl)
             rotate_left; ·(simp only [Act.put, sA_, s0_, s1_, i64_w, i32_w]; rfl)
             refine pure_ (i := 31) (N := some 63) (v := ?_) (a' := ?_) q19_32 rfl rfl (any_of HT_.out (by kernel_rfl)) (fun _ _ _ h => h) (Or.inl ⟨by rfl, ?_⟩) ?_ ?_; rotate_left; ·(intro w'; go_simp; with_reducible rfl)
             rotate_left; ·(simp only [Act.put, sA_, s0_, s1_, i64_w, i32_w]; rfl)
             refine done_ (done_of HT_.out (by kernel_rfl)) ?_
             try go_wp2
             go_meet
             case rel => exact ⟨_, (true), (by first | rfl | (simp; done) | (simp [*]; done)), H', ⟨by have := HK1.out; first | omega | exact Nat.le_refl _⟩, ⟨by (with_reducible repeat (first | apply Kd.R_alloc | apply Kd.R_drewN | apply Kd.R_drew)); exact Kd.R_mono HO_5.out (fun _ hk => by first | exact ⟨hk.1.1, ⟨hk.1.2, hk.2⟩⟩ | (simp only [ne_eq] at hk ⊢; simp [hk]))⟩, ⟨by (with_reducible repeat (first | apply Kd.R_alloc | apply Kd.R_drewN | apply Kd.R_drew)); exact Kd.R_mono HO_6.out (fun _ hk => by first | exact ⟨hk.1.1, ⟨hk.1.2, hk.2⟩⟩ | (simp only [ne_eq] at hk ⊢; simp [hk]))⟩, ⟨by (with_reducible repeat (first | apply Kd.R_alloc | apply Kd.R_drewN | apply Kd.R_drew)); exact Kd.R_mono HO_7.out (fun _ hk => by first | exact ⟨hk.1.1, ⟨hk.1.2, hk.2⟩⟩ | (simp only [ne_eq] at hk ⊢; simp [hk]))⟩, ⟨by (with_reducible repeat (first | apply Kd.R_alloc | apply Kd.R_drewN | apply Kd.R_drew)); exact Kd.R_mono HO273.out (fun _ hk => by first | exact ⟨hk.1.1.2, ⟨hk.1.2, hk.2⟩⟩ | (simp only [ne_eq] at hk ⊢; simp [hk]))⟩, ⟨by repeat (first | (with_reducible first | exact HB.out | apply wA | apply wN | apply wD) | exact HB.out)⟩⟩
           ·rw [if_neg c18] at H
            exact absurd H (by simp)
          ·rw [if_neg c17] at H
           have c17b0 : ((t271.length : Int) == 2) = false := beq_eq_false_iff_ne.mpr c17
           have c17b1 : ((t271.length : Int) != 2) = true := bne_iff_ne.mpr c17
           have H' := ak H
           clear H
           try go_wp2
           have n0_ := ak (Kd.R_drew HO_5.out)
           have n1_ := ak (Kd.R_drew HO_6.out)
           have n2_ := ak (Kd.R_drew HO_7.out)
           have n3_ := ak (Kd.R_drew HO273.out)
           have n4_ := ak (wD HB.out)
           clear HO_5 HO_6 HO_7 HO273 HB
           have HO_5 := n0_
           have HO_6 := n1_
           have HO_7 := n2_
           have HO273 := n3_
           have HB := n4_
           clear n0_ n1_ n2_ n3_ n4_
           obtain ⟨Ao27, co27, eo27⟩ := Kd.R_slice HO273.out
           (first | subst eo27 | (injection eo27 with f1_ f2_ f3_; have f4_ := f1_.symm; have f5_ := f3_.symm; clear f1_ f2_ f3_; subst f4_; subst f5_))
           have p274 : 0 ≤ (0 : Int) := (by omega)
           have q274 : 0 < (t271.length : Int) := of_decide_eq_true (by first | (with_reducible assumption) | assumption)
           obtain ⟨ad274, e274, hx274_0⟩ := Kd.at_string (Kd.R_reads' HO273.out).2.2 0 p274 q274
           cases e274
           have qi274 : (0 < t271.length) = True := eq_true (by omega)
           (try rw [show ((0 : Int)).toNat = 0 from rfl] at hx274_0)
           (try rw [Addr.add_zero'] at hx274_0)
           replace p274 := eq_true p274
           replace q274 := eq_true q274
           refine start_ (n := 32) (S := fun w' => w'.cell? ad274 = some (.string (rdOf ByteArray.empty t271 0))) (ds := []) q19_0 (by kernel_rfl) rfl rfl (hx274_0) (fun hHeld => ?_); refine with_tabW mummerref01_ParseList.tab10 mummerref01_ParseList.bits10 (fun HT_ HW_ => ?_)
           generalize w10.drew = w26 at HO_5 HO_6 HO_7 HO273 HB hx274_0 hHeld ⊢
           refine pure_ (i := 0) (N := some 32) (v := ?_) (a' := ?_) q19_1 rfl rfl (any_of HT_.out (by kernel_rfl)) (fun _ _ _ h => h) (Or.inl ⟨by rfl, ?_⟩) ?_ ?_; rotate_left; ·(intro w'; go_simp; with_reducible rfl)
           rotate_left; ·(simp only [Act.put, sA_, s0_, s1_, i64_w, i32_w]; rfl)
           refine pure_ (i := 1) (N := some 33) (v := ?_) (a' := ?_) q19_2 rfl rfl (any_of HT_.out (by kernel_rfl)) (fun _ _ _ h => h) (Or.inl ⟨by rfl, ?_⟩) ?_ ?_; rotate_left; ·(intro w'; go_simp; with_reducible rfl)
           rotate_left; ·(simp only [Act.put, sA_, s0_, s1_, i64_w, i32_w]; rfl)
           refine pure_ (i := 2) (N := some 34) (v := ?_) (a' := ?_) q19_3 rfl rfl (any_of HT_.out (by kernel_rfl)) (fun _ _ _ h => h) (Or.inl ⟨by rfl, ?_⟩) ?_ ?_; rotate_left; ·(intro w'; go_simp; with_reducible rfl)
           rotate_left; ·(simp only [Act.put, sA_, s0_, s1_, i64_w, i32_w]; rfl)
           refine pure_ (i := 3) (N := some 35) (v := ?_) (a' := ?_) q19_4 rfl rfl (any_of HT_.out (by kernel_rfl)) (fun _ _ _ h => h) (Or.inl ⟨by rfl, ?_⟩) ?_ ?_; rotate_left; ·(intro w'; go_simp; with_reducible rfl)
           rotate_left; ·(simp only [Act.put, sA_, s0_, s1_, i64_w, i32_w]; rfl)
           refine pure_ (i := 4) (N := some 36) (v := ?_) (a' := ?_) q19_5 rfl rfl (any_of HT_.out (by kernel_rfl)) (fun _ _ _ h => h) (Or.inl ⟨by rfl, ?_⟩) ?_ ?_; rotate_left; ·(intro w'; go_simp; with_reducible rfl)
           rotate_left; ·(simp only [Act.put, sA_, s0_, s1_, i64_w, i32_w]; rfl)
           refine pure_ (i := 5) (N := some 37) (v := ?_) (a' := ?_) q19_6 rfl rfl (any_of HT_.out (by kernel_rfl)) (fun _ _ _ h => h) (Or.inl ⟨by rfl, ?_⟩) ?_ ?_; rotate_left; ·(intro w'; go_simp; with_reducible rfl)
           rotate_left; ·(simp only [Act.put, sA_, s0_, s1_, i64_w, i32_w]; rfl)
           refine take_ (i := 6) (N := some 38) (v := ?_) (a' := ?_) q19_7 rfl rfl (take_ofW HT_.out HW_.out (by kernel_rfl)) (fun _ _ _ h => h) (Or.inl ⟨by rfl, ?_⟩) hHeld ?_ ?_
           rotate_left
           ·intro w' s0
            go_simp
            with_reducible rfl
           rotate_left
           ·simp only [Act.put, sA_, s0_, s1_, i64_w, i32_w]
            rfl
           refine one_ (i := 7) (N := some 39) q19_8 rfl rfl (one_of HT_.out (by kernel_rfl)) (by decide) (fun K hK => ?_)
           refine goes_ Tryz.func48 (by kernel_rfl) rfl #[.string (rdOf ByteArray.empty t271 0)] (by rfl) rfl rfl (by (try simp only [List.map_toArray, List.map_cons, List.map_nil]); first | done | rfl | (simp only [List.length_drop, List.length_take]; rfl)) ?_
           with_reducible refine (mummerref01_decimal.calls k1 (rdOf ByteArray.empty t271 0) true _ A15.out).mono ?_
           rintro e w' ⟨rfl, ⟨nd, rfl⟩⟩
           refine ⟨_, rfl, ?_⟩
           refine hK.out _ _ (hHeld) (fun hHeld => ?_)
           clear hK K
           refine norm_ (a' := ?_) ?_ ?_
           rotate_left
           ·show Act.put _ (some 39) _ = _
            simp only [Act.put, sA_, s0_, s1_, i64_w, i32_w]
            rfl
           refine pure_ (i := 8) (N := some 40) (v := ?_) (a' := ?_) q19_9 rfl rfl (any_of HT_.out (by kernel_rfl)) (fun _ _ _ h => h) (Or.inl ⟨by rfl, ?_⟩) ?_ ?_; rotate_left; ·(intro w'; go_simp; with_reducible rfl)
           rotate_left; ·(simp only [Act.put, sA_, s0_, s1_, i64_w, i32_w]; rfl)
           refine pure_ (i := 9) (N := some 41) (v := ?_) (a' := ?_) q19_10 rfl rfl (any_of HT_.out (by kernel_rfl)) (fun _ _ _ h => h) (Or.inl ⟨by rfl, ?_⟩) ?_ ?_; rotate_left; ·(intro w'; go_simp; with_reducible rfl)
           rotate_left; ·(simp only [Act.put, sA_, s0_, s1_, i64_w, i32_w]; rfl)
           refine pure_ (i := 10) (N := some 42) (v := ?_) (a' := ?_) q19_11 rfl rfl (any_of HT_.out (by kernel_rfl)) (fun _ _ _ h => h) (Or.inl ⟨by rfl, ?_⟩) ?_ ?_; rotate_left; ·(intro w'; go_simp; with_reducible rfl)
           rotate_left; ·(simp only [Act.put, sA_, s0_, s1_, i64_w, i32_w]; rfl)
           refine pure_ (i := 11) (N := some 43) (v := ?_) (a' := ?_) q19_12 rfl rfl (any_of HT_.out (by kernel_rfl)) (fun _ _ _ h => h) (Or.inl ⟨by rfl, ?_⟩) ?_ ?_; rotate_left; ·(intro w'; go_simp; with_reducible rfl)
           rotate_left; ·(simp only [Act.put, sA_, s0_, s1_, i64_w, i32_w]; rfl)
           refine pure_ (i := 12) (N := some 44) (v := ?_) (a' := ?_) q19_13 rfl rfl (any_of HT_.out (by kernel_rfl)) (fun _ _ _ h => h) (Or.inl ⟨by rfl, ?_⟩) ?_ ?_; rotate_left; ·(intro w'; go_simp; with_reducible rfl)
           rotate_left; ·(simp only [Act.put, sA_, s0_, s1_, i64_w, i32_w]; rfl)
           refine pure_ (i := 13) (N := some 45) (v := ?_) (a' := ?_) q19_14 rfl rfl (any_of HT_.out (by kernel_rfl)) (fun _ _ _ h => h) (Or.inl ⟨by rfl, ?_⟩) ?_ ?_; rotate_left; ·(intro w'; go_simp; with_reducible rfl)
           rotate_left; ·(simp only [Act.put, sA_, s0_, s1_, i64_w, i32_w]; rfl)
           refine pure_ (i := 14) (N := some 46) (v := ?_) (a' := ?_) q19_15 rfl rfl (any_of HT_.out (by kernel_rfl)) (fun _ _ _ h => h) (Or.inl ⟨by rfl, ?_⟩) ?_ ?_; rotate_left; ·(intro w'; go_simp; with_reducible rfl)
           rotate_left; ·(simp only [Act.put, sA_, s0_, s1_, i64_w, i32_w]; rfl)
           refine pure_ (i := 15) (N := some 47) (v := undef) (a' := ?_) q19_16 rfl rfl (any_of HT_.out (by kernel_rfl)) (fun _ _ _ h => h) (Or.inr ⟨by rfl, rfl⟩) ?_ ?_
           rotate_left
           ·simp only [Act.put, sA_, s0_, s1_, i64_w, i32_w]
            rfl
           refine pure_ (i := 16) (N := some 48) (v := undef) (a' := ?_) q19_17 rfl rfl (any_of HT_.out (by kernel_rfl)) (fun _ _ _ h => h) (Or.inr ⟨by rfl, rfl⟩) ?_ ?_
           rotate_left
           ·simp only [Act.put, sA_, s0_, s1_, i64_w, i32_w]
            rfl
           refine pure_ (i := 17) (N := some 49) (v := undef) (a' := ?_) q19_18 rfl rfl (any_of HT_.out (by kernel_rfl)) (fun _ _ _ h => h) (Or.inr ⟨by rfl, rfl⟩) ?_ ?_
           rotate_left
           ·simp only [Act.put, sA_, s0_, s1_, i64_w, i32_w]
            rfl
           refine pure_ (i := 18) (N := some 50) (v := undef) (a' := ?_) q19_19 rfl rfl (any_of HT_.out (by kernel_rfl)) (fun _ _ _ h => h) (Or.inr ⟨by rfl, rfl⟩) ?_ ?_
           rotate_left
           ·simp only [Act.put, sA_, s0_, s1_, i64_w, i32_w]
            rfl
           refine pure_ (i := 19) (N := some 51) (v := undef) (a' := ?_) q19_20 rfl rfl (any_of HT_.out (by kernel_rfl)) (fun _ _ _ h => h) (Or.inr ⟨by rfl, rfl⟩) ?_ ?_
           rotate_left
           ·simp only [Act.put, sA_, s0_, s1_, i64_w, i32_w]
            rfl
           refine pure_ (i := 20) (N := some 52) (v := undef) (a' := ?_) q19_21 rfl rfl (any_of HT_.out (by kernel_rfl)) (fun _ _ _ h => h) (Or.inr ⟨by rfl, rfl⟩) ?_ ?_
           rotate_left
           ·simp only [Act.put, sA_, s0_, s1_, i64_w, i32_w]
            rfl
           refine pure_ (i := 21) (N := some 53) (v := undef) (a' := ?_) q19_22 rfl rfl (any_of HT_.out (by kernel_rfl)) (fun _ _ _ h => h) (Or.inr ⟨by rfl, rfl⟩) ?_ ?_
           rotate_left
           ·simp only [Act.put, sA_, s0_, s1_, i64_w, i32_w]
            rfl
           refine pure_ (i := 22) (N := some 54) (v := undef) (a' := ?_) q19_23 rfl rfl (any_of HT_.out (by kernel_rfl)) (fun _ _ _ h => h) (Or.inr ⟨by rfl, rfl⟩) ?_ ?_
           rotate_left
           ·simp only [Act.put, sA_, s0_, s1_, i64_w, i32_w]
            rfl
           refine pure_ (i := 23) (N := some 55) (v := undef) (a' := ?_) q19_24 rfl rfl (any_of HT_.out (by kernel_rfl)) (fun _ _ _ h => h) (Or.inr ⟨by rfl, rfl⟩) ?_ ?_
           rotate_left
           ·simp only [Act.put, sA_, s0_, s1_, i64_w, i32_w]
            rfl
           refine pure_ (i := 24) (N := some 56) (v := undef) (a' := ?_) q19_25 rfl rfl (any_of HT_.out (by kernel_rfl)) (fun _ _ _ h => h) (Or.inr ⟨by rfl, rfl⟩) ?_ ?_
           rotate_left
           ·simp only [Act.put, sA_, s0_, s1_, i64_w, i32_w]
            rfl
           refine pure_ (i := 25) (N := some 57) (v := undef) (a' := ?_) q19_26 rfl rfl (any_of HT_.out (by kernel_rfl)) (fun _ _ _ h => h) (Or.inr ⟨by rfl, rfl⟩) ?_ ?_
           rotate_left
           ·simp only [Act.put, sA_, s0_, s1_, i64_w, i32_w]
            rfl
           refine pure_ (i := 26) (N := some 58) (v := undef) (a' := ?_) q19_27 rfl rfl (any_of HT_.out (by kernel_rfl)) (fun _ _ _ h => h) (Or.inr ⟨by rfl, rfl⟩) ?_ ?_
           rotate_left
           ·simp only [Act.put, sA_, s0_, s1_, i64_w, i32_w]
            rfl
           refine pure_ (i := 27) (N := some 59) (v := undef) (a' := ?_) q19_28 rfl rfl (any_of HT_.out (by kernel_rfl)) (fun _ _ _ h => h) (Or.inr ⟨by rfl, rfl⟩) ?_ ?_
           rotate_left
           ·simp only [Act.put, sA_, s0_, s1_, i64_w, i32_w]
            rfl
           refine pure_ (i := 28) (N := some 60) (v := undef) (a' := ?_) q19_29 rfl rfl (any_of HT_.out (by kernel_rfl)) (fun _ _ _ h => h) (Or.inr ⟨by rfl, rfl⟩) ?_ ?_
           rotate_left
           ·simp only [Act.put, sA_, s0_, s1_, i64_w, i32_w]
            rfl
           refine pure_ (i := 29) (N := some 61) (v := undef) (a' := ?_) q19_30 rfl rfl (any_of HT_.out (by kernel_rfl)) (fun _ _ _ h => h) (Or.inr ⟨by rfl, rfl⟩) ?_ ?_
           rotate_left
           ·simp only [Act.put, sA_, s0_, s1_, i64_w, i32_w]
            rfl
           refine pure_ (i := 30) (N := some 62) (v := ?_) (a' := ?_) q19_31 rfl rfl (any_of HT_.out (by kernel_rfl)) (fun _ _ _ h => h) (Or.inl ⟨by rfl, ?_⟩) ?_ ?_; rotate_left; ·(intro w'; go_simp; with_reducible rfl)
           rotate_left; ·(simp only [Act.put, sA_, s0_, s1_, i64_w, i32_w]; rfl)
           refine pure_ (i := 31) (N := some 63) (v := ?_) (a' := ?_) q19_32 rfl rfl (any_of HT_.out (by kernel_rfl)) (fun _ _ _ h => h) (Or.inl ⟨by rfl, ?_⟩) ?_ ?_; rotate_left; ·(intro w'; go_simp; with_reducible rfl)
           rotate_left; ·(simp only [Act.put, sA_, s0_, s1_, i64_w, i32_w]; rfl)
           refine done_ (done_of HT_.out (by kernel_rfl)) ?_
           try go_wp2
           go_meet
           case rel => exact ⟨_, (false), (by first | rfl | (simp; done) | (simp [*]; done)), H', ⟨by have := HK1.out; first | omega | exact Nat.le_refl _⟩, ⟨by (with_reducible repeat (first | apply Kd.R_alloc | apply Kd.R_drewN | apply Kd.R_drew)); exact Kd.R_mono HO_5.out (fun _ hk => by first | exact ⟨hk.1.1, ⟨hk.1.2, hk.2⟩⟩ | (simp only [ne_eq] at hk ⊢; simp [hk]))⟩, ⟨by (with_reducible repeat (first | apply Kd.R_alloc | apply Kd.R_drewN | apply Kd.R_drew)); exact Kd.R_mono HO_6.out (fun _ hk => by first | exact ⟨hk.1.1, ⟨hk.1.2, hk.2⟩⟩ | (simp only [ne_eq] at hk ⊢; simp [hk]))⟩, ⟨by (with_reducible repeat (first | apply Kd.R_alloc | apply Kd.R_drewN | apply Kd.R_drew)); exact Kd.R_mono HO_7.out (fun _ hk => by first | exact ⟨hk.1.1, ⟨hk.1.2, hk.2⟩⟩ | (simp only [ne_eq] at hk ⊢; simp [hk]))⟩, ⟨by (with_reducible repeat (first | apply Kd.R_alloc | apply Kd.R_drewN | apply Kd.R_drew)); exact Kd.R_mono HO273.out (fun _ hk => by first | exact ⟨hk.1.1.2, ⟨hk.1.2, hk.2⟩⟩ | (simp only [ne_eq] at hk ⊢; simp [hk]))⟩, ⟨by repeat (first | (with_reducible first | exact HB.out | apply wA | apply wN | apply wD) | exact HB.out)⟩⟩
         ·replace c16 := Bool.eq_false_iff.mpr c16
          subst c16
          have H1 : (mummerref01_ParseList.j1 k1 x4_1 x5_1 x6_1 t267 x8_1 t271 true) = some (r1, r2) := by rw [if_neg (show ¬ (false = true) by decide)] at H; exact H
          clear H
          have H := H1
          clear H1
          have H' := ak H
          clear H
          try go_wp2
          have n0_ := ak (Kd.R_drew HO_5.out)
          have n1_ := ak (Kd.R_drew HO_6.out)
          have n2_ := ak (Kd.R_drew HO_7.out)
          have n3_ := ak (Kd.R_drew HO273.out)
          have n4_ := ak (wD HB.out)
          clear HO_5 HO_6 HO_7 HO273 HB
          have HO_5 := n0_
          have HO_6 := n1_
          have HO_7 := n2_
          have HO273 := n3_
          have HB := n4_
          clear n0_ n1_ n2_ n3_ n4_
          obtain ⟨Ao29, co29, eo29⟩ := Kd.R_slice HO273.out
          (first | subst eo29 | (injection eo29 with f1_ f2_ f3_; have f4_ := f1_.symm; have f5_ := f3_.symm; clear f1_ f2_ f3_; subst f4_; subst f5_))
          have p274 : 0 ≤ (0 : Int) := (by omega)
          have q274 : 0 < (t271.length : Int) := of_decide_eq_true (by first | (with_reducible assumption) | assumption)
          obtain ⟨ad274, e274, hx274_0⟩ := Kd.at_string (Kd.R_reads' HO273.out).2.2 0 p274 q274
          cases e274
          have qi274 : (0 < t271.length) = True := eq_true (by omega)
          (try rw [show ((0 : Int)).toNat = 0 from rfl] at hx274_0)
          (try rw [Addr.add_zero'] at hx274_0)
          replace p274 := eq_true p274
          replace q274 := eq_true q274
          refine start_ (n := 32) (S := fun w' => w'.cell? ad274 = some (.string (rdOf ByteArray.empty t271 0))) (ds := []) q19_0 (by kernel_rfl) rfl rfl (hx274_0) (fun hHeld => ?_); refine with_tabW mummerref01_ParseList.tab10 mummerref01_ParseList.bits10 (fun HT_ HW_ => ?_)
          generalize w10.drew = w28 at HO_5 HO_6 HO_7 HO273 HB hx274_0 hHeld ⊢
          refine pure_ (i := 0) (N := some 32) (v := ?_) (a' := ?_) q19_1 rfl rfl (any_of HT_.out (by kernel_rfl)) (fun _ _ _ h => h) (Or.inl ⟨by rfl, ?_⟩) ?_ ?_; rotate_left; ·(intro w'; go_simp; with_reducible rfl)
          rotate_left; ·(simp only [Act.put, sA_, s0_, s1_, i64_w, i32_w]; rfl)
          refine pure_ (i := 1) (N := some 33) (v := ?_) (a' := ?_) q19_2 rfl rfl (any_of HT_.out (by kernel_rfl)) (fun _ _ _ h => h) (Or.inl ⟨by rfl, ?_⟩) ?_ ?_; rotate_left; ·(intro w'; go_simp; with_reducible rfl)
          rotate_left; ·(simp only [Act.put, sA_, s0_, s1_, i64_w, i32_w]; rfl)
          refine pure_ (i := 2) (N := some 34) (v := ?_) (a' := ?_) q19_3 rfl rfl (any_of HT_.out (by kernel_rfl)) (fun _ _ _ h => h) (Or.inl ⟨by rfl, ?_⟩) ?_ ?_; rotate_left; ·(intro w'; go_simp; with_reducible rfl)
          rotate_left; ·(simp only [Act.put, sA_, s0_, s1_, i64_w, i32_w]; rfl)
          refine pure_ (i := 3) (N := some 35) (v := ?_) (a' := ?_) q19_4 rfl rfl (any_of HT_.out (by kernel_rfl)) (fun _ _ _ h => h) (Or.inl ⟨by rfl, ?_⟩) ?_ ?_; rotate_left; ·(intro w'; go_simp; with_reducible rfl)
          rotate_left; ·(simp only [Act.put, sA_, s0_, s1_, i64_w, i32_w]; rfl)
          refine pure_ (i := 4) (N := some 36) (v := ?_) (a' := ?_) q19_5 rfl rfl (any_of HT_.out (by kernel_rfl)) (fun _ _ _ h => h) (Or.inl ⟨by rfl, ?_⟩) ?_ ?_; rotate_left; ·(intro w'; go_simp; with_reducible rfl)
          rotate_left; ·(simp only [Act.put, sA_, s0_, s1_, i64_w, i32_w]; rfl)
          refine pure_ (i := 5) (N := some 37) (v := ?_) (a' := ?_) q19_6 rfl rfl (any_of HT_.out (by kernel_rfl)) (fun _ _ _ h => h) (Or.inl ⟨by rfl, ?_⟩) ?_ ?_; rotate_left; ·(intro w'; go_simp; with_reducible rfl)
          rotate_left; ·(simp only [Act.put, sA_, s0_, s1_, i64_w, i32_w]; rfl)
          refine take_ (i := 6) (N := some 38) (v := ?_) (a' := ?_) q19_7 rfl rfl (take_ofW HT_.out HW_.out (by kernel_rfl)) (fun _ _ _ h => h) (Or.inl ⟨by rfl, ?_⟩) hHeld ?_ ?_
          rotate_left
          ·intro w' s0
           go_simp
           with_reducible rfl
          rotate_left
          ·simp only [Act.put, sA_, s0_, s1_, i64_w, i32_w]
           rfl
          refine one_ (i := 7) (N := some 39) q19_8 rfl rfl (one_of HT_.out (by kernel_rfl)) (by decide) (fun K hK => ?_)
          refine goes_ Tryz.func48 (by kernel_rfl) rfl #[.string (rdOf ByteArray.empty t271 0)] (by rfl) rfl rfl (by (try simp only [List.map_toArray, List.map_cons, List.map_nil]); first | done | rfl | (simp only [List.length_drop, List.length_take]; rfl)) ?_
          with_reducible refine (mummerref01_decimal.calls k1 (rdOf ByteArray.empty t271 0) false _ A15.out).mono ?_
          rintro e w' ⟨rfl, ⟨nd, rfl⟩⟩
          refine ⟨_, rfl, ?_⟩
          refine hK.out _ _ (hHeld) (fun hHeld => ?_)
          clear hK K
          refine norm_ (a' := ?_) ?_ ?_
          rotate_left
          ·show Act.put _ (some 39) _ = _
           simp only [Act.put, sA_, s0_, s1_, i64_w, i32_w]
           rfl
          refine pure_ (i := 8) (N := some 40) (v := ?_) (a' := ?_) q19_9 rfl rfl (any_of HT_.out (by kernel_rfl)) (fun _ _ _ h => h) (Or.inl ⟨by rfl, ?_⟩) ?_ ?_; rotate_left; ·(intro w'; go_simp; with_reducible rfl)
          rotate_left; ·(simp only [Act.put, sA_, s0_, s1_, i64_w, i32_w]; rfl)
          refine pure_ (i := 9) (N := some 41) (v := ?_) (a' := ?_) q19_10 rfl rfl (any_of HT_.out (by kernel_rfl)) (fun _ _ _ h => h) (Or.inl ⟨by rfl, ?_⟩) ?_ ?_; rotate_left; ·(intro w'; go_simp; with_reducible rfl)
          rotate_left; ·(simp only [Act.put, sA_, s0_, s1_, i64_w, i32_w]; rfl)
          refine pure_ (i := 10) (N := some 42) (v := ?_) (a' := ?_) q19_11 rfl rfl (any_of HT_.out (by kernel_rfl)) (fun _ _ _ h => h) (Or.inl ⟨by rfl, ?_⟩) ?_ ?_; rotate_left; ·(intro w'; go_simp; with_reducible rfl)
          rotate_left; ·(simp only [Act.put, sA_, s0_, s1_, i64_w, i32_w]; rfl)
          refine pure_ (i := 11) (N := some 43) (v := undef) (a' := ?_) q19_12 rfl rfl (any_of HT_.out (by kernel_rfl)) (fun _ _ _ h => h) (Or.inr ⟨by rfl, rfl⟩) ?_ ?_
          rotate_left
          ·simp only [Act.put, sA_, s0_, s1_, i64_w, i32_w]
           rfl
          refine pure_ (i := 12) (N := some 44) (v := undef) (a' := ?_) q19_13 rfl rfl (any_of HT_.out (by kernel_rfl)) (fun _ _ _ h => h) (Or.inr ⟨by rfl, rfl⟩) ?_ ?_
          rotate_left
          ·simp only [Act.put, sA_, s0_, s1_, i64_w, i32_w]
           rfl
          refine pure_ (i := 13) (N := some 45) (v := undef) (a' := ?_) q19_14 rfl rfl (any_of HT_.out (by kernel_rfl)) (fun _ _ _ h => h) (Or.inr ⟨by rfl, rfl⟩) ?_ ?_
          rotate_left
          ·simp only [Act.put, sA_, s0_, s1_, i64_w, i32_w]
           rfl
          refine pure_ (i := 14) (N := some 46) (v := undef) (a' := ?_) q19_15 rfl rfl (any_of HT_.out (by kernel_rfl)) (fun _ _ _ h => h) (Or.inr ⟨by rfl, rfl⟩) ?_ ?_
          rotate_left
          ·simp only [Act.put, sA_, s0_, s1_, i64_w, i32_w]
           rfl
          refine pure_ (i := 15) (N := some 47) (v := undef) (a' := ?_) q19_16 rfl rfl (any_of HT_.out (by kernel_rfl)) (fun _ _ _ h => h) (Or.inr ⟨by rfl, rfl⟩) ?_ ?_
          rotate_left
          ·simp only [Act.put, sA_, s0_, s1_, i64_w, i32_w]
           rfl
          refine pure_ (i := 16) (N := some 48) (v := undef) (a' := ?_) q19_17 rfl rfl (any_of HT_.out (by kernel_rfl)) (fun _ _ _ h => h) (Or.inr ⟨by rfl, rfl⟩) ?_ ?_
          rotate_left
          ·simp only [Act.put, sA_, s0_, s1_, i64_w, i32_w]
           rfl
          refine pure_ (i := 17) (N := some 49) (v := undef) (a' := ?_) q19_18 rfl rfl (any_of HT_.out (by kernel_rfl)) (fun _ _ _ h => h) (Or.inr ⟨by rfl, rfl⟩) ?_ ?_
          rotate_left
          ·simp only [Act.put, sA_, s0_, s1_, i64_w, i32_w]
           rfl
          refine pure_ (i := 18) (N := some 50) (v := undef) (a' := ?_) q19_19 rfl rfl (any_of HT_.out (by kernel_rfl)) (fun _ _ _ h => h) (Or.inr ⟨by rfl, rfl⟩) ?_ ?_
          rotate_left
          ·simp only [Act.put, sA_, s0_, s1_, i64_w, i32_w]
           rfl
          refine pure_ (i := 19) (N := some 51) (v := undef) (a' := ?_) q19_20 rfl rfl (any_of HT_.out (by kernel_rfl)) (fun _ _ _ h => h) (Or.inr ⟨by rfl, rfl⟩) ?_ ?_
          rotate_left
          ·simp only [Act.put, sA_, s0_, s1_, i64_w, i32_w]
           rfl
          refine pure_ (i := 20) (N := some 52) (v := undef) (a' := ?_) q19_21 rfl rfl (any_of HT_.out (by kernel_rfl)) (fun _ _ _ h => h) (Or.inr ⟨by rfl, rfl⟩) ?_ ?_
          rotate_left
          ·simp only [Act.put, sA_, s0_, s1_, i64_w, i32_w]
           rfl
          refine pure_ (i := 21) (N := some 53) (v := undef) (a' := ?_) q19_22 rfl rfl (any_of HT_.out (by kernel_rfl)) (fun _ _ _ h => h) (Or.inr ⟨by rfl, rfl⟩) ?_ ?_
          rotate_left
          ·simp only [Act.put, sA_, s0_, s1_, i64_w, i32_w]
           rfl
          refine pure_ (i := 22) (N := some 54) (v := undef) (a' := ?_) q19_23 rfl rfl (any_of HT_.out (by kernel_rfl)) (fun _ _ _ h => h) (Or.inr ⟨by rfl, rfl⟩) ?_ ?_
          rotate_left
          ·simp only [Act.put, sA_, s0_, s1_, i64_w, i32_w]
           rfl
          refine pure_ (i := 23) (N := some 55) (v := undef) (a' := ?_) q19_24 rfl rfl (any_of HT_.out (by kernel_rfl)) (fun _ _ _ h => h) (Or.inr ⟨by rfl, rfl⟩) ?_ ?_
          rotate_left
          ·simp only [Act.put, sA_, s0_, s1_, i64_w, i32_w]
           rfl
          refine pure_ (i := 24) (N := some 56) (v := undef) (a' := ?_) q19_25 rfl rfl (any_of HT_.out (by kernel_rfl)) (fun _ _ _ h => h) (Or.inr ⟨by rfl, rfl⟩) ?_ ?_
          rotate_left
          ·simp only [Act.put, sA_, s0_, s1_, i64_w, i32_w]
           rfl
          refine pure_ (i := 25) (N := some 57) (v := undef) (a' := ?_) q19_26 rfl rfl (any_of HT_.out (by kernel_rfl)) (fun _ _ _ h => h) (Or.inr ⟨by rfl, rfl⟩) ?_ ?_
          rotate_left
          ·simp only [Act.put, sA_, s0_, s1_, i64_w, i32_w]
           rfl
          refine pure_ (i := 26) (N := some 58) (v := undef) (a' := ?_) q19_27 rfl rfl (any_of HT_.out (by kernel_rfl)) (fun _ _ _ h => h) (Or.inr ⟨by rfl, rfl⟩) ?_ ?_
          rotate_left
          ·simp only [Act.put, sA_, s0_, s1_, i64_w, i32_w]
           rfl
          refine pure_ (i := 27) (N := some 59) (v := undef) (a' := ?_) q19_28 rfl rfl (any_of HT_.out (by kernel_rfl)) (fun _ _ _ h => h) (Or.inr ⟨by rfl, rfl⟩) ?_ ?_
          rotate_left
          ·simp only [Act.put, sA_, s0_, s1_, i64_w, i32_w]
           rfl
          refine pure_ (i := 28) (N := some 60) (v := undef) (a' := ?_) q19_29 rfl rfl (any_of HT_.out (by kernel_rfl)) (fun _ _ _ h => h) (Or.inr ⟨by rfl, rfl⟩) ?_ ?_
          rotate_left
          ·simp only [Act.put, sA_, s0_, s1_, i64_w, i32_w]
           rfl
          refine pure_ (i := 29) (N := some 61) (v := undef) (a' := ?_) q19_30 rfl rfl (any_of HT_.out (by kernel_rfl)) (fun _ _ _ h => h) (Or.inr ⟨by rfl, rfl⟩) ?_ ?_
          rotate_left
          ·simp only [Act.put, sA_, s0_, s1_, i64_w, i32_w]
           rfl
          refine pure_ (i := 30) (N := some 62) (v := undef) (a' := ?_) q19_31 rfl rfl (any_of HT_.out (by kernel_rfl)) (fun _ _ _ h => h) (Or.inr ⟨by rfl, rfl⟩) ?_ ?_
          rotate_left
          ·simp only [Act.put, sA_, s0_, s1_, i64_w, i32_w]
           rfl
          refine pure_ (i := 31) (N := some 63) (v := ?_) (a' := ?_) q19_32 rfl rfl (any_of HT_.out (by kernel_rfl)) (fun _ _ _ h => h) (Or.inl ⟨by rfl, ?_⟩) ?_ ?_; rotate_left; ·(intro w'; go_simp; with_reducible rfl)
          rotate_left; ·(simp only [Act.put, sA_, s0_, s1_, i64_w, i32_w]; rfl)
          refine done_ (done_of HT_.out (by kernel_rfl)) ?_
          try go_wp2
          go_meet
          case rel => exact ⟨_, (true), (by first | rfl | (simp; done) | (simp [*]; done)), H', ⟨by have := HK1.out; first | omega | exact Nat.le_refl _⟩, ⟨by (with_reducible repeat (first | apply Kd.R_alloc | apply Kd.R_drewN | apply Kd.R_drew)); exact Kd.R_mono HO_5.out (fun _ hk => by first | exact ⟨hk.1.1, ⟨hk.1.2, hk.2⟩⟩ | (simp only [ne_eq] at hk ⊢; simp [hk]))⟩, ⟨by (with_reducible repeat (first | apply Kd.R_alloc | apply Kd.R_drewN | apply Kd.R_drew)); exact Kd.R_mono HO_6.out (fun _ hk => by first | exact ⟨hk.1.1, ⟨hk.1.2, hk.2⟩⟩ | (simp only [ne_eq] at hk ⊢; simp [hk]))⟩, ⟨by (with_reducible repeat (first | apply Kd.R_alloc | apply Kd.R_drewN | apply Kd.R_drew)); exact Kd.R_mono HO_7.out (fun _ hk => by first | exact ⟨hk.1.1, ⟨hk.1.2, hk.2⟩⟩ | (simp only [ne_eq] at hk ⊢; simp [hk]))⟩, ⟨by (with_reducible repeat (first | apply Kd.R_alloc | apply Kd.R_drewN | apply Kd.R_drew)); exact Kd.R_mono HO273.out (fun _ hk => by first | exact ⟨hk.1.1.2, ⟨hk.1.2, hk.2⟩⟩ | (simp only [ne_eq] at hk ⊢; simp [hk]))⟩, ⟨by repeat (first | (with_reducible first | exact HB.out | apply wA | apply wN | apply wD) | exact HB.out)⟩⟩
        ·rw [if_neg c14] at H
         exact absurd H (by simp)
      case rest =>
       clear HC8
       try clear c1
       try clear p2
       try clear q2
       try clear hx2
       try clear qi2
       try clear c4
       try clear c14
       try clear c16
       try clear c17
       try clear c17b0
       try clear c17b1
       try clear c18
       try clear p27
       try clear q27
       try clear hx27
       try clear qi27
       try clear hx274_0
       try clear p274
       try clear q274
       obtain ⟨kq, x63_7, rfl, HA, HJ7, HO_5, HO_6, HO_7, HO_9, HB⟩ := hcut
       cases kq with
       | zero => exact absurd HA.out (by simp [mummerref01_ParseList.j1])
       | succ kj7 =>
        have H := HA.out
        clear HA
        simp only [mummerref01_ParseList.j1] at H
        by_cases c30 : x63_7 = true
        ·subst c30
         have H1 : (some (([] : List Int), 6)) = some (r1, r2) := by rw [if_pos rfl] at H; exact H
         clear H
         have H := H1
         clear H1
         simp only [Option.some.injEq, Prod.mk.injEq] at H
         obtain ⟨rfl, rfl⟩ := H
         go_wp2
         go_ret2
         exact ⟨_, by first | rfl | (simp [errW_none, errW_some] <;> rfl) | (simp [*, errW_none, errW_some] <;> rfl), by first | exact Kd.R_nil _ _ _ _ _ | exact Kd.N_nil _ _ _ _ _ | exact Kd.V_nil _ _ _ _ _ | exact Kd.Q_nil _ _ _ _ _ | exact Kd.S_nil _ _ _ _ _, by repeat (first | (with_reducible first | exact HB.out | apply wA | apply wN | apply wD) | exact HB.out)⟩
        ·replace c30 := Bool.eq_false_iff.mpr c30
         subst c30
         have H1 : (if x8_1 > 0 then ((mummerref01_next.f kj7 x4_1).bind fun t281 => (if 0 < (t271.length : Int) then ((mummerref01_less.f t281 (rdOf ByteArray.empty t271 0)).bind fun t283 => (if t283 = true then (if 0 ≤ (wrap64 ((t271.length : Int) - 1)) then (if (wrap64 ((t271.length : Int) - 1)) < (t271.length : Int) then (if x5_1.length < 8796093022208 then (if x6_1.length < 8796093022208 then (mummerref01_ParseList.l0 kj7 (rdOf ByteArray.empty t271 (wrap64 ((t271.length : Int) - 1))) (x5_1 ++ [rdOf ByteArray.empty t271 0]) (x6_1 ++ [rdOf ByteArray.empty t271 (wrap64 ((t271.length : Int) - 1))]) t267 (wrap64 (x8_1 + 1))) else (none)) else (none)) else (none)) else (none)) else (some (([] : List Int), 6)))) else (none))) else (if 0 ≤ (wrap64 ((t271.length : Int) - 1)) then (if (wrap64 ((t271.length : Int) - 1)) < (t271.length : Int) then (if 0 < (t271.length : Int) then (if x5_1.length < 8796093022208 then (if x6_1.length < 8796093022208 then (mummerref01_ParseList.l0 kj7 (rdOf ByteArray.empty t271 (wrap64 ((t271.length : Int) - 1))) (x5_1 ++ [rdOf ByteArray.empty t271 0]) (x6_1 ++ [rdOf ByteArray.empty t271 (wrap64 ((t271.length : Int) - 1))]) t267 (wrap64 (x8_1 + 1))) else (none)) else (none)) else (none)) else (none)) else (none))) = some (r1, r2) := by rw [if_neg (show ¬ (false = true) by decide)] at H; exact H
         clear H
         have H := H1
         clear H1
         by_cases c31 : x8_1 > 0
         ·rw [if_pos c31] at H
          have c31b0 : decide (0 < x8_1) = true := decide_eq_true c31
          clear c31
          replace H := Option.bind_eq_some_iff.mp H
          obtain ⟨t281, A320, H⟩ := H
          replace H : (if 0 < (t271.length : Int) then ((mummerref01_less.f t281 (rdOf ByteArray.empty t271 0)).bind fun t283 => (if t283 = true then (if 0 ≤ (wrap64 ((t271.length : Int) - 1)) then (if (wrap64 ((t271.length : Int) - 1)) < (t271.length : Int) then (if x5_1.length < 8796093022208 then (if x6_1.length < 8796093022208 then (mummerref01_ParseList.l0 kj7 (rdOf ByteArray.empty t271 (wrap64 ((t271.length : Int) - 1))) (x5_1 ++ [rdOf ByteArray.empty t271 0]) (x6_1 ++ [rdOf ByteArray.empty t271 (wrap64 ((t271.length : Int) - 1))]) t267 (wrap64 (x8_1 + 1))) else (none)) else (none)) else (none)) else (none)) else (some (([] : List Int), 6)))) else (none)) = some (r1, r2) := H
          have A32 := ak A320
          clear A320
          by_cases c33 : 0 < (t271.length : Int)
          ·rw [if_pos c33] at H
           have c33b0 : decide (0 < (t271.length : Int)) = true := decide_eq_true c33
           have c33b1 : decide (0 < t271.length) = true := decide_eq_true (by omega)
           clear c33
           replace H := Option.bind_eq_some_iff.mp H
           obtain ⟨t283, A340, H⟩ := H
           replace H : (if t283 = true then (if 0 ≤ (wrap64 ((t271.length : Int) - 1)) then (if (wrap64 ((t271.length : Int) - 1)) < (t271.length : Int) then (if x5_1.length < 8796093022208 then (if x6_1.length < 8796093022208 then (mummerref01_ParseList.l0 kj7 (rdOf ByteArray.empty t271 (wrap64 ((t271.length : Int) - 1))) (x5_1 ++ [rdOf ByteArray.empty t271 0]) (x6_1 ++ [rdOf ByteArray.empty t271 (wrap64 ((t271.length : Int) - 1))]) t267 (wrap64 (x8_1 + 1))) else (none)) else (none)) else (none)) else (none)) else (some (([] : List Int), 6))) = some (r1, r2) := H
           have A34 := ak A340
           clear A340
           by_cases c35 : t283 = true
           ·subst c35
            have H1 : (if 0 ≤ (wrap64 ((t271.length : Int) - 1)) then (if (wrap64 ((t271.length : Int) - 1)) < (t271.length : Int) then (if x5_1.length < 8796093022208 then (if x6_1.length < 8796093022208 then (mummerref01_ParseList.l0 kj7 (rdOf ByteArray.empty t271 (wrap64 ((t271.length : Int) - 1))) (x5_1 ++ [rdOf ByteArray.empty t271 0]) (x6_1 ++ [rdOf ByteArray.empty t271 (wrap64 ((t271.length : Int) - 1))]) t267 (wrap64 (x8_1 + 1))) else (none)) else (none)) else (none)) else (none)) = some (r1, r2) := by rw [if_pos rfl] at H; exact H
            clear H
            have H := H1
            clear H1
            obtain ⟨ji36, hji36⟩ : ∃ j_ : Int, (wrap64 ((t271.length : Int) - 1)) = j_ := ⟨_, rfl⟩
            replace H : (if 0 ≤ (ji36) then (if (ji36) < (t271.length : Int) then (if x5_1.length < 8796093022208 then (if x6_1.length < 8796093022208 then (mummerref01_ParseList.l0 kj7 (rdOf ByteArray.empty t271 (ji36)) (x5_1 ++ [rdOf ByteArray.empty t271 0]) (x6_1 ++ [rdOf ByteArray.empty t271 (ji36)]) t267 (wrap64 (x8_1 + 1))) else (none)) else (none)) else (none)) else (none)) = some (r1, r2) := by first | (rw [hji36] at H; exact H) | (simp only [hji36] at H ⊢; exact H)
            (try rw [hji36] at A32)
            (try rw [hji36] at A34)
            have hji36w : (IntKind.i64.wrap ((t271.length : Int) - 1)) = ji36 := (i64_w _).trans hji36
            by_cases c37 : 0 ≤ (ji36)
            ·rw [if_pos c37] at H
             have c37b0 : decide (0 ≤ (ji36)) = true := decide_eq_true c37
             clear c37
             by_cases c38 : (ji36) < (t271.length : Int)
             ·rw [if_pos c38] at H
              have c38b0 : decide ((ji36) < (t271.length : Int)) = true := decide_eq_true c38
              clear c38
              by_cases c39 : x5_1.length < 8796093022208
              ·rw [if_pos c39] at H
               have LMc39 := ak c39
               clear c39
               obtain ⟨y286, hy286⟩ : ∃ y_ : List ByteArray, y_ = (x5_1 ++ [rdOf ByteArray.empty t271 0]) := ⟨_, rfl⟩
               replace H : (if x6_1.length < 8796093022208 then (mummerref01_ParseList.l0 kj7 (rdOf ByteArray.empty t271 (ji36)) y286 (x6_1 ++ [rdOf ByteArray.empty t271 (ji36)]) t267 (wrap64 (x8_1 + 1))) else (none)) = some (r1, r2) := by first | (rw [hy286]; with_reducible exact H) | (have H2_ := (Option.bind_some _ _).symm.trans H; rw [hy286]; with_reducible exact H2_) | (have H2_ := (Option.bind_some _ _).symm.trans H; with_reducible exact H2_) | with_reducible exact H | (rw [hy286]; exact H) | exact H
               have Ny286 := ak hy286
               clear hy286
               by_cases c40 : x6_1.length < 8796093022208
               ·rw [if_pos c40] at H
                have LMc40 := ak c40
                clear c40
                obtain ⟨y289, hy289⟩ : ∃ y_ : List ByteArray, y_ = (x6_1 ++ [rdOf ByteArray.empty t271 (ji36)]) := ⟨_, rfl⟩
                replace H : (mummerref01_ParseList.l0 kj7 (rdOf ByteArray.empty t271 (ji36)) y286 y289 t267 (wrap64 (x8_1 + 1))) = some (r1, r2) := by first | (rw [hy289]; with_reducible exact H) | (have H2_ := (Option.bind_some _ _).symm.trans H; rw [hy289]; with_reducible exact H2_) | (have H2_ := (Option.bind_some _ _).symm.trans H; with_reducible exact H2_) | with_reducible exact H | (rw [hy289]; exact H) | exact H
                have Ny289 := ak hy289
                clear hy289
                have H' := ak H
                clear H
                try go_wp2
                have n0_ := ak (Kd.R_drew HO_5.out)
                have n1_ := ak (Kd.R_drew HO_6.out)
                have n2_ := ak (Kd.R_drew HO_7.out)
                have n3_ := ak (Kd.R_drew HO_9.out)
                have n4_ := ak (wD HB.out)
                clear HO_5 HO_6 HO_7 HO_9 HB
                have HO_5 := n0_
                have HO_6 := n1_
                have HO_7 := n2_
                have HO_9 := n3_
                have HB := n4_
                clear n0_ n1_ n2_ n3_ n4_
                obtain ⟨Ao42, co42, eo42⟩ := Kd.R_slice HO_9.out
                (first | subst eo42 | (injection eo42 with f1_ f2_ f3_; have f4_ := f1_.symm; have f5_ := f3_.symm; clear f1_ f2_ f3_; subst f4_; subst f5_))
                have p282 : 0 ≤ (0 : Int) := (by omega)
                have q282 : 0 < (t271.length : Int) := of_decide_eq_true (by first | (with_reducible assumption) | assumption)
                obtain ⟨ad282, e282, hx282_0⟩ := Kd.at_string (Kd.R_reads' HO_9.out).2.2 0 p282 q282
                cases e282
                have qi282 : (0 < t271.length) = True := eq_true (by omega)
                (try rw [show ((0 : Int)).toNat = 0 from rfl] at hx282_0)
                (try rw [Addr.add_zero'] at hx282_0)
                replace p282 := eq_true p282
                replace q282 := eq_true q282
                refine start_ (n := 11) (S := fun w' => w'.cell? ad282 = some (.string (rdOf ByteArray.empty t271 0))) (ds := []) q19_33 (by kernel_rfl) rfl rfl (hx282_0) (fun hHeld => ?_); refine with_tabW mummerref01_ParseList.tab12 mummerref01_ParseList.bits12 (fun HT_ HW_ => ?_)
                generalize wc.drew = w41 at HO_5 HO_6 HO_7 HO_9 HB hx282_0 hHeld ⊢
                refine pure_ (i := 0) (N := some 64) (v := ?_) (a' := ?_) q19_34 rfl rfl (any_of HT_.out (by kernel_rfl)) (fun _ _ _ h => h) (Or.inl ⟨by rfl, ?_⟩) ?_ ?_; rotate_left; ·(intro w'; go_simp; with_reducible rfl)
                rotate_left; ·(simp only [Act.put, sA_, s0_, s1_, i64_w, i32_w]; rfl)
                refine pure_ (i := 1) (N := some 65) (v := ?_) (a' := ?_) q19_35 rfl rfl (any_of HT_.out (by kernel_rfl)) (fun _ _ _ h => h) (Or.inl ⟨by rfl, ?_⟩) ?_ ?_; rotate_left; ·(intro w'; go_simp; with_reducible rfl)
                rotate_left; ·(simp only [Act.put, sA_, s0_, s1_, i64_w, i32_w]; rfl)
                refine pure_ (i := 2) (N := some 66) (v := ?_) (a' := ?_) q19_36 rfl rfl (any_of HT_.out (by kernel_rfl)) (fun _ _ _ h => h) (Or.inl ⟨by rfl, ?_⟩) ?_ ?_; rotate_left; ·(intro w'; go_simp; with_reducible rfl)
                rotate_left; ·(simp only [Act.put, sA_, s0_, s1_, i64_w, i32_w]; rfl)
                refine pure_ (i := 3) (N := some 67) (v := ?_) (a' := ?_) q19_37 rfl rfl (any_of HT_.out (by kernel_rfl)) (fun _ _ _ h => h) (Or.inl ⟨by rfl, ?_⟩) ?_ ?_; rotate_left; ·(intro w'; go_simp; with_reducible rfl)
                rotate_left; ·(simp only [Act.put, sA_, s0_, s1_, i64_w, i32_w]; rfl)
                refine pure_ (i := 5) (N := some 69) (v := ?_) (a' := ?_) q19_38 rfl rfl (any_of HT_.out (by kernel_rfl)) (fun _ _ _ h => h) (Or.inl ⟨by rfl, ?_⟩) ?_ ?_; rotate_left; ·(intro w'; go_simp; with_reducible rfl)
                rotate_left; ·(simp only [Act.put, sA_, s0_, s1_, i64_w, i32_w]; rfl)
                refine pure_ (i := 6) (N := some 70) (v := ?_) (a' := ?_) q19_39 rfl rfl (any_of HT_.out (by kernel_rfl)) (fun _ _ _ h => h) (Or.inl ⟨by rfl, ?_⟩) ?_ ?_; rotate_left; ·(intro w'; go_simp; with_reducible rfl)
                rotate_left; ·(simp only [Act.put, sA_, s0_, s1_, i64_w, i32_w]; rfl)
                refine take_ (i := 7) (N := some 71) (v := ?_) (a' := ?_) q19_40 rfl rfl (take_ofW HT_.out HW_.out (by kernel_rfl)) (fun _ _ _ h => h) (Or.inl ⟨by rfl, ?_⟩) hHeld ?_ ?_
                rotate_left
                ·intro w' s0
                 go_simp
                 with_reducible rfl
                rotate_left
                ·simp only [Act.put, sA_, s0_, s1_, i64_w, i32_w]
                 rfl
                refine one_ (i := 4) (N := some 68) q19_41 rfl rfl (one_of HT_.out (by kernel_rfl)) (by decide) (fun K hK => ?_)
                refine goes_ Tryz.func50 (by kernel_rfl) rfl #[.string x4_1] (by rfl) rfl rfl (by (try simp only [List.map_toArray, List.map_cons, List.map_nil]); first | done | rfl | (simp only [List.length_drop, List.length_take]; rfl)) ?_
                with_reducible refine (mummerref01_next.calls kj7 x4_1 t281 _ A32.out).mono ?_
                rintro e w43 ⟨rfl, hb⟩
                have HS0_ := (hb.cell (World.block_lt_of_cell? _ _ (hHeld))).trans (hHeld)
                refine ⟨_, rfl, ?_⟩
                have n0_ := ak (Kd.R_below (by (with_reducible repeat (first | apply Kd.R_alloc | apply Kd.R_drewN | apply Kd.R_drew)); exact HO_5.out) hb)
                have n1_ := ak (Kd.R_below (by (with_reducible repeat (first | apply Kd.R_alloc | apply Kd.R_drewN | apply Kd.R_drew)); exact HO_6.out) hb)
                have n2_ := ak (Kd.R_below (by (with_reducible repeat (first | apply Kd.R_alloc | apply Kd.R_drewN | apply Kd.R_drew)); exact HO_7.out) hb)
                have n3_ := ak (Kd.R_below (by (with_reducible repeat (first | apply Kd.R_alloc | apply Kd.R_drewN | apply Kd.R_drew)); exact HO_9.out) hb)
                have n4_ := ak (below_step (by repeat (first | (with_reducible first | exact HB.out | apply wA | apply wN | apply wD) | exact HB.out)) hb)
                clear HO_5 HO_6 HO_7 HO_9 HB
                have HO_5 := n0_
                have HO_6 := n1_
                have HO_7 := n2_
                have HO_9 := n3_
                have HB := n4_
                clear n0_ n1_ n2_ n3_ n4_
                (try clear hb)
                (try clear hb2)
                (try clear hk)
                (try clear hi)
                refine hK.out _ _ (HS0_) (fun hHeld => ?_)
                clear hK K
                refine norm_ (a' := ?_) ?_ ?_
                rotate_left
                ·show Act.put _ (some 68) _ = _
                 simp only [Act.put, sA_, s0_, s1_, i64_w, i32_w]
                 rfl
                refine one_ (i := 8) (N := some 72) q19_42 rfl rfl (one_of HT_.out (by kernel_rfl)) (by decide) (fun K hK => ?_)
                refine goes_ Tryz.func49 (by kernel_rfl) rfl #[.string t281, .string (rdOf ByteArray.empty t271 0)] (by rfl) rfl rfl (by (try simp only [List.map_toArray, List.map_cons, List.map_nil]); first | done | rfl | (simp only [List.length_drop, List.length_take]; rfl)) ?_
                with_reducible refine (mummerref01_less.calls t281 (rdOf ByteArray.empty t271 0) true _ A34.out).mono ?_
                rintro e w' ⟨rfl, ⟨nd, rfl⟩⟩
                refine ⟨_, rfl, ?_⟩
                refine hK.out _ _ (hHeld) (fun hHeld => ?_)
                clear hK K
                refine norm_ (a' := ?_) ?_ ?_
                rotate_left
                ·show Act.put _ (some 72) _ = _
                 simp only [Act.put, sA_, s0_, s1_, i64_w, i32_w]
                 rfl
                refine pure_ (i := 9) (N := some 73) (v := ?_) (a' := ?_) q19_43 rfl rfl (any_of HT_.out (by kernel_rfl)) (fun _ _ _ h => h) (Or.inl ⟨by rfl, ?_⟩) ?_ ?_; rotate_left; ·(intro w'; go_simp; with_reducible rfl)
                rotate_left; ·(simp only [Act.put, sA_, s0_, s1_, i64_w, i32_w]; rfl)
                refine pure_ (i := 10) (N := some 74) (v := ?_) (a' := ?_) q19_44 rfl rfl (any_of HT_.out (by kernel_rfl)) (fun _ _ _ h => h) (Or.inl ⟨by rfl, ?_⟩) ?_ ?_; rotate_left; ·(intro w'; go_simp; with_reducible rfl)
                rotate_left; ·(simp only [Act.put, sA_, s0_, s1_, i64_w, i32_w]; rfl)
                refine done_ (done_of HT_.out (by kernel_rfl)) ?_
                have p284 : 0 ≤ ((ji36) : Int) := of_decide_eq_true (by first | (with_reducible assumption) | assumption)
                have q284 : (ji36) < (t271.length : Int) := of_decide_eq_true (by first | (with_reducible assumption) | assumption)
                obtain ⟨ad284, e284, hx284_0⟩ := Kd.at_string (Kd.R_reads' HO_9.out).2.2 (ji36) p284 q284
                obtain rfl : ad282 = ad284 := (by injection e284)
                replace p284 := eq_true p284
                replace q284 := eq_true q284
                have p285 : 0 ≤ (0 : Int) := (by omega)
                have q285 : 0 < (t271.length : Int) := of_decide_eq_true (by first | (with_reducible assumption) | assumption)
                obtain ⟨ad285, e285, hx285_0⟩ := Kd.at_string (Kd.R_reads' HO_9.out).2.2 0 p285 q285
                obtain rfl : ad282 = ad285 := (by injection e285)
                have qi285 : (0 < t271.length) = True := eq_true (by omega)
                (try rw [show ((0 : Int)).toNat = 0 from rfl] at hx285_0)
                (try rw [Addr.add_zero'] at hx285_0)
                replace p285 := eq_true p285
                replace q285 := eq_true q285
                try go_wp2_with (first | ((with_reducible refine gate_builtin (b := .append) (xs := #[.tmp 81, .tmp 85]) rfl ?_); (try (refine gate_guard (by rfl) ?_; dsimp only)); at_builtin; refine Kd.R_append Kd.string (w0 := w) w.heap.size rfl (.tmp 81) (.tmp 85) 64 9 (.string ⟨#[]⟩) 16 rfl Tryz.underlying64 info9 rfl (by decide) (by omega) u5 x5_1 (rdOf ByteArray.empty t271 0) [.string (rdOf ByteArray.empty t271 0)] (fun k_ => some k_ ≠ (u6 : Value).ownBlock ∧ some k_ ≠ (.slice (some ad270) t267.length co9 : Value).ownBlock ∧ some k_ ≠ (.slice (some ad282) t271.length co42 : Value).ownBlock) (fun _ => False) rfl rfl ?aP (fun _ hk => hk.elim) ?aF ?aO ?aB ?aS ?aL ?_; (case aP => exact rfl); (case aB => exact (by repeat (first | (with_reducible first | exact HB.out | apply wA | apply wN | apply wD) | exact HB.out))); (case aF => exact (fun k_ hk => ⟨Kd.fresh' (Kd.R_lt (by (with_reducible repeat (first | apply Kd.R_alloc | apply Kd.R_drewN | apply Kd.R_drew)); exact HO_6.out)) k_ hk, Kd.fresh' (Kd.R_lt (by (with_reducible repeat (first | apply Kd.R_alloc | apply Kd.R_drewN | apply Kd.R_drew)); exact HO_7.out)) k_ hk, Kd.fresh' (Kd.R_lt (by (with_reducible repeat (first | apply Kd.R_alloc | apply Kd.R_drewN | apply Kd.R_drew)); exact HO_9.out)) k_ hk⟩)); (case aO => exact (by (with_reducible repeat (first | apply Kd.R_alloc | apply Kd.R_drewN | apply Kd.R_drew)); exact HO_5.out)); (case aS => exact (below_size (by repeat (first | (with_reducible first | exact HB.out | apply wA | apply wN | apply wD) | exact HB.out)))); (case aL => have := LMc39.out; omega); intro v287 w44 ho hb hg hat; rw [← Ny286.out] at ho; have n0_ := ak (Kd.R_after (ok := (fun k_ => some k_ ≠ (.slice (some ad270) t267.length co9 : Value).ownBlock ∧ some k_ ≠ (.slice (some ad282) t271.length co42 : Value).ownBlock)) (by (with_reducible repeat (first | apply Kd.R_alloc | apply Kd.R_drewN | apply Kd.R_drew)); exact Kd.R_mono HO_6.out (fun _ hk => by first | exact ⟨⟨hk.2.1, hk.2.2⟩, hk.1⟩ | (simp only [ne_eq] at hk ⊢; simp [hk]))) hg hat); have n1_ := ak (Kd.R_after (ok := (fun k_ => some k_ ≠ (u6 : Value).ownBlock ∧ some k_ ≠ (.slice (some ad282) t271.length co42 : Value).ownBlock)) (by (with_reducible repeat (first | apply Kd.R_alloc | apply Kd.R_drewN | apply Kd.R_drew)); exact Kd.R_mono HO_7.out (fun _ hk => by first | exact ⟨⟨hk.2.1, hk.2.2⟩, hk.1⟩ | (simp only [ne_eq] at hk ⊢; simp [hk]))) hg hat); have n2_ := ak (Kd.R_after (ok := (fun k_ => some k_ ≠ (u6 : Value).ownBlock ∧ some k_ ≠ (.slice (some ad270) t267.length co9 : Value).ownBlock)) (by (with_reducible repeat (first | apply Kd.R_alloc | apply Kd.R_drewN | apply Kd.R_drew)); exact Kd.R_mono HO_9.out (fun _ hk => by first | exact ⟨⟨hk.2.1, hk.2.2⟩, hk.1⟩ | (simp only [ne_eq] at hk ⊢; simp [hk]))) hg hat); have n3_ := ak (hb); have n4_ := ak (ho); clear HO_6; clear HO_7; clear HO_9; clear HB; clear HO_5; have HO_6 := n0_; have HO_7 := n1_; have HO_9 := n2_; have HB := n3_; have HO288 := n4_; clear n0_ n1_ n2_ n3_ n4_; clear ho hb hg hat) | ((with_reducible refine gate_builtin (b := .append) (xs := #[.tmp 87, .tmp 89]) rfl ?_); (try (refine gate_guard (by rfl) ?_; dsimp only)); at_builtin; refine Kd.R_append Kd.string (w0 := w) w.heap.size rfl (.tmp 87) (.tmp 89) 64 9 (.string ⟨#[]⟩) 16 rfl Tryz.underlying64 info9 rfl (by decide) (by omega) u6 x6_1 (rdOf ByteArray.empty t271 (ji36)) [.string (rdOf ByteArray.empty t271 (ji36))] (fun k_ => some k_ ≠ (.slice (some ad270) t267.length co9 : Value).ownBlock ∧ some k_ ≠ (.slice (some ad282) t271.length co42 : Value).ownBlock ∧ some k_ ≠ (v287 : Value).ownBlock) (fun _ => False) rfl rfl ?aP (fun _ hk => hk.elim) ?aF ?aO ?aB ?aS ?aL ?_; (case aP => exact rfl); (case aB => exact (by repeat (first | (with_reducible first | exact HB.out | apply wA | apply wN | apply wD) | exact HB.out))); (case aF => exact (fun k_ hk => ⟨Kd.fresh' (Kd.R_lt (by (with_reducible repeat (first | apply Kd.R_alloc | apply Kd.R_drewN | apply Kd.R_drew)); exact HO_7.out)) k_ hk, Kd.fresh' (Kd.R_lt (by (with_reducible repeat (first | apply Kd.R_alloc | apply Kd.R_drewN | apply Kd.R_drew)); exact HO_9.out)) k_ hk, Kd.fresh' (Kd.R_lt (by (with_reducible repeat (first | apply Kd.R_alloc | apply Kd.R_drewN | apply Kd.R_drew)); exact HO288.out)) k_ hk⟩)); (case aO => exact (by (with_reducible repeat (first | apply Kd.R_alloc | apply Kd.R_drewN | apply Kd.R_drew)); exact Kd.R_mono HO_6.out (fun _ hk => by first | exact ⟨hk.1.1, ⟨hk.1.2, hk.2⟩⟩ | (simp only [ne_eq] at hk ⊢; simp [hk])))); (case aS => exact (below_size (by repeat (first | (with_reducible first | exact HB.out | apply wA | apply wN | apply wD) | exact HB.out)))); (case aL => have := LMc40.out; omega); intro v290 w45 ho hb hg hat; rw [← Ny289.out] at ho; have n0_ := ak (Kd.R_after (ok := (fun k_ => some k_ ≠ (.slice (some ad282) t271.length co42 : Value).ownBlock ∧ some k_ ≠ (v287 : Value).ownBlock)) (by (with_reducible repeat (first | apply Kd.R_alloc | apply Kd.R_drewN | apply Kd.R_drew)); exact Kd.R_mono HO_7.out (fun _ hk => by first | exact ⟨⟨hk.1.2, hk.2⟩, hk.1.1⟩ | (simp only [ne_eq] at hk ⊢; simp [hk]))) hg hat); have n1_ := ak (Kd.R_after (ok := (fun k_ => some k_ ≠ (.slice (some ad270) t267.length co9 : Value).ownBlock ∧ some k_ ≠ (v287 : Value).ownBlock)) (by (with_reducible repeat (first | apply Kd.R_alloc | apply Kd.R_drewN | apply Kd.R_drew)); exact Kd.R_mono HO_9.out (fun _ hk => by first | exact ⟨⟨hk.1.2, hk.2⟩, hk.1.1⟩ | (simp only [ne_eq] at hk ⊢; simp [hk]))) hg hat); have n2_ := ak (Kd.R_after (ok := (fun k_ => some k_ ≠ (.slice (some ad270) t267.length co9 : Value).ownBlock ∧ some k_ ≠ (.slice (some ad282) t271.length co42 : Value).ownBlock)) (by (with_reducible repeat (first | apply Kd.R_alloc | apply Kd.R_drewN | apply Kd.R_drew)); exact Kd.R_mono HO288.out (fun _ hk => by first | exact ⟨⟨hk.2.1, hk.2.2⟩, hk.1⟩ | (simp only [ne_eq] at hk ⊢; simp [hk]))) hg hat); have n3_ := ak (hb); have n4_ := ak (ho); clear HO_7; clear HO_9; clear HO288; clear HB; clear HO_6; have HO_7 := n0_; have HO_9 := n1_; have HO288 := n2_; have HB := n3_; have HO291 := n4_; clear n0_ n1_ n2_ n3_ n4_; clear ho hb hg hat))
                go_roundg kj7
                case measure => have := HK1.out; have := HJ7.out; omega
                case rel => exact ⟨(rdOf ByteArray.empty t271 (ji36)), (y286), (y289), (wrap64 (x8_1 + 1)), (by first | rfl | (simp; done) | (simp only [← hji36] <;> (first | rfl | simp)) | (simp [*]; done)), (by first | rfl | (simp; done) | (simp [*]; done)), H', ⟨by have := HK1.out; have := HJ7.out; omega⟩, ⟨by (with_reducible repeat (first | apply Kd.R_alloc | apply Kd.R_drewN | apply Kd.R_drew)); exact Kd.R_mono HO288.out (fun _ hk => by first | exact ⟨hk.2, hk.1.1⟩ | (simp only [ne_eq] at hk ⊢; simp [hk]))⟩, ⟨by (with_reducible repeat (first | apply Kd.R_alloc | apply Kd.R_drewN | apply Kd.R_drew)); exact Kd.R_mono HO291.out (fun _ hk => by first | exact ⟨hk.2.2, hk.1⟩ | (simp only [ne_eq] at hk ⊢; simp [hk]))⟩, ⟨by (with_reducible repeat (first | apply Kd.R_alloc | apply Kd.R_drewN | apply Kd.R_drew)); exact Kd.R_mono HO_7.out (fun _ hk => by first | exact ⟨hk.1.2, hk.2⟩ | (simp only [ne_eq] at hk ⊢; simp [hk]))⟩, ⟨by repeat (first | (with_reducible first | exact HB.out | apply wA | apply wN | apply wD) | exact HB.out)⟩⟩
               ·rw [if_neg c40] at H
                exact absurd H (by simp)
              ·rw [if_neg c39] at H
               exact absurd H (by simp)
             ·rw [if_neg c38] at H
              exact absurd H (by simp)
            ·rw [if_neg c37] at H
             exact absurd H (by simp)
           ·replace c35 := Bool.eq_false_iff.mpr c35
            subst c35
            have H1 : (some (([] : List Int), 6)) = some (r1, r2) := by rw [if_neg (show ¬ (false = true) by decide)] at H; exact H
            clear H
            have H := H1
            clear H1
            simp only [Option.some.injEq, Prod.mk.injEq] at H
            obtain ⟨rfl, rfl⟩ := H
            try go_wp2
            have n0_ := ak (Kd.R_drew HO_5.out)
            have n1_ := ak (Kd.R_drew HO_6.out)
            have n2_ := ak (Kd.R_drew HO_7.out)
            have n3_ := ak (Kd.R_drew HO_9.out)
            have n4_ := ak (wD HB.out)
            clear HO_5 HO_6 HO_7 HO_9 HB
            have HO_5 := n0_
            have HO_6 := n1_
            have HO_7 := n2_
            have HO_9 := n3_
            have HB := n4_
            clear n0_ n1_ n2_ n3_ n4_
            obtain ⟨Ao47, co47, eo47⟩ := Kd.R_slice HO_9.out
            (first | subst eo47 | (injection eo47 with f1_ f2_ f3_; have f4_ := f1_.symm; have f5_ := f3_.symm; clear f1_ f2_ f3_; subst f4_; subst f5_))
            have p282 : 0 ≤ (0 : Int) := (by omega)
            have q282 : 0 < (t271.length : Int) := of_decide_eq_true (by first | (with_reducible assumption) | assumption)
            obtain ⟨ad282, e282, hx282_0⟩ := Kd.at_string (Kd.R_reads' HO_9.out).2.2 0 p282 q282
            cases e282
            have qi282 : (0 < t271.length) = True := eq_true (by omega)
            (try rw [show ((0 : Int)).toNat = 0 from rfl] at hx282_0)
            (try rw [Addr.add_zero'] at hx282_0)
            replace p282 := eq_true p282
            replace q282 := eq_true q282
            refine start_ (n := 11) (S := fun w' => w'.cell? ad282 = some (.string (rdOf ByteArray.empty t271 0))) (ds := []) q19_33 (by kernel_rfl) rfl rfl (hx282_0) (fun hHeld => ?_); refine with_tabW mummerref01_ParseList.tab12 mummerref01_ParseList.bits12 (fun HT_ HW_ => ?_)
            generalize wc.drew = w46 at HO_5 HO_6 HO_7 HO_9 HB hx282_0 hHeld ⊢
            refine pure_ (i := 0) (N := some 64) (v := ?_) (a' := ?_) q19_34 rfl rfl (any_of HT_.out (by kernel_rfl)) (fun _ _ _ h => h) (Or.inl ⟨by rfl, ?_⟩) ?_ ?_; rotate_left; ·(intro w'; go_simp; with_reducible rfl)
            rotate_left; ·(simp only [Act.put, sA_, s0_, s1_, i64_w, i32_w]; rfl)
            refine pure_ (i := 1) (N := some 65) (v := ?_) (a' := ?_) q19_35 rfl rfl (any_of HT_.out (by kernel_rfl)) (fun _ _ _ h => h) (Or.inl ⟨by rfl, ?_⟩) ?_ ?_; rotate_left; ·(intro w'; go_simp; with_reducible rfl)
            rotate_left; ·(simp only [Act.put, sA_, s0_, s1_, i64_w, i32_w]; rfl)
            refine pure_ (i := 2) (N := some 66) (v := ?_) (a' := ?_) q19_36 rfl rfl (any_of HT_.out (by kernel_rfl)) (fun _ _ _ h => h) (Or.inl ⟨by rfl, ?_⟩) ?_ ?_; rotate_left; ·(intro w'; go_simp; with_reducible rfl)
            rotate_left; ·(simp only [Act.put, sA_, s0_, s1_, i64_w, i32_w]; rfl)
            refine pure_ (i := 3) (N := some 67) (v := ?_) (a' := ?_) q19_37 rfl rfl (any_of HT_.out (by kernel_rfl)) (fun _ _ _ h => h) (Or.inl ⟨by rfl, ?_⟩) ?_ ?_; rotate_left; ·(intro w'; go_simp; with_reducible rfl)
            rotate_left; ·(simp only [Act.put, sA_, s0_, s1_, i64_w, i32_w]; rfl)
            refine pure_ (i := 5) (N := some 69) (v := ?_) (a' := ?_) q19_38 rfl rfl (any_of HT_.out (by kernel_rfl)) (fun _ _ _ h => h) (Or.inl ⟨by rfl, ?_⟩) ?_ ?_; rotate_left; ·(intro w'; go_simp; with_reducible rfl)
            rotate_left; ·(simp only [Act.put, sA_, s0_, s1_, i64_w, i32_w]; rfl)
            refine pure_ (i := 6) (N := some 70) (v := ?_) (a' := ?_) q19_39 rfl rfl (any_of HT_.out (by kernel_rfl)) (fun _ _ _ h => h) (Or.inl ⟨by rfl, ?_⟩) ?_ ?_; rotate_left; ·(intro w'; go_simp; with_reducible rfl)
            rotate_left; ·(simp only [Act.put, sA_, s0_, s1_, i64_w, i32_w]; rfl)
            refine take_ (i := 7) (N := some 71) (v := ?_) (a' := ?_) q19_40 rfl rfl (take_ofW HT_.out HW_.out (by kernel_rfl)) (fun _ _ _ h => h) (Or.inl ⟨by rfl, ?_⟩) hHeld ?_ ?_
            rotate_left
            ·intro w' s0
             go_simp
             with_reducible rfl
            rotate_left
            ·simp only [Act.put, sA_, s0_, s1_, i64_w, i32_w]
             rfl
            refine one_ (i := 4) (N := some 68) q19_41 rfl rfl (one_of HT_.out (by kernel_rfl)) (by decide) (fun K hK => ?_)
            refine goes_ Tryz.func50 (by kernel_rfl) rfl #[.string x4_1] (by rfl) rfl rfl (by (try simp only [List.map_toArray, List.map_cons, List.map_nil]); first | done | rfl | (simp only [List.length_drop, List.length_take]; rfl)) ?_
            with_reducible refine (mummerref01_next.calls kj7 x4_1 t281 _ A32.out).mono ?_
            rintro e w48 ⟨rfl, hb⟩
            have HS0_ := (hb.cell (World.block_lt_of_cell? _ _ (hHeld))).trans (hHeld)
            refine ⟨_, rfl, ?_⟩
            have n0_ := ak (Kd.R_below (by (with_reducible repeat (first | apply Kd.R_alloc | apply Kd.R_drewN | apply Kd.R_drew)); exact HO_5.out) hb)
            have n1_ := ak (Kd.R_below (by (with_reducible repeat (first | apply Kd.R_alloc | apply Kd.R_drewN | apply Kd.R_drew)); exact HO_6.out) hb)
            have n2_ := ak (Kd.R_below (by (with_reducible repeat (first | apply Kd.R_alloc | apply Kd.R_drewN | apply Kd.R_drew)); exact HO_7.out) hb)
            have n3_ := ak (Kd.R_below (by (with_reducible repeat (first | apply Kd.R_alloc | apply Kd.R_drewN | apply Kd.R_drew)); exact HO_9.out) hb)
            have n4_ := ak (below_step (by repeat (first | (with_reducible first | exact HB.out | apply wA | apply wN | apply wD) | exact HB.out)) hb)
            clear HO_5 HO_6 HO_7 HO_9 HB
            have HO_5 := n0_
            have HO_6 := n1_
            have HO_7 := n2_
            have HO_9 := n3_
            have HB := n4_
            clear n0_ n1_ n2_ n3_ n4_
            (try clear hb)
            (try clear hb2)
            (try clear hk)
            (try clear hi)
            refine hK.out _ _ (HS0_) (fun hHeld => ?_)
            clear hK K
            refine norm_ (a' := ?_) ?_ ?_
            rotate_left
            ·show Act.put _ (some 68) _ = _
             simp only [Act.put, sA_, s0_, s1_, i64_w, i32_w]
             rfl
            refine one_ (i := 8) (N := some 72) q19_42 rfl rfl (one_of HT_.out (by kernel_rfl)) (by decide) (fun K hK => ?_)
            refine goes_ Tryz.func49 (by kernel_rfl) rfl #[.string t281, .string (rdOf ByteArray.empty t271 0)] (by rfl) rfl rfl (by (try simp only [List.map_toArray, List.map_cons, List.map_nil]); first | done | rfl | (simp only [List.length_drop, List.length_take]; rfl)) ?_
            with_reducible refine (mummerref01_less.calls t281 (rdOf ByteArray.empty t271 0) false _ A34.out).mono ?_
            rintro e w' ⟨rfl, ⟨nd, rfl⟩⟩
            refine ⟨_, rfl, ?_⟩
            refine hK.out _ _ (hHeld) (fun hHeld => ?_)
            clear hK K
            refine norm_ (a' := ?_) ?_ ?_
            rotate_left
            ·show Act.put _ (some 72) _ = _
             simp only [Act.put, sA_, s0_, s1_, i64_w, i32_w]
             rfl
            refine pure_ (i := 9) (N := some 73) (v := ?_) (a' := ?_) q19_43 rfl rfl (any_of HT_.out (by kernel_rfl)) (fun _ _ _ h => h) (Or.inl ⟨by rfl, ?_⟩) ?_ ?_; rotate_left; ·(intro w'; go_simp; with_reducible rfl)
            rotate_left; ·(simp only [Act.put, sA_, s0_, s1_, i64_w, i32_w]; rfl)
            refine pure_ (i := 10) (N := some 74) (v := ?_) (a' := ?_) q19_44 rfl rfl (any_of HT_.out (by kernel_rfl)) (fun _ _ _ h => h) (Or.inl ⟨by rfl, ?_⟩) ?_ ?_; rotate_left; ·(intro w'; go_simp; with_reducible rfl)
            rotate_left; ·(simp only [Act.put, sA_, s0_, s1_, i64_w, i32_w]; rfl)
            refine done_ (done_of HT_.out (by kernel_rfl)) ?_
            try go_wp2
            go_ret2
            exact ⟨_, by first | rfl | (simp [errW_none, errW_some] <;> rfl) | (simp [*, errW_none, errW_some] <;> rfl), by first | exact Kd.R_nil _ _ _ _ _ | exact Kd.N_nil _ _ _ _ _ | exact Kd.V_nil _ _ _ _ _ | exact Kd.Q_nil _ _ _ _ _ | exact Kd.S_nil _ _ _ _ _, by repeat (first | (with_reducible first | exact HB.out | apply wA | apply wN | apply wD) | exact HB.out)⟩
          ·rw [if_neg c33] at H
           exact absurd H (by simp)
         ·rw [if_neg c31] at H
          have c31b0 : decide (0 < x8_1) = false := decide_eq_false c31
          clear c31
          obtain ⟨ji49, hji49⟩ : ∃ j_ : Int, (wrap64 ((t271.length : Int) - 1)) = j_ := ⟨_, rfl⟩
          replace H : (if 0 ≤ (ji49) then (if (ji49) < (t271.length : Int) then (if 0 < (t271.length : Int) then (if x5_1.length < 8796093022208 then (if x6_1.length < 8796093022208 then (mummerref01_ParseList.l0 kj7 (rdOf ByteArray.empty t271 (ji49)) (x5_1 ++ [rdOf ByteArray.empty t271 0]) (x6_1 ++ [rdOf ByteArray.empty t271 (ji49)]) t267 (wrap64 (x8_1 + 1))) else (none)) else (none)) else (none)) else (none)) else (none)) = some (r1, r2) := by first | (rw [hji49] at H; exact H) | (simp only [hji49] at H ⊢; exact H)
          have hji49w : (IntKind.i64.wrap ((t271.length : Int) - 1)) = ji49 := (i64_w _).trans hji49
          by_cases c50 : 0 ≤ (ji49)
          ·rw [if_pos c50] at H
           have c50b0 : decide (0 ≤ (ji49)) = true := decide_eq_true c50
           clear c50
           by_cases c51 : (ji49) < (t271.length : Int)
           ·rw [if_pos c51] at H
            have c51b0 : decide ((ji49) < (t271.length : Int)) = true := decide_eq_true c51
            clear c51
            by_cases c52 : 0 < (t271.length : Int)
            ·rw [if_pos c52] at H
             have c52b0 : decide (0 < (t271.length : Int)) = true := decide_eq_true c52
             have c52b1 : decide (0 < t271.length) = true := decide_eq_true (by omega)
             clear c52
             by_cases c53 : x5_1.length < 8796093022208
             ·rw [if_pos c53] at H
              have LMc53 := ak c53
              clear c53
              obtain ⟨y294, hy294⟩ : ∃ y_ : List ByteArray, y_ = (x5_1 ++ [rdOf ByteArray.empty t271 0]) := ⟨_, rfl⟩
              replace H : (if x6_1.length < 8796093022208 then (mummerref01_ParseList.l0 kj7 (rdOf ByteArray.empty t271 (ji49)) y294 (x6_1 ++ [rdOf ByteArray.empty t271 (ji49)]) t267 (wrap64 (x8_1 + 1))) else (none)) = some (r1, r2) := by first | (rw [hy294]; with_reducible exact H) | (have H2_ := (Option.bind_some _ _).symm.trans H; rw [hy294]; with_reducible exact H2_) | (have H2_ := (Option.bind_some _ _).symm.trans H; with_reducible exact H2_) | with_reducible exact H | (rw [hy294]; exact H) | exact H
              have Ny294 := ak hy294
              clear hy294
              by_cases c54 : x6_1.length < 8796093022208
              ·rw [if_pos c54] at H
               have LMc54 := ak c54
               clear c54
               obtain ⟨y297, hy297⟩ : ∃ y_ : List ByteArray, y_ = (x6_1 ++ [rdOf ByteArray.empty t271 (ji49)]) := ⟨_, rfl⟩
               replace H : (mummerref01_ParseList.l0 kj7 (rdOf ByteArray.empty t271 (ji49)) y294 y297 t267 (wrap64 (x8_1 + 1))) = some (r1, r2) := by first | (rw [hy297]; with_reducible exact H) | (have H2_ := (Option.bind_some _ _).symm.trans H; rw [hy297]; with_reducible exact H2_) | (have H2_ := (Option.bind_some _ _).symm.trans H; with_reducible exact H2_) | with_reducible exact H | (rw [hy297]; exact H) | exact H
               have Ny297 := ak hy297
               clear hy297
               have H' := ak H
               clear H
               try go_wp2
               have n0_ := ak (Kd.R_drew HO_5.out)
               have n1_ := ak (Kd.R_drew HO_6.out)
               have n2_ := ak (Kd.R_drew HO_7.out)
               have n3_ := ak (Kd.R_drew HO_9.out)
               have n4_ := ak (wD HB.out)
               clear HO_5 HO_6 HO_7 HO_9 HB
               have HO_5 := n0_
               have HO_6 := n1_
               have HO_7 := n2_
               have HO_9 := n3_
               have HB := n4_
               clear n0_ n1_ n2_ n3_ n4_
               refine start_ (n := 11) (S := fun w' => True) (ds := []) q19_33 (by kernel_rfl) rfl rfl trivial (fun hHeld => ?_); refine with_tabW mummerref01_ParseList.tab12 mummerref01_ParseList.bits12 (fun HT_ HW_ => ?_)
               generalize wc.drew = w55 at HO_5 HO_6 HO_7 HO_9 HB hHeld ⊢
               refine pure_ (i := 0) (N := some 64) (v := ?_) (a' := ?_) q19_34 rfl rfl (any_of HT_.out (by kernel_rfl)) (fun _ _ _ h => h) (Or.inl ⟨by rfl, ?_⟩) ?_ ?_; rotate_left; ·(intro w'; go_simp; with_reducible rfl)
               rotate_left; ·(simp only [Act.put, sA_, s0_, s1_, i64_w, i32_w]; rfl)
               refine pure_ (i := 1) (N := some 65) (v := ?_) (a' := ?_) q19_35 rfl rfl (any_of HT_.out (by kernel_rfl)) (fun _ _ _ h => h) (Or.inl ⟨by rfl, ?_⟩) ?_ ?_; rotate_left; ·(intro w'; go_simp; with_reducible rfl)
               rotate_left; ·(simp only [Act.put, sA_, s0_, s1_, i64_w, i32_w]; rfl)
               refine pure_ (i := 2) (N := some 66) (v := ?_) (a' := ?_) q19_36 rfl rfl (any_of HT_.out (by kernel_rfl)) (fun _ _ _ h => h) (Or.inl ⟨by rfl, ?_⟩) ?_ ?_; rotate_left; ·(intro w'; go_simp; with_reducible rfl)
               rotate_left; ·(simp only [Act.put, sA_, s0_, s1_, i64_w, i32_w]; rfl)
               refine pure_ (i := 3) (N := some 67) (v := undef) (a' := ?_) q19_37 rfl rfl (any_of HT_.out (by kernel_rfl)) (fun _ _ _ h => h) (Or.inr ⟨by rfl, rfl⟩) ?_ ?_
               rotate_left
               ·simp only [Act.put, sA_, s0_, s1_, i64_w, i32_w]
                rfl
               refine pure_ (i := 4) (N := some 68) (v := undef) (a' := ?_) #[Y,Y,Y,Y,Y,Z,Z,Z,Z,Z,Z] rfl rfl (any_of HT_.out (by kernel_rfl)) (fun _ _ _ h => h) (Or.inr ⟨by rfl, rfl⟩) ?_ ?_
               rotate_left
               ·simp only [Act.put, sA_, s0_, s1_, i64_w, i32_w]
                rfl
               refine pure_ (i := 5) (N := some 69) (v := undef) (a' := ?_) #[Y,Y,Y,Y,Y,Y,Z,Z,Z,Z,Z] rfl rfl (any_of HT_.out (by kernel_rfl)) (fun _ _ _ h => h) (Or.inr ⟨by rfl, rfl⟩) ?_ ?_
               rotate_left
               ·simp only [Act.put, sA_, s0_, s1_, i64_w, i32_w]
                rfl
               refine pure_ (i := 6) (N := some 70) (v := undef) (a' := ?_) #[Y,Y,Y,Y,Y,Y,Y,Z,Z,Z,Z] rfl rfl (any_of HT_.out (by kernel_rfl)) (fun _ _ _ h => h) (Or.inr ⟨by rfl, rfl⟩) ?_ ?_
               rotate_left
               ·simp only [Act.put, sA_, s0_, s1_, i64_w, i32_w]
                rfl
               refine pure_ (i := 7) (N := some 71) (v := undef) (a' := ?_) q19_41 rfl rfl (any_of HT_.out (by kernel_rfl)) (fun _ _ _ h => h) (Or.inr ⟨by rfl, rfl⟩) ?_ ?_
               rotate_left
               ·simp only [Act.put, sA_, s0_, s1_, i64_w, i32_w]
                rfl
               refine pure_ (i := 8) (N := some 72) (v := undef) (a' := ?_) q19_42 rfl rfl (any_of HT_.out (by kernel_rfl)) (fun _ _ _ h => h) (Or.inr ⟨by rfl, rfl⟩) ?_ ?_
               rotate_left
               ·simp only [Act.put, sA_, s0_, s1_, i64_w, i32_w]
                rfl
               refine pure_ (i := 9) (N := some 73) (v := undef) (a' := ?_) q19_43 rfl rfl (any_of HT_.out (by kernel_rfl)) (fun _ _ _ h => h) (Or.inr ⟨by rfl, rfl⟩) ?_ ?_
               rotate_left
               ·simp only [Act.put, sA_, s0_, s1_, i64_w, i32_w]
                rfl
               refine pure_ (i := 10) (N := some 74) (v := ?_) (a' := ?_) q19_44 rfl rfl (any_of HT_.out (by kernel_rfl)) (fun _ _ _ h => h) (Or.inl ⟨by rfl, ?_⟩) ?_ ?_; rotate_left; ·(intro w'; go_simp; with_reducible rfl)
               rotate_left; ·(simp only [Act.put, sA_, s0_, s1_, i64_w, i32_w]; rfl)
               refine done_ (done_of HT_.out (by kernel_rfl)) ?_
               obtain ⟨Ao56, co56, eo56⟩ := Kd.R_slice HO_9.out
               subst eo56
               have p292 : 0 ≤ ((ji49) : Int) := of_decide_eq_true (by first | (with_reducible assumption) | assumption)
               have q292 : (ji49) < (t271.length : Int) := of_decide_eq_true (by first | (with_reducible assumption) | assumption)
               obtain ⟨ad292, e292, hx292_0⟩ := Kd.at_string (Kd.R_reads' HO_9.out).2.2 (ji49) p292 q292
               cases e292
               replace p292 := eq_true p292
               replace q292 := eq_true q292
               have p293 : 0 ≤ (0 : Int) := (by omega)
               have q293 : 0 < (t271.length : Int) := of_decide_eq_true (by first | (with_reducible assumption) | assumption)
               obtain ⟨ad293, e293, hx293_0⟩ := Kd.at_string (Kd.R_reads' HO_9.out).2.2 0 p293 q293
               obtain rfl : ad292 = ad293 := (by injection e293)
               have qi293 : (0 < t271.length) = True := eq_true (by omega)
               (try rw [show ((0 : Int)).toNat = 0 from rfl] at hx293_0)
               (try rw [Addr.add_zero'] at hx293_0)
               replace p293 := eq_true p293
               replace q293 := eq_true q293
               try go_wp2_with (first | ((with_reducible refine gate_builtin (b := .append) (xs := #[.tmp 81, .tmp 85]) rfl ?_); (try (refine gate_guard (by rfl) ?_; dsimp only)); at_builtin; refine Kd.R_append Kd.string (w0 := w) w.heap.size rfl (.tmp 81) (.tmp 85) 64 9 (.string ⟨#[]⟩) 16 rfl Tryz.underlying64 info9 rfl (by decide) (by omega) u5 x5_1 (rdOf ByteArray.empty t271 0) [.string (rdOf ByteArray.empty t271 0)] (fun k_ => some k_ ≠ (u6 : Value).ownBlock ∧ some k_ ≠ (.slice (some ad270) t267.length co9 : Value).ownBlock ∧ some k_ ≠ (.slice (some ad292) t271.length co56 : Value).ownBlock) (fun _ => False) rfl rfl ?aP (fun _ hk => hk.elim) ?aF ?aO ?aB ?aS ?aL ?_; (case aP => exact rfl); (case aB => exact (by repeat (first | (with_reducible first | exact HB.out | apply wA | apply wN | apply wD) | exact HB.out))); (case aF => exact (fun k_ hk => ⟨Kd.fresh' (Kd.R_lt (by (with_reducible repeat (first | apply Kd.R_alloc | apply Kd.R_drewN | apply Kd.R_drew)); exact HO_6.out)) k_ hk, Kd.fresh' (Kd.R_lt (by (with_reducible repeat (first | apply Kd.R_alloc | apply Kd.R_drewN | apply Kd.R_drew)); exact HO_7.out)) k_ hk, Kd.fresh' (Kd.R_lt (by (with_reducible repeat (first | apply Kd.R_alloc | apply Kd.R_drewN | apply Kd.R_drew)); exact HO_9.out)) k_ hk⟩)); (case aO => exact (by (with_reducible repeat (first | apply Kd.R_alloc | apply Kd.R_drewN | apply Kd.R_drew)); exact HO_5.out)); (case aS => exact (below_size (by repeat (first | (with_reducible first | exact HB.out | apply wA | apply wN | apply wD) | exact HB.out)))); (case aL => have := LMc53.out; omega); intro v295 w57 ho hb hg hat; rw [← Ny294.out] at ho; have n0_ := ak (Kd.R_after (ok := (fun k_ => some k_ ≠ (.slice (some ad270) t267.length co9 : Value).ownBlock ∧ some k_ ≠ (.slice (some ad292) t271.length co56 : Value).ownBlock)) (by (with_reducible repeat (first | apply Kd.R_alloc | apply Kd.R_drewN | apply Kd.R_drew)); exact Kd.R_mono HO_6.out (fun _ hk => by first | exact ⟨⟨hk.2.1, hk.2.2⟩, hk.1⟩ | (simp only [ne_eq] at hk ⊢; simp [hk]))) hg hat); have n1_ := ak (Kd.R_after (ok := (fun k_ => some k_ ≠ (u6 : Value).ownBlock ∧ some k_ ≠ (.slice (some ad292) t271.length co56 : Value).ownBlock)) (by (with_reducible repeat (first | apply Kd.R_alloc | apply Kd.R_drewN | apply Kd.R_drew)); exact Kd.R_mono HO_7.out (fun _ hk => by first | exact ⟨⟨hk.2.1, hk.2.2⟩, hk.1⟩ | (simp only [ne_eq] at hk ⊢; simp [hk]))) hg hat); have n2_ := ak (Kd.R_after (ok := (fun k_ => some k_ ≠ (u6 : Value).ownBlock ∧ some k_ ≠ (.slice (some ad270) t267.length co9 : Value).ownBlock)) (by (with_reducible repeat (first | apply Kd.R_alloc | apply Kd.R_drewN | apply Kd.R_drew)); exact Kd.R_mono HO_9.out (fun _ hk => by first | exact ⟨⟨hk.2.1, hk.2.2⟩, hk.1⟩ | (simp only [ne_eq] at hk ⊢; simp [hk]))) hg hat); have n3_ := ak (hb); have n4_ := ak (ho); clear HO_6; clear HO_7; clear HO_9; clear HB; clear HO_5; have HO_6 := n0_; have HO_7 := n1_; have HO_9 := n2_; have HB := n3_; have HO296 := n4_; clear n0_ n1_ n2_ n3_ n4_; clear ho hb hg hat) | ((with_reducible refine gate_builtin (b := .append) (xs := #[.tmp 87, .tmp 89]) rfl ?_); (try (refine gate_guard (by rfl) ?_; dsimp only)); at_builtin; refine Kd.R_append Kd.string (w0 := w) w.heap.size rfl (.tmp 87) (.tmp 89) 64 9 (.string ⟨#[]⟩) 16 rfl Tryz.underlying64 info9 rfl (by decide) (by omega) u6 x6_1 (rdOf ByteArray.empty t271 (ji49)) [.string (rdOf ByteArray.empty t271 (ji49))] (fun k_ => some k_ ≠ (.slice (some ad270) t267.length co9 : Value).ownBlock ∧ some k_ ≠ (.slice (some ad292) t271.length co56 : Value).ownBlock ∧ some k_ ≠ (v295 : Value).ownBlock) (fun _ => False) rfl rfl ?aP (fun _ hk => hk.elim) ?aF ?aO ?aB ?aS ?aL ?_; (case aP => exact rfl); (case aB => exact (by repeat (first | (with_reducible first | exact HB.out | apply wA | apply wN | apply wD) | exact HB.out))); (case aF => exact (fun k_ hk => ⟨Kd.fresh' (Kd.R_lt (by (with_reducible repeat (first | apply Kd.R_alloc | apply Kd.R_drewN | apply Kd.R_drew)); exact HO_7.out)) k_ hk, Kd.fresh' (Kd.R_lt (by (with_reducible repeat (first | apply Kd.R_alloc | apply Kd.R_drewN | apply Kd.R_drew)); exact HO_9.out)) k_ hk, Kd.fresh' (Kd.R_lt (by (with_reducible repeat (first | apply Kd.R_alloc | apply Kd.R_drewN | apply Kd.R_drew)); exact HO296.out)) k_ hk⟩)); (case aO => exact (by (with_reducible repeat (first | apply Kd.R_alloc | apply Kd.R_drewN | apply Kd.R_drew)); exact Kd.R_mono HO_6.out (fun _ hk => by first | exact ⟨hk.1.1, ⟨hk.1.2, hk.2⟩⟩ | (simp only [ne_eq] at hk ⊢; simp [hk])))); (case aS => exact (below_size (by repeat (first | (with_reducible first | exact HB.out | apply wA | apply wN | apply wD) | exact HB.out)))); (case aL => have := LMc54.out; omega); intro v298 w58 ho hb hg hat; rw [← Ny297.out] at ho; have n0_ := ak (Kd.R_after (ok := (fun k_ => some k_ ≠ (.slice (some ad292) t271.length co56 : Value).ownBlock ∧ some k_ ≠ (v295 : Value).ownBlock)) (by (with_reducible repeat (first | apply Kd.R_alloc | apply Kd.R_drewN | apply Kd.R_drew)); exact Kd.R_mono HO_7.out (fun _ hk => by first | exact ⟨⟨hk.1.2, hk.2⟩, hk.1.1⟩ | (simp only [ne_eq] at hk ⊢; simp [hk]))) hg hat); have n1_ := ak (Kd.R_after (ok := (fun k_ => some k_ ≠ (.slice (some ad270) t267.length co9 : Value).ownBlock ∧ some k_ ≠ (v295 : Value).ownBlock)) (by (with_reducible repeat (first | apply Kd.R_alloc | apply Kd.R_drewN | apply Kd.R_drew)); exact Kd.R_mono HO_9.out (fun _ hk => by first | exact ⟨⟨hk.1.2, hk.2⟩, hk.1.1⟩ | (simp only [ne_eq] at hk ⊢; simp [hk]))) hg hat); have n2_ := ak (Kd.R_after (ok := (fun k_ => some k_ ≠ (.slice (some ad270) t267.length co9 : Value).ownBlock ∧ some k_ ≠ (.slice (some ad292) t271.length co56 : Value).ownBlock)) (by (with_reducible repeat (first | apply Kd.R_alloc | apply Kd.R_drewN | apply Kd.R_drew)); exact Kd.R_mono HO296.out (fun _ hk => by first | exact ⟨⟨hk.2.1, hk.2.2⟩, hk.1⟩ | (simp only [ne_eq] at hk ⊢; simp [hk]))) hg hat); have n3_ := ak (hb); have n4_ := ak (ho); clear HO_7; clear HO_9; clear HO296; clear HB; clear HO_6; have HO_7 := n0_; have HO_9 := n1_; have HO296 := n2_; have HB := n3_; have HO299 := n4_; clear n0_ n1_ n2_ n3_ n4_; clear ho hb hg hat))
               go_roundg kj7
               case measure => have := HK1.out; have := HJ7.out; omega
               case rel => exact ⟨(rdOf ByteArray.empty t271 (ji49)), (y294), (y297), (wrap64 (x8_1 + 1)), (by first | rfl | (simp; done) | (simp only [← hji49] <;> (first | rfl | simp)) | (simp [*]; done)), (by first | rfl | (simp; done) | (simp [*]; done)), H', ⟨by have := HK1.out; have := HJ7.out; omega⟩, ⟨by (with_reducible repeat (first | apply Kd.R_alloc | apply Kd.R_drewN | apply Kd.R_drew)); exact Kd.R_mono HO296.out (fun _ hk => by first | exact ⟨hk.2, hk.1.1⟩ | (simp only [ne_eq] at hk ⊢; simp [hk]))⟩, ⟨by (with_reducible repeat (first | apply Kd.R_alloc | apply Kd.R_drewN | apply Kd.R_drew)); exact Kd.R_mono HO299.out (fun _ hk => by first | exact ⟨hk.2.2, hk.1⟩ | (simp only [ne_eq] at hk ⊢; simp [hk]))⟩, ⟨by (with_reducible repeat (first | apply Kd.R_alloc | apply Kd.R_drewN | apply Kd.R_drew)); exact Kd.R_mono HO_7.out (fun _ hk => by first | exact ⟨hk.1.2, hk.2⟩ | (simp only [ne_eq] at hk ⊢; simp [hk]))⟩, ⟨by repeat (first | (with_reducible first | exact HB.out | apply wA | apply wN | apply wD) | exact HB.out)⟩⟩
              ·rw [if_neg c54] at H
               exact absurd H (by simp)
             ·rw [if_neg c53] at H
              exact absurd H (by simp)
            ·rw [if_neg c52] at H
             exact absurd H (by simp)
           ·rw [if_neg c51] at H
            exact absurd H (by simp)
          ·rw [if_neg c50] at H
           exact absurd H (by simp)
     ·rw [if_neg c6] at H
      exact absurd H (by simp)
    ·rw [if_neg c5] at H
     have c5b0 : decide (x8_1 < (t267.length : Int)) = false := decide_eq_false c5
     clear c5
     replace H := Option.bind_eq_some_iff.mp H
     obtain ⟨t300, A590, H⟩ := H
     replace H : ((mummerref01_less.f t300 x4_1).bind fun t301 => (if t301 = true then (some (([] : List Int), 7)) else (mummerref01_ParseList.l1 k1 x5_1 x6_1 t267 ([] : List Int) 0))) = some (r1, r2) := H
     have A59 := ak A590
     clear A590
     replace H := Option.bind_eq_some_iff.mp H
     obtain ⟨t301, A600, H⟩ := H
     replace H : (if t301 = true then (some (([] : List Int), 7)) else (mummerref01_ParseList.l1 k1 x5_1 x6_1 t267 ([] : List Int) 0)) = some (r1, r2) := H
     have A60 := ak A600
     clear A600
     by_cases c61 : t301 = true
     ·subst c61
      have H1 : (some (([] : List Int), 7)) = some (r1, r2) := by rw [if_pos rfl] at H; exact H
      clear H
      have H := H1
      clear H1
      simp only [Option.some.injEq, Prod.mk.injEq] at H
      obtain ⟨rfl, rfl⟩ := H
      obtain ⟨Ao62, co62, eo62⟩ := Kd.R_slice HO_7.out
      subst eo62
      go_wp2_with (first | ((with_reducible refine gate_callee (f := 40) rfl ?_); refine goesL_ (some 91) rfl rfl Tryz.func40 (by kernel_rfl) rfl #[.int .i64 1000000000] rfl (by (try simp only [List.map_toArray, List.map_cons, List.map_nil]); first | done | rfl | (simp only [List.length_drop, List.length_take]; rfl)) ?_; (with_reducible refine (mummerref01_Digits.calls k1 1000000000 t300 _ A59.out).mono ?_); rintro e w63 ⟨rfl, hb⟩; refine ⟨_, rfl, ?_⟩; have n0_ := ak (Kd.R_below (by (with_reducible repeat (first | apply Kd.R_alloc | apply Kd.R_drewN | apply Kd.R_drew)); exact HO_5.out) hb); have n1_ := ak (Kd.R_below (by (with_reducible repeat (first | apply Kd.R_alloc | apply Kd.R_drewN | apply Kd.R_drew)); exact HO_6.out) hb); have n2_ := ak (Kd.R_below (by (with_reducible repeat (first | apply Kd.R_alloc | apply Kd.R_drewN | apply Kd.R_drew)); exact HO_7.out) hb); have n3_ := ak (below_step (by repeat (first | (with_reducible first | exact HB.out | apply wA | apply wN | apply wD) | exact HB.out)) hb); clear HO_5; clear HO_6; clear HO_7; clear HB; have HO_5 := n0_; have HO_6 := n1_; have HO_7 := n2_; have HB := n3_; clear n0_ n1_ n2_ n3_; (try clear hb); (try clear hb2); (try clear hk); (try clear hi)) | ((with_reducible refine gate_callee (f := 49) rfl ?_); refine goesL_ (some 93) rfl rfl Tryz.func49 (by kernel_rfl) rfl #[.string t300, .string x4_1] rfl (by (try simp only [List.map_toArray, List.map_cons, List.map_nil]); first | done | rfl | (simp only [List.length_drop, List.length_take]; rfl)) ?_; (with_reducible refine (mummerref01_less.calls t300 x4_1 true _ A60.out).mono ?_); rintro e w' ⟨rfl, ⟨nd, rfl⟩⟩; refine ⟨_, rfl, ?_⟩))
      go_ret2
      exact ⟨_, by first | rfl | (simp [errW_none, errW_some] <;> rfl) | (simp [*, errW_none, errW_some] <;> rfl), by first | exact Kd.R_nil _ _ _ _ _ | exact Kd.N_nil _ _ _ _ _ | exact Kd.V_nil _ _ _ _ _ | exact Kd.Q_nil _ _ _ _ _ | exact Kd.S_nil _ _ _ _ _, by repeat (first | (with_reducible first | exact HB.out | apply wA | apply wN | apply wD) | exact HB.out)⟩
     ·replace c61 := Bool.eq_false_iff.mpr c61
      subst c61
      have H1 : (mummerref01_ParseList.l1 k1 x5_1 x6_1 t267 ([] : List Int) 0) = some (r1, r2) := by rw [if_neg (show ¬ (false = true) by decide)] at H; exact H
      clear H
      have H := H1
      clear H1
      have H' := ak H
      clear H
      obtain ⟨Ao64, co64, eo64⟩ := Kd.R_slice HO_7.out
      subst eo64
      go_wp2_with (first | ((with_reducible refine gate_callee (f := 40) rfl ?_); refine goesL_ (some 91) rfl rfl Tryz.func40 (by kernel_rfl) rfl #[.int .i64 1000000000] rfl (by (try simp only [List.map_toArray, List.map_cons, List.map_nil]); first | done | rfl | (simp only [List.length_drop, List.length_take]; rfl)) ?_; (with_reducible refine (mummerref01_Digits.calls k1 1000000000 t300 _ A59.out).mono ?_); rintro e w65 ⟨rfl, hb⟩; refine ⟨_, rfl, ?_⟩; have n0_ := ak (Kd.R_below (by (with_reducible repeat (first | apply Kd.R_alloc | apply Kd.R_drewN | apply Kd.R_drew)); exact HO_5.out) hb); have n1_ := ak (Kd.R_below (by (with_reducible repeat (first | apply Kd.R_alloc | apply Kd.R_drewN | apply Kd.R_drew)); exact HO_6.out) hb); have n2_ := ak (Kd.R_below (by (with_reducible repeat (first | apply Kd.R_alloc | apply Kd.R_drewN | apply Kd.R_drew)); exact HO_7.out) hb); have n3_ := ak (below_step (by repeat (first | (with_reducible first | exact HB.out | apply wA | apply wN | apply wD) | exact HB.out)) hb); clear HO_5; clear HO_6; clear HO_7; clear HB; have HO_5 := n0_; have HO_6 := n1_; have HO_7 := n2_; have HB := n3_; clear n0_ n1_ n2_ n3_; (try clear hb); (try clear hb2); (try clear hk); (try clear hi)) | ((with_reducible refine gate_callee (f := 49) rfl ?_); refine goesL_ (some 93) rfl rfl Tryz.func49 (by kernel_rfl) rfl #[.string t300, .string x4_1] rfl (by (try simp only [List.map_toArray, List.map_cons, List.map_nil]); first | done | rfl | (simp only [List.length_drop, List.length_take]; rfl)) ?_; (with_reducible refine (mummerref01_less.calls t300 x4_1 false _ A60.out).mono ?_); rintro e w' ⟨rfl, ⟨nd, rfl⟩⟩; refine ⟨_, rfl, ?_⟩))
      go_loopg [10, 11] k1 (fun kq v10 v11 w' => ∃ (x10_2 : List Int) (x11_2 : Int), v11 = .int .i64 x11_2 ∧ Aside0 (mummerref01_ParseList.l1 kq x5_1 x6_1 t267 x10_2 x11_2 = some (r1, r2)) ∧ Aside0 (kq ≤ k1) ∧ Aside0 (Kd.R Kd.string 9 w' w.heap.size (fun k_ => some k_ ≠ (u6 : Value).ownBlock ∧ some k_ ≠ ((.slice Ao64 t267.length co64) : Value).ownBlock) u5 x5_1) ∧ Aside0 (Kd.R Kd.string 9 w' w.heap.size (fun k_ => some k_ ≠ (u5 : Value).ownBlock ∧ some k_ ≠ ((.slice Ao64 t267.length co64) : Value).ownBlock) u6 x6_1) ∧ Aside0 (Kd.R Kd.string 9 w' w.heap.size (fun k_ => some k_ ≠ (u5 : Value).ownBlock ∧ some k_ ≠ (u6 : Value).ownBlock) (.slice Ao64 t267.length co64) t267) ∧ Aside0 (Kd.R (Kd.int .i64) 3 w' w.heap.size (fun _ => True) v10 x10_2) ∧ Aside0 (Below w.heap.size w w'))
      case atStart => exact ⟨(([] : List Int)), (0), (by first | rfl | (simp; done) | (simp [*]; done)), H', ⟨Nat.le_refl _⟩, ⟨by (with_reducible repeat (first | apply Kd.R_alloc | apply Kd.R_drewN | apply Kd.R_drew)); exact HO_5.out⟩, ⟨by (with_reducible repeat (first | apply Kd.R_alloc | apply Kd.R_drewN | apply Kd.R_drew)); exact HO_6.out⟩, ⟨by (with_reducible repeat (first | apply Kd.R_alloc | apply Kd.R_drewN | apply Kd.R_drew)); exact HO_7.out⟩, ⟨by first | exact Kd.R_nil _ _ _ _ _ | exact Kd.N_nil _ _ _ _ _ | exact Kd.V_nil _ _ _ _ _ | exact Kd.Q_nil _ _ _ _ _ | exact Kd.S_nil _ _ _ _ _⟩, ⟨by repeat (first | (with_reducible first | exact HB.out | apply wA | apply wN | apply wD) | exact HB.out)⟩⟩
      case round =>
       clear H'
       try clear p2
       try clear q2
       try clear hx2
       try clear qi2
       try clear c3
       try clear c4
       try clear c5
       try clear c5b0
       try clear c6
       try clear p6
       try clear p28
       try clear q28
       try clear hx28
       try clear qi28
       try clear p29
       try clear q29
       try clear hx29
       try clear qi29
       try clear c30
       try clear c31
       try clear c31b0
       try clear c33
       try clear c33b0
       try clear c33b1
       try clear c35
       try clear c37
       try clear c37b0
       try clear c38
       try clear c38b0
       try clear c39
       try clear c40
       try clear c49
       try clear c50
       try clear c50b0
       try clear c51
       try clear c51b0
       try clear c52
       try clear c52b0
       try clear c52b1
       try clear c53
       try clear c54
       try clear c61
       try clear p64
       try clear hx282_0
       try clear hx284_0
       try clear hx285_0
       try clear hx292_0
       try clear hx293_0
       try clear p282
       try clear p284
       try clear p285
       try clear p292
       try clear p293
       try clear q282
       try clear q284
       try clear q285
       try clear q292
       try clear q293
       obtain ⟨x10_2, x11_2, rfl, HA, HK2, HO_5, HO_6, HO_7, HO_10, HB⟩ := hrel
       cases gk with
       | zero => exact absurd HA.out (by simp [mummerref01_ParseList.l1])
       | succ k2 =>
        have H := HA.out
        clear HA
        simp only [mummerref01_ParseList.l1] at H
        by_cases c66 : x11_2 < (t267.length : Int)
        ·rw [if_pos c66] at H
         have c66b0 : decide (x11_2 < (t267.length : Int)) = true := decide_eq_true c66
         clear c66
         by_cases c67 : 0 ≤ x11_2
         ·rw [if_pos c67] at H
          have c67b0 : decide (0 ≤ x11_2) = true := decide_eq_true c67
          clear c67
          by_cases c68 : x11_2 < (x5_1.length : Int)
          ·rw [if_pos c68] at H
           have c68b0 : decide (x11_2 < (x5_1.length : Int)) = true := decide_eq_true c68
           clear c68
           replace H := Option.bind_eq_some_iff.mp H
           obtain ⟨⟨t303, t304⟩, A690, H⟩ := H
           replace H : (if x11_2 < (x6_1.length : Int) then ((mummerref01_Int.f k2 (rdOf ByteArray.empty x6_1 x11_2) 0 1000000000).bind fun bt306 => (mummerref01_ParseList.l2 k2 x5_1 x6_1 t267 x10_2 x11_2 bt306.1 t303)) else (none)) = some (r1, r2) := H
           have A69 := ak A690
           clear A690
           by_cases c70 : x11_2 < (x6_1.length : Int)
           ·rw [if_pos c70] at H
            have c70b0 : decide (x11_2 < (x6_1.length : Int)) = true := decide_eq_true c70
            clear c70
            replace H := Option.bind_eq_some_iff.mp H
            obtain ⟨⟨t306, t307⟩, A710, H⟩ := H
            replace H : (mummerref01_ParseList.l2 k2 x5_1 x6_1 t267 x10_2 x11_2 t306 t303) = some (r1, r2) := H
            have A71 := ak A710
            clear A710
            have H' := ak H
            clear H
            obtain ⟨Ao72, co72, eo72⟩ := Kd.R_slice HO_5.out
            subst eo72
            have p302 : 0 ≤ (x11_2 : Int) := of_decide_eq_true (by first | (with_reducible assumption) | assumption)
            have q302 : x11_2 < (x5_1.length : Int) := of_decide_eq_true (by first | (with_reducible assumption) | assumption)
            obtain ⟨ad302, e302, hx302_0⟩ := Kd.at_string (Kd.R_reads' HO_5.out).2.2 x11_2 p302 q302
            cases e302
            replace p302 := eq_true p302
            replace q302 := eq_true q302
            go_wp2_with (first | ((with_reducible refine gate_callee (f := 51) rfl ?_); refine goesL_ (some 105) rfl rfl Tryz.func51 (by kernel_rfl) rfl #[.string (rdOf ByteArray.empty x5_1 x11_2), .int .i64 0, .int .i64 1000000000] rfl (by (try simp only [List.map_toArray, List.map_cons, List.map_nil]); first | done | rfl | (simp only [List.length_drop, List.length_take]; rfl)) ?_; (with_reducible refine (mummerref01_Int.calls k2 (rdOf ByteArray.empty x5_1 x11_2) 0 1000000000 t303 t304 _ A69.out).mono ?_); rintro e w' ⟨rfl, ⟨nd, rfl⟩⟩; refine ⟨_, rfl, ?_⟩; obtain ⟨Ao73, co73, eo73⟩ := Kd.R_slice HO_6.out; subst eo73; have p305 : 0 ≤ (x11_2 : Int) := of_decide_eq_true (by first | (with_reducible assumption) | assumption); have q305 : x11_2 < (x6_1.length : Int) := of_decide_eq_true (by first | (with_reducible assumption) | assumption); obtain ⟨ad305, e305, hx305_0⟩ := Kd.at_string (Kd.R_reads' HO_6.out).2.2 x11_2 p305 q305; cases e305; replace p305 := eq_true p305; replace q305 := eq_true q305) | ((with_reducible refine gate_callee (f := 51) rfl ?_); refine goesL_ (some 113) rfl rfl Tryz.func51 (by kernel_rfl) rfl #[.string (rdOf ByteArray.empty x6_1 x11_2), .int .i64 0, .int .i64 1000000000] rfl (by (try simp only [List.map_toArray, List.map_cons, List.map_nil]); first | done | rfl | (simp only [List.length_drop, List.length_take]; rfl)) ?_; (with_reducible refine (mummerref01_Int.calls k2 (rdOf ByteArray.empty x6_1 x11_2) 0 1000000000 t306 t307 _ A71.out).mono ?_); rintro e w' ⟨rfl, ⟨nd, rfl⟩⟩; refine ⟨_, rfl, ?_⟩))
            go_loopg [10, 16] k2 (fun kq v10 v16 w' => ∃ (x10_3 : List Int) (x16_3 : Int), v16 = .int .i64 x16_3 ∧ Aside0 (mummerref01_ParseList.l2 kq x5_1 x6_1 t267 x10_3 x11_2 t306 x16_3 = some (r1, r2)) ∧ Aside0 (kq ≤ k2) ∧ Aside0 (Kd.R Kd.string 9 w' w.heap.size (fun k_ => some k_ ≠ ((.slice (some ad305) x6_1.length co73) : Value).ownBlock ∧ some k_ ≠ ((.slice Ao64 t267.length co64) : Value).ownBlock) (.slice (some ad302) x5_1.length co72) x5_1) ∧ Aside0 (Kd.R Kd.string 9 w' w.heap.size (fun k_ => some k_ ≠ ((.slice (some ad302) x5_1.length co72) : Value).ownBlock ∧ some k_ ≠ ((.slice Ao64 t267.length co64) : Value).ownBlock) (.slice (some ad305) x6_1.length co73) x6_1) ∧ Aside0 (Kd.R Kd.string 9 w' w.heap.size (fun k_ => some k_ ≠ ((.slice (some ad302) x5_1.length co72) : Value).ownBlock ∧ some k_ ≠ ((.slice (some ad305) x6_1.length co73) : Value).ownBlock) (.slice Ao64 t267.length co64) t267) ∧ Aside0 (Kd.R (Kd.int .i64) 3 w' w.heap.size (fun _ => True) v10 x10_3) ∧ Aside0 (Below w.heap.size w w'))
            case atStart => exact ⟨(x10_2), (t303), (by first | rfl | (simp; done) | (simp [*]; done)), H', ⟨Nat.le_refl _⟩, ⟨by (with_reducible repeat (first | apply Kd.R_alloc | apply Kd.R_drewN | apply Kd.R_drew)); exact HO_5.out⟩, ⟨by (with_reducible repeat (first | apply Kd.R_alloc | apply Kd.R_drewN | apply Kd.R_drew)); exact HO_6.out⟩, ⟨by (with_reducible repeat (first | apply Kd.R_alloc | apply Kd.R_drewN | apply Kd.R_drew)); exact HO_7.out⟩, ⟨by (with_reducible repeat (first | apply Kd.R_alloc | apply Kd.R_drewN | apply Kd.R_drew)); exact HO_10.out⟩, ⟨by repeat (first | (with_reducible first | exact HB.out | apply wA | apply wN | apply wD) | exact HB.out)⟩⟩
            case round =>
             clear H'
             try clear p2
             try clear q2
             try clear hx2
             try clear qi2
             try clear c3
             try clear p3
             try clear q3
             try clear hx3
             try clear c4
             try clear c5
             try clear c5b0
             try clear c6
             try clear p6
             try clear c7
             try clear p28
             try clear q28
             try clear hx28
             try clear qi28
             try clear p29
             try clear q29
             try clear hx29
             try clear qi29
             try clear c30
             try clear p30
             try clear q30
             try clear hx30
             try clear c31
             try clear c31b0
             try clear c33
             try clear c33b0
             try clear c33b1
             try clear c35
             try clear c37
             try clear c37b0
             try clear c38
             try clear c38b0
             try clear c39
             try clear c40
             try clear c49
             try clear c50
             try clear c50b0
             try clear c51
             try clear c51b0
             try clear c52
             try clear c52b0
             try clear c52b1
             try clear c53
             try clear c54
             try clear c61
             try clear p64
             try clear c66
             try clear c66b0
             try clear c67
             try clear c67b0
             try clear c68
             try clear c68b0
             try clear c70
             try clear c70b0
             try clear hx282_0
             try clear hx284_0
             try clear hx285_0
             try clear hx292_0
             try clear hx293_0
             try clear hx302_0
             try clear hx305_0
             try clear p2
             try clear p28
             try clear p282
             try clear p284
             try clear p285
             try clear p29
             try clear p292
             try clear p293
             try clear p302
             try clear p305
             try clear p6
             try clear p64
             try clear q2
             try clear q28
             try clear q282
             try clear q284
             try clear q285
             try clear q29
             try clear q292
             try clear q293
             try clear q302
             try clear q305
             obtain ⟨x10_3, x16_3, rfl, HA, HK3, HO_5, HO_6, HO_7, HO_10, HB⟩ := hrel
             cases gk with
             | zero => exact absurd HA.out (by simp [mummerref01_ParseList.l2])
             | succ k3 =>
              have H := HA.out
              clear HA
              simp only [mummerref01_ParseList.l2] at H
              by_cases c74 : x16_3 ≤ t306
              ·rw [if_pos c74] at H
               have c74b0 : decide (x16_3 ≤ t306) = true := decide_eq_true c74
               clear c74
               by_cases c75 : (x10_3.length : Int) = 500
               ·rw [if_pos c75] at H
                have c75b0 : ((x10_3.length : Int) == 500) = true := beq_iff_eq.mpr c75
                have c75b1 : ((x10_3.length : Int) != 500) = false := bne_eq_false_iff_eq.mpr c75
                clear c75
                simp only [Option.some.injEq, Prod.mk.injEq] at H
                obtain ⟨rfl, rfl⟩ := H
                obtain ⟨Ao76, co76, eo76⟩ := Kd.R_slice HO_10.out
                subst eo76
                go_wp2
                go_ret2
                exact ⟨_, by first | rfl | (simp [errW_none, errW_some] <;> rfl) | (simp [*, errW_none, errW_some] <;> rfl), by first | exact Kd.R_nil _ _ _ _ _ | exact Kd.N_nil _ _ _ _ _ | exact Kd.V_nil _ _ _ _ _ | exact Kd.Q_nil _ _ _ _ _ | exact Kd.S_nil _ _ _ _ _, by repeat (first | (with_reducible first | exact HB.out | apply wA | apply wN | apply wD) | exact HB.out)⟩
               ·rw [if_neg c75] at H
                have c75b0 : ((x10_3.length : Int) == 500) = false := beq_eq_false_iff_ne.mpr c75
                have c75b1 : ((x10_3.length : Int) != 500) = true := bne_iff_ne.mpr c75
                by_cases c77 : x10_3.length < 17592186044416
                ·rw [if_pos c77] at H
                 have LMc77 := ak c77
                 clear c77
                 obtain ⟨y308, hy308⟩ : ∃ y_ : List Int, y_ = (x10_3 ++ [x16_3]) := ⟨_, rfl⟩
                 replace H : (mummerref01_ParseList.l2 k3 x5_1 x6_1 t267 y308 x11_2 t306 (wrap64 (x16_3 + 1))) = some (r1, r2) := by first | (rw [hy308]; with_reducible exact H) | (have H2_ := (Option.bind_some _ _).symm.trans H; rw [hy308]; with_reducible exact H2_) | (have H2_ := (Option.bind_some _ _).symm.trans H; with_reducible exact H2_) | with_reducible exact H | (rw [hy308]; exact H) | exact H
                 have Ny308 := ak hy308
                 clear hy308
                 have H' := ak H
                 clear H
                 obtain ⟨Ao78, co78, eo78⟩ := Kd.R_slice HO_10.out
                 subst eo78
                 go_wp2_with (first | ((with_reducible refine gate_builtin (b := .append) (xs := #[.tmp 125, .tmp 127]) rfl ?_); (try (refine gate_guard (by rfl) ?_; dsimp only)); at_builtin; refine Kd.R_append (Kd.int .i64) (w0 := w) w.heap.size rfl (.tmp 125) (.tmp 127) 28 3 (.int .i64 0) 8 rfl Tryz.underlying28 info3 rfl (by decide) (by omega) (.slice Ao78 x10_3.length co78) x10_3 x16_3 [.int .i64 x16_3] (fun _ => True) (fun _ => False) rfl rfl ?aP (fun _ hk => hk.elim) ?aF ?aO ?aB ?aS ?aL ?_; (case aP => exact rfl); (case aB => exact (by repeat (first | (with_reducible first | exact HB.out | apply wA | apply wN | apply wD) | exact HB.out))); (case aF => exact (fun _ _ => trivial)); (case aO => exact (by (with_reducible repeat (first | apply Kd.R_alloc | apply Kd.R_drewN | apply Kd.R_drew)); exact HO_10.out)); (case aS => exact (below_size (by repeat (first | (with_reducible first | exact HB.out | apply wA | apply wN | apply wD) | exact HB.out)))); (case aL => have := LMc77.out; omega); intro v309 w79 ho hb hg hat; rw [← Ny308.out] at ho; have n0_ := ak (Kd.R_over' (by (with_reducible repeat (first | apply Kd.R_alloc | apply Kd.R_drewN | apply Kd.R_drew)); exact HO_5.out) (Kd.R_typed (by (with_reducible repeat (first | apply Kd.R_alloc | apply Kd.R_drewN | apply Kd.R_drew)); exact HO_10.out)) (by decide) hg); have n1_ := ak (Kd.R_over' (by (with_reducible repeat (first | apply Kd.R_alloc | apply Kd.R_drewN | apply Kd.R_drew)); exact HO_6.out) (Kd.R_typed (by (with_reducible repeat (first | apply Kd.R_alloc | apply Kd.R_drewN | apply Kd.R_drew)); exact HO_10.out)) (by decide) hg); have n2_ := ak (Kd.R_over' (by (with_reducible repeat (first | apply Kd.R_alloc | apply Kd.R_drewN | apply Kd.R_drew)); exact HO_7.out) (Kd.R_typed (by (with_reducible repeat (first | apply Kd.R_alloc | apply Kd.R_drewN | apply Kd.R_drew)); exact HO_10.out)) (by decide) hg); have n3_ := ak (hb); have n4_ := ak (ho); clear HO_5; clear HO_6; clear HO_7; clear HB; clear HO_10; have HO_5 := n0_; have HO_6 := n1_; have HO_7 := n2_; have HB := n3_; have HO310 := n4_; clear n0_ n1_ n2_ n3_ n4_; clear ho hb hg hat))
                 go_roundg k3
                 case measure => have := HK1.out; have := HK2.out; have := HK3.out; omega
                 case rel => exact ⟨(y308), (wrap64 (x16_3 + 1)), (by first | rfl | (simp; done) | (simp [*]; done)), H', ⟨by have := HK1.out; have := HK2.out; have := HK3.out; omega⟩, ⟨by (with_reducible repeat (first | apply Kd.R_alloc | apply Kd.R_drewN | apply Kd.R_drew)); exact HO_5.out⟩, ⟨by (with_reducible repeat (first | apply Kd.R_alloc | apply Kd.R_drewN | apply Kd.R_drew)); exact HO_6.out⟩, ⟨by (with_reducible repeat (first | apply Kd.R_alloc | apply Kd.R_drewN | apply Kd.R_drew)); exact HO_7.out⟩, ⟨by (with_reducible repeat (first | apply Kd.R_alloc | apply Kd.R_drewN | apply Kd.R_drew)); exact HO310.out⟩, ⟨by repeat (first | (with_reducible first | exact HB.out | apply wA | apply wN | apply wD) | exact HB.out)⟩⟩
                ·rw [if_neg c77] at H
                 exact absurd H (by simp)
              ·rw [if_neg c74] at H
               have c74b0 : decide (x16_3 ≤ t306) = false := decide_eq_false c74
               clear c74
               have H' := ak H
               clear H
               go_wp2
               go_roundg k3
               case measure => have := HK1.out; have := HK2.out; have := HK3.out; omega
               case rel => exact ⟨(x10_3), (wrap64 (x11_2 + 1)), (by first | rfl | (simp; done) | (simp [*]; done)), H', ⟨by have := HK1.out; have := HK2.out; have := HK3.out; omega⟩, ⟨by (with_reducible repeat (first | apply Kd.R_alloc | apply Kd.R_drewN | apply Kd.R_drew)); exact HO_5.out⟩, ⟨by (with_reducible repeat (first | apply Kd.R_alloc | apply Kd.R_drewN | apply Kd.R_drew)); exact HO_6.out⟩, ⟨by (with_reducible repeat (first | apply Kd.R_alloc | apply Kd.R_drewN | apply Kd.R_drew)); exact HO_7.out⟩, ⟨by (with_reducible repeat (first | apply Kd.R_alloc | apply Kd.R_drewN | apply Kd.R_drew)); exact HO_10.out⟩, ⟨by repeat (first | (with_reducible first | exact HB.out | apply wA | apply wN | apply wD) | exact HB.out)⟩⟩
           ·rw [if_neg c70] at H
            exact absurd H (by simp)
          ·rw [if_neg c68] at H
           exact absurd H (by simp)
         ·rw [if_neg c67] at H
          exact absurd H (by simp)
        ·rw [if_neg c66] at H
         have c66b0 : decide (x11_2 < (t267.length : Int)) = false := decide_eq_false c66
         clear c66
         simp only [Option.some.injEq, Prod.mk.injEq] at H
         obtain ⟨rfl, rfl⟩ := H
         go_wp2
         go_ret2
         exact ⟨_, by first | rfl | (simp [errW_none, errW_some] <;> rfl) | (simp [*, errW_none, errW_some] <;> rfl), by (with_reducible repeat (first | apply Kd.R_alloc | apply Kd.R_drewN | apply Kd.R_drew)); exact HO_10.out, by repeat (first | (with_reducible first | exact HB.out | apply wA | apply wN | apply wD) | exact HB.out)⟩
end Go.Proofs.YtkalbdeopogbpaaGreatDoor.P
namespace Go.Proofs.YtkalbdeopogbpaaGreatDoor.P
open Go.RowKit Go.Proofs.YtkalbdeopogbpaaGreatDoorW.PrintWords Go.Proofs.YtkalbdeopogbpaaGreatDoorW.PrintLast Go.Proofs.YtkalbdeopogbpaaGreatDoorW.PrintMore
attribute [local go_sem] max2_int min2_int max_two min_two max_three min_three max_four min_four   -- for this text's walks alone
set_option linter.unusedVariables false
set_option linter.unusedSimpArgs false
def mummerref09_scope.f (a0 : Int) : Option (Bool) := if a0 ≥ 0 then (some (decide (a0 ≤ 65535))) else (some false)
set_option maxHeartbeats 8000000 in
set_option maxRecDepth 100000 in
theorem mummerref09_scope.calls (a0 : Int) (r : Bool) (w : World) (h : mummerref09_scope.f a0 = some r) :
    Calls Tryz.prog 52 #[.int .i64 a0] w fun e w' => e = .returned (.bool r) ∧ Drawn0 w w' := by
  have H : (if a0 ≥ 0 then (some (decide (a0 ≤ 65535))) else (some false)) = some r := h
  clear h
  by_cases c2 : a0 ≥ 0
  · rw [if_pos c2] at H
    have c2b0 : decide (0 ≤ a0) = true := decide_eq_true c2
    clear c2
    obtain rfl := Option.some.inj H
    go_enter Tryz.func52, Tryz.ntmps52
    go_wp2
    go_ret
    exact ⟨by first | rfl | (simp; done) | (simp [*]; done), by repeat (first | exact Drawn0.refl _ | apply Drawn0.step)⟩
  · rw [if_neg c2] at H
    have c2b0 : decide (0 ≤ a0) = false := decide_eq_false c2
    clear c2
    obtain rfl := Option.some.inj H
    go_enter Tryz.func52, Tryz.ntmps52
    go_wp2
    go_ret
    exact ⟨by first | rfl | (simp; done) | (simp [*]; done), by repeat (first | exact Drawn0.refl _ | apply Drawn0.step)⟩
def mummerref09_set.f (a0 : ByteArray) : Option (ByteArray × Int) := if (a0.size : Int) > 20000 then (some ((⟨#[]⟩ : ByteArray), 3)) else (some (a0, 0))
set_option maxHeartbeats 8000000 in
set_option maxRecDepth 100000 in
theorem mummerref09_set.calls (a0 : ByteArray) (r1 : ByteArray) (r2 : Int) (w : World) (h : mummerref09_set.f a0 = some (r1, r2)) :
    Calls Tryz.prog 53 #[.string a0] w fun e w' => e = .returned (.tuple #[.string r1, .int .i64 r2]) ∧ Drawn0 w w' := by
  have H : (if (a0.size : Int) > 20000 then (some ((⟨#[]⟩ : ByteArray), 3)) else (some (a0, 0))) = some (r1, r2) := h
  clear h
  by_cases c2 : (a0.size : Int) > 20000
  · rw [if_pos c2] at H
    have c2b0 : decide (20000 < (a0.size : Int)) = true := decide_eq_true c2
    have c2b1 : decide (20000 < a0.size) = true := decide_eq_true (by omega)
    clear c2
    simp only [Option.some.injEq, Prod.mk.injEq] at H
    obtain ⟨rfl, rfl⟩ := H
    go_enter Tryz.func53, Tryz.ntmps53
    go_wp2
    go_ret2
    exact ⟨by first | rfl | (simp; done) | (simp [*]; done), by repeat (first | exact Drawn0.refl _ | apply Drawn0.step)⟩
  · rw [if_neg c2] at H
    have c2b0 : decide (20000 < (a0.size : Int)) = false := decide_eq_false c2
    have c2b1 : decide (20000 < a0.size) = false := decide_eq_false (by omega)
    clear c2
    simp only [Option.some.injEq, Prod.mk.injEq] at H
    obtain ⟨rfl, rfl⟩ := H
    go_enter Tryz.func53, Tryz.ntmps53
    go_wp2
    go_ret2
    exact ⟨by first | rfl | (simp; done) | (simp [*]; done), by repeat (first | exact Drawn0.refl _ | apply Drawn0.step)⟩
end Go.Proofs.YtkalbdeopogbpaaGreatDoor.P
namespace Go.Proofs.YtkalbdeopogbpaaGreatDoor.P
open Go.RowKit Go.Proofs.YtkalbdeopogbpaaGreatDoorW.PrintWords Go.Proofs.YtkalbdeopogbpaaGreatDoorW.PrintLast Go.Proofs.YtkalbdeopogbpaaGreatDoorW.PrintMore
attribute [local go_sem] max2_int min2_int max_two min_two max_three min_three max_four min_four   -- for this text's walks alone
set_option linter.unusedVariables false
set_option linter.unusedSimpArgs false
mutual
def mummerref09_Of.l0 : Nat → List Int → List Bool → Int → Option (ByteArray × Int)
  | 0, _, _, _ => none
  | k + 1, x0, x4, x5 => if x5 < (x0.length : Int) then (if 0 ≤ x5 then ((mummerref09_scope.f (rd x0 x5)).bind fun t315 => (if t315 = true then (if 0 ≤ (rd x0 x5) then (if (rd x0 x5) < (x4.length : Int) then (mummerref09_Of.l0 k x0 (x4.set ((rd x0 x5) : Int).toNat true) (wrap64 (x5 + 1))) else (none)) else (none)) else (some ((⟨#[]⟩ : ByteArray), 7)))) else (none)) else (mummerref09_Of.l1 k x4 ([] : List Int) 0)
def mummerref09_Of.l1 : Nat → List Bool → List Int → Int → Option (ByteArray × Int)
  | 0, _, _, _ => none
  | k + 1, x4, x6, x7 => if x7 < (x4.length : Int) then (if 0 ≤ x7 then (if rdOf false x4 x7 = true then ((some (([(wrap64 (Int.tdiv x7 256)) % 256, (Int.tmod x7 256) % 256] : List Int) : List Int)).bind fun y319 => (if x6.length + y319.length < 140737488355328 then (mummerref09_Of.l1 k x4 (x6 ++ y319) (wrap64 (x7 + 1))) else (none))) else (mummerref09_Of.l1 k x4 x6 (wrap64 (x7 + 1)))) else (none)) else ((mummerref09_set.f (strOfNums x6)).bind fun bt325 => (some (bt325.1, bt325.2)))
end
def mummerref09_Of.f (k : Nat) (l0 : List Int) : Option (ByteArray × Int) := if 65536 ≤ 281474976710656 then (mummerref09_Of.l0 k l0 (List.replicate 65536 false) 0) else (none)
set_option maxHeartbeats 8000000 in
set_option maxRecDepth 100000 in
theorem mummerref09_Of.calls (k : Nat) (A0 : Option Addr) (c0 : Nat) (l0 : List Int) (r1 : ByteArray) (r2 : Int) (w : World) (hr0 : Kd.C (Kd.int .i64) w A0 l0.length l0) (hc0 : l0.length ≤ c0) (h : mummerref09_Of.f k l0 = some (r1, r2)) :
    Calls Tryz.prog 20 #[.slice A0 l0.length c0] w fun e w' => e = .returned (.tuple #[.string r1, .int .i64 r2]) ∧ Below w.heap.size w w' := by
  have HR0 := ak hr0
  have HC0 := ak hc0
  clear hr0 hc0
  have HB := ak (Below.refl w.heap.size w)
  have H : (if 65536 ≤ 281474976710656 then (mummerref09_Of.l0 k l0 (List.replicate 65536 false) 0) else (none)) = some (r1, r2) := h
  clear h
  by_cases c2 : 65536 ≤ 281474976710656
  · rw [if_pos c2] at H
    have c2b0 := eq_true c2
    have c2b1 : decide (65536 ≤ 281474976710656) = true := decide_eq_true c2
    clear c2
    obtain ⟨y311, hy311⟩ : ∃ y_ : List Bool, y_ = (List.replicate 65536 false) := ⟨_, rfl⟩
    replace H : (mummerref09_Of.l0 k l0 y311 0) = some (r1, r2) := by first | (rw [hy311]; with_reducible exact H) | (have H2_ := (Option.bind_some _ _).symm.trans H; rw [hy311]; with_reducible exact H2_) | (have H2_ := (Option.bind_some _ _).symm.trans H; with_reducible exact H2_) | with_reducible exact H | (rw [hy311]; exact H) | exact H
    have Ny311 := ak hy311
    clear hy311
    have H' := ak H
    clear H
    go_enter Tryz.func20, Tryz.ntmps20
    go_wp2_with (first | ((with_reducible refine gate_dst (N := 8) rfl ?_); refine Kd.R_make Kd.bool _ 4 rfl (N := 8) rfl 75 _ _ rfl 65536 rfl rfl Tryz.underlying75 (.bool false) 1 info4 rfl (by decide) (by omega) false (ok := fun _ => True) (okp := fun _ => True) rfl (fun _ hk => hk) trivial (by omega) (by omega) (Below.refl _ _) (Nat.le_refl _) ?_; intro v312 w3 ho4 hb hg_ hnew_; clear hg_ hnew_; (first | rw [← Ny311.out] at ho4 | (simp only [Int.reduceToNat] at ho4; rw [← Ny311.out] at ho4)); have n0_ := ak (Kd.R_lower ho4 (below_size (by repeat (first | (with_reducible first | exact HB.out | apply wA | apply wN | apply wD) | exact HB.out)))); have n1_ := ak (below_step (by repeat (first | (with_reducible first | exact HB.out | apply wA | apply wN | apply wD) | exact HB.out)) hb); clear HB; have HO313 := n0_; have HB := n1_; clear n0_ n1_; clear hb ho4))
    go_loopg [5] k (fun kq v5 w' => ∃ (x4_1 : List Bool) (x5_1 : Int), v5 = .int .i64 x5_1 ∧ Aside0 (mummerref09_Of.l0 kq l0 x4_1 x5_1 = some (r1, r2)) ∧ Aside0 (kq ≤ k) ∧ Aside0 (Kd.R Kd.bool 4 w' w.heap.size (fun _ => True) v312 x4_1) ∧ Aside0 (Below w.heap.size w w'))
    case atStart => exact ⟨(y311), (0), (by first | rfl | (simp; done) | (simp [*]; done)), H', ⟨Nat.le_refl _⟩, ⟨by (with_reducible repeat (first | apply Kd.R_alloc | apply Kd.R_drewN | apply Kd.R_drew)); exact HO313.out⟩, ⟨by repeat (first | (with_reducible first | exact HB.out | apply wA | apply wN | apply wD) | exact HB.out)⟩⟩
    case round =>
      clear H'
      try clear c2
      try clear c2b0
      try clear c2b1
      try clear p2
      obtain ⟨x4_1, x5_1, rfl, HA, HK1, HO_4, HB⟩ := hrel
      cases gk with
      | zero => exact absurd HA.out (by simp [mummerref09_Of.l0])
      | succ k1 =>
        have H := HA.out
        clear HA
        simp only [mummerref09_Of.l0] at H
        by_cases c5 : x5_1 < (l0.length : Int)
        · rw [if_pos c5] at H
          have c5b0 : decide (x5_1 < (l0.length : Int)) = true := decide_eq_true c5
          clear c5
          by_cases c6 : 0 ≤ x5_1
          · rw [if_pos c6] at H
            have c6b0 : decide (0 ≤ x5_1) = true := decide_eq_true c6
            clear c6
            replace H := Option.bind_eq_some_iff.mp H
            obtain ⟨t315, A70, H⟩ := H
            replace H : (if t315 = true then (if 0 ≤ (rd l0 x5_1) then (if (rd l0 x5_1) < (x4_1.length : Int) then (mummerref09_Of.l0 k1 l0 (x4_1.set ((rd l0 x5_1) : Int).toNat true) (wrap64 (x5_1 + 1))) else (none)) else (none)) else (some ((⟨#[]⟩ : ByteArray), 7))) = some (r1, r2) := H
            have A7 := ak A70
            clear A70
            by_cases c8 : t315 = true
            · subst c8
              have H1 : (if 0 ≤ (rd l0 x5_1) then (if (rd l0 x5_1) < (x4_1.length : Int) then (mummerref09_Of.l0 k1 l0 (x4_1.set ((rd l0 x5_1) : Int).toNat true) (wrap64 (x5_1 + 1))) else (none)) else (none)) = some (r1, r2) := by rw [if_pos rfl] at H; exact H
              clear H
              have H := H1
              clear H1
              by_cases c9 : 0 ≤ (rd l0 x5_1)
              · rw [if_pos c9] at H
                have c9b0 : decide (0 ≤ (rd l0 x5_1)) = true := decide_eq_true c9
                clear c9
                by_cases c10 : (rd l0 x5_1) < (x4_1.length : Int)
                · rw [if_pos c10] at H
                  have c10b0 : decide ((rd l0 x5_1) < (x4_1.length : Int)) = true := decide_eq_true c10
                  clear c10
                  obtain ⟨y317, hy317⟩ : ∃ y_ : List Bool, y_ = (x4_1.set ((rd l0 x5_1) : Int).toNat true) := ⟨_, rfl⟩
                  replace H : (mummerref09_Of.l0 k1 l0 y317 (wrap64 (x5_1 + 1))) = some (r1, r2) := by first | (rw [hy317]; with_reducible exact H) | (have H2_ := (Option.bind_some _ _).symm.trans H; rw [hy317]; with_reducible exact H2_) | (have H2_ := (Option.bind_some _ _).symm.trans H; with_reducible exact H2_) | with_reducible exact H | (rw [hy317]; exact H) | exact H
                  have Ny317 := ak hy317
                  clear hy317
                  have H' := ak H
                  clear H
                  have p314 : 0 ≤ (x5_1 : Int) := of_decide_eq_true (by first | (with_reducible assumption) | assumption)
                  have q314 : x5_1 < (l0.length : Int) := of_decide_eq_true (by first | (with_reducible assumption) | assumption)
                  obtain ⟨ad314, e314, hx314_0⟩ := Kd.at_int HR0.out x5_1 p314 q314
                  cases e314
                  replace hx314_0 := (HB.out.cell (World.block_lt_of_cell? w _ hx314_0)).trans hx314_0
                  replace p314 := eq_true p314
                  replace q314 := eq_true q314
                  go_wp2_with (first | ((with_reducible refine gate_callee (f := 52) rfl ?_); refine goesL_ (some 19) rfl rfl Tryz.func52 (by kernel_rfl) rfl #[.int .i64 (rd l0 x5_1)] rfl (by (try simp only [List.map_toArray, List.map_cons, List.map_nil]); first | done | rfl | (simp only [List.length_drop, List.length_take]; rfl)) ?_; (with_reducible refine (mummerref09_scope.calls (rd l0 x5_1) true _ A7.out).mono ?_); rintro e w' ⟨rfl, ⟨nd, rfl⟩⟩; refine ⟨_, rfl, ?_⟩; (try (rw [drewN_self wr]; generalize hq_ : World.drewN wr _ = wr; have n0_ : Aside0 (Kd.R Kd.bool 4 wr w.heap.size (fun _ => True) v312 x4_1) := ⟨by rw [← hq_]; exact (by (with_reducible repeat (first | apply Kd.R_alloc | apply Kd.R_drewN | apply Kd.R_drew)); exact HO_4.out)⟩; have n1_ : Aside0 (Below w.heap.size w wr) := ⟨by rw [← hq_]; exact (by repeat (first | (with_reducible first | exact HB.out | apply wA | apply wN | apply wD) | exact HB.out))⟩; clear HO_4 HB hq_; have HO_4 := n0_; have HB := n1_; clear n0_ n1_)); have p316 : 0 ≤ (x5_1 : Int) := of_decide_eq_true (by first | (with_reducible assumption) | assumption); have q316 : x5_1 < (l0.length : Int) := of_decide_eq_true (by first | (with_reducible assumption) | assumption); obtain ⟨ad316, e316, hx316_0⟩ := Kd.at_int HR0.out x5_1 p316 q316; obtain rfl : ad314 = ad316 := (by injection e316); replace hx316_0 := (HB.out.cell (World.block_lt_of_cell? w _ hx316_0)).trans hx316_0; replace p316 := eq_true p316; replace q316 := eq_true q316; have p11 : 0 ≤ ((rd l0 x5_1) : Int) := of_decide_eq_true (by first | (with_reducible assumption) | assumption); have q11 : ((rd l0 x5_1) : Int) < ((x4_1.length : Int) : Int) := of_decide_eq_true (by first | (with_reducible assumption) | assumption); obtain ⟨go11, co11, eo11, gb11, gl11, cl11, HG11⟩ := Kd.R_form HO_4.out (by omega); (first | cases eo11 | (injection eo11 with ea_ en_ ec_; (first | subst ea_ | (injection ea_ with ea_; subst ea_)); subst ec_; clear en_)); have GB11 := ak gb11; have GG11 := ak HG11; clear gb11 gl11 HG11; obtain ⟨hx11_0, hf11_0⟩ := Kd.R_celln false HO_4.out ((rd l0 x5_1) : Int) p11 q11; replace p11 := eq_true p11; replace q11 := eq_true q11; obtain ⟨hy12_, hz12_⟩ := Kd.R_celln false HO_4.out ((rd l0 x5_1) : Int) (of_decide_eq_true (by first | (with_reducible assumption) | assumption)) (of_decide_eq_true (by first | (with_reducible assumption) | assumption)); have HP12 := Kd.R_putg HO_4.out ((rd l0 x5_1) : Int) true) | ((with_reducible refine gate_store (t := 4) (p := 26) rfl ?_); refine store_event (t := 4) (p := 26) (v := ?vo_w13) (w1 := (wr.setCell ⟨go11, ((rd l0 x5_1) : Int).toNat, none⟩ (.bool true))) ?hg ?ho ?hn ?hr ?_; (case ho => rfl); (case hg => rfl); (case hn => rfl); (case hr => first | (go_simp; done) | (go_simp; rfl)); intro w13 hw; have hg : wr.grownBy w13 (some go11) := (by rw [hw]; exact HP12.2); have hp_ : Kd.R Kd.bool 4 w13 w.heap.size (fun _ => True) (.slice (some ⟨go11, 0, none⟩) x4_1.length co11) y317 := (by rw [hw, Ny317.out]; exact HP12.1); clear HP12; have n0_ := ak (hp_); have n1_ := ak ((by rw [hw]; exact below_set (HB.out) GB11.out : Below w.heap.size w w13)); clear HO_4; clear HB; have HO_4 := n0_; have HB := n1_; clear n0_ n1_; clear hg hw hp_))
                  go_roundg k1
                  case measure => have := HK1.out; omega
                  case rel => exact ⟨(y317), (wrap64 (x5_1 + 1)), (by first | rfl | (simp; done) | (simp [*]; done)), H', ⟨by have := HK1.out; omega⟩, ⟨by (with_reducible repeat (first | apply Kd.R_alloc | apply Kd.R_drewN | apply Kd.R_drew)); exact HO_4.out⟩, ⟨by repeat (first | (with_reducible first | exact HB.out | apply wA | apply wN | apply wD) | exact HB.out)⟩⟩
                · rw [if_neg c10] at H
                  exact absurd H (by simp)
              · rw [if_neg c9] at H
                exact absurd H (by simp)
            · replace c8 := Bool.eq_false_iff.mpr c8
              subst c8
              have H1 : (some ((⟨#[]⟩ : ByteArray), 7)) = some (r1, r2) := by rw [if_neg (show ¬ (false = true) by decide)] at H; exact H
              clear H
              have H := H1
              clear H1
              simp only [Option.some.injEq, Prod.mk.injEq] at H
              obtain ⟨rfl, rfl⟩ := H
              have p314 : 0 ≤ (x5_1 : Int) := of_decide_eq_true (by first | (with_reducible assumption) | assumption)
              have q314 : x5_1 < (l0.length : Int) := of_decide_eq_true (by first | (with_reducible assumption) | assumption)
              obtain ⟨ad314, e314, hx314_0⟩ := Kd.at_int HR0.out x5_1 p314 q314
              cases e314
              replace hx314_0 := (HB.out.cell (World.block_lt_of_cell? w _ hx314_0)).trans hx314_0
              replace p314 := eq_true p314
              replace q314 := eq_true q314
              go_wp2_with (first | ((with_reducible refine gate_callee (f := 52) rfl ?_); refine goesL_ (some 19) rfl rfl Tryz.func52 (by kernel_rfl) rfl #[.int .i64 (rd l0 x5_1)] rfl (by (try simp only [List.map_toArray, List.map_cons, List.map_nil]); first | done | rfl | (simp only [List.length_drop, List.length_take]; rfl)) ?_; (with_reducible refine (mummerref09_scope.calls (rd l0 x5_1) false _ A7.out).mono ?_); rintro e w' ⟨rfl, ⟨nd, rfl⟩⟩; refine ⟨_, rfl, ?_⟩))
              go_ret2
              exact ⟨by first | rfl | (simp [errW_none, errW_some] <;> rfl) | (simp [*, errW_none, errW_some] <;> rfl), by repeat (first | (with_reducible first | exact HB.out | apply wA | apply wN | apply wD) | exact HB.out)⟩
          · rw [if_neg c6] at H
            exact absurd H (by simp)
        · rw [if_neg c5] at H
          have c5b0 : decide (x5_1 < (l0.length : Int)) = false := decide_eq_false c5
          clear c5
          have H' := ak H
          clear H
          go_wp2
          go_loopg [6, 7] k1 (fun kq v6 v7 w' => ∃ (x6_2 : List Int) (x7_2 : Int), v7 = .int .i64 x7_2 ∧ Aside0 (mummerref09_Of.l1 kq x4_1 x6_2 x7_2 = some (r1, r2)) ∧ Aside0 (kq ≤ k1) ∧ Aside0 (Kd.R Kd.bool 4 w' w.heap.size (fun _ => True) v312 x4_1) ∧ Aside0 (Kd.R (Kd.int .u8) 5 w' w.heap.size (fun _ => True) v6 x6_2) ∧ Aside0 (Below w.heap.size w w'))
          case atStart => exact ⟨(([] : List Int)), (0), (by first | rfl | (simp; done) | (simp [*]; done)), H', ⟨Nat.le_refl _⟩, ⟨by (with_reducible repeat (first | apply Kd.R_alloc | apply Kd.R_drewN | apply Kd.R_drew)); exact HO_4.out⟩, ⟨by first | exact Kd.R_nil _ _ _ _ _ | exact Kd.N_nil _ _ _ _ _ | exact Kd.V_nil _ _ _ _ _ | exact Kd.Q_nil _ _ _ _ _ | exact Kd.S_nil _ _ _ _ _⟩, ⟨by repeat (first | (with_reducible first | exact HB.out | apply wA | apply wN | apply wD) | exact HB.out)⟩⟩
          case round =>
            clear H'
            try clear c1
            try clear p1
            try clear q1
            try clear hx1
            try clear hf1
            try clear c2
            try clear c2b0
            try clear c2b1
            try clear p2
            try clear p3
            try clear q3
            try clear hx3
            try clear c5
            try clear c5b0
            try clear c6
            try clear c6b0
            try clear p6
            try clear c8
            try clear c9
            try clear c9b0
            try clear c10
            try clear c10b0
            try clear p11
            try clear q11
            try clear hx11
            try clear hf11
            try clear hx11_0
            try clear hx314_0
            try clear hx316_0
            try clear p11
            try clear p2
            try clear p314
            try clear p316
            try clear q11
            try clear q314
            try clear q316
            obtain ⟨x6_2, x7_2, rfl, HA, HK2, HO_4, HO_6, HB⟩ := hrel
            cases gk with
            | zero => exact absurd HA.out (by simp [mummerref09_Of.l1])
            | succ k2 =>
              have H := HA.out
              clear HA
              simp only [mummerref09_Of.l1] at H
              by_cases c14 : x7_2 < (x4_1.length : Int)
              · rw [if_pos c14] at H
                have c14b0 : decide (x7_2 < (x4_1.length : Int)) = true := decide_eq_true c14
                clear c14
                by_cases c15 : 0 ≤ x7_2
                · rw [if_pos c15] at H
                  have c15b0 : decide (0 ≤ x7_2) = true := decide_eq_true c15
                  clear c15
                  obtain ⟨bq16, hbq16⟩ : ∃ b_ : Bool, b_ = (rdOf false x4_1 x7_2) := ⟨_, rfl⟩
                  replace H : (if bq16 = true then ((some (([(wrap64 (Int.tdiv x7_2 256)) % 256, (Int.tmod x7_2 256) % 256] : List Int) : List Int)).bind fun y319 => (if x6_2.length + y319.length < 140737488355328 then (mummerref09_Of.l1 k2 x4_1 (x6_2 ++ y319) (wrap64 (x7_2 + 1))) else (none))) else (mummerref09_Of.l1 k2 x4_1 x6_2 (wrap64 (x7_2 + 1)))) = some (r1, r2) := by rw [← hbq16] at H; exact H
                  have Nbq16 := ak hbq16
                  clear hbq16
                  by_cases c17 : bq16 = true
                  · subst c17
                    have H1 : ((some (([(wrap64 (Int.tdiv x7_2 256)) % 256, (Int.tmod x7_2 256) % 256] : List Int) : List Int)).bind fun y319 => (if x6_2.length + y319.length < 140737488355328 then (mummerref09_Of.l1 k2 x4_1 (x6_2 ++ y319) (wrap64 (x7_2 + 1))) else (none))) = some (r1, r2) := by rw [if_pos rfl] at H; exact H
                    clear H
                    have H := H1
                    clear H1
                    obtain ⟨y319, hy319⟩ : ∃ y_ : List Int, y_ = (([(wrap64 (Int.tdiv x7_2 256)) % 256, (Int.tmod x7_2 256) % 256] : List Int)) := ⟨_, rfl⟩
                    replace H : (if x6_2.length + y319.length < 140737488355328 then (mummerref09_Of.l1 k2 x4_1 (x6_2 ++ y319) (wrap64 (x7_2 + 1))) else (none)) = some (r1, r2) := by first | (rw [hy319]; with_reducible exact H) | (have H2_ := (Option.bind_some _ _).symm.trans H; rw [hy319]; with_reducible exact H2_) | (have H2_ := (Option.bind_some _ _).symm.trans H; with_reducible exact H2_) | with_reducible exact H | (rw [hy319]; exact H) | exact H
                    have Ny319 := ak hy319
                    clear hy319
                    by_cases c18 : x6_2.length + y319.length < 140737488355328
                    · rw [if_pos c18] at H
                      have LMc18 := ak c18
                      clear c18
                      obtain ⟨y322, hy322⟩ : ∃ y_ : List Int, y_ = (x6_2 ++ y319) := ⟨_, rfl⟩
                      replace H : (mummerref09_Of.l1 k2 x4_1 y322 (wrap64 (x7_2 + 1))) = some (r1, r2) := by first | (rw [hy322]; with_reducible exact H) | (have H2_ := (Option.bind_some _ _).symm.trans H; rw [hy322]; with_reducible exact H2_) | (have H2_ := (Option.bind_some _ _).symm.trans H; with_reducible exact H2_) | with_reducible exact H | (rw [hy322]; exact H) | exact H
                      have Ny322 := ak hy322
                      clear hy322
                      have H' := ak H
                      clear H
                      obtain ⟨Ao19, co19, eo19⟩ := Kd.R_slice HO_4.out
                      subst eo19
                      have p318 : 0 ≤ (x7_2 : Int) := of_decide_eq_true (by first | (with_reducible assumption) | assumption)
                      have q318 : x7_2 < (x4_1.length : Int) := of_decide_eq_true (by first | (with_reducible assumption) | assumption)
                      obtain ⟨ad318, e318, hx318_0⟩ := Kd.at_bool (Kd.R_reads' HO_4.out).2.2 x7_2 p318 q318
                      (try rw [← Nbq16.out] at hx318_0)
                      cases e318
                      replace p318 := eq_true p318
                      replace q318 := eq_true q318
                      go_wp2_with (first | ((with_reducible refine gate_dst (N := 44) rfl ?_); refine Kd.R_lit (Kd.int .u8) _ 5 ?hg (N := 44) ?hd (xs := ([(wrap64 (Int.tdiv x7_2 256)) % 256, (Int.tmod x7_2 256) % 256] : List Int)) (inner := [.int .u8 ((wrap64 (Int.tdiv x7_2 256)) % 256), .int .u8 ((Int.tmod x7_2 256) % 256)]) (ok := fun _ => True) (okp := fun _ => True) ?hr ?hp (fun _ hk => hk) trivial (Below.refl _ _) (Nat.le_refl _) (by simp) ?_; (case hd => rfl); (case hg => rfl); (case hr => first | (go_simp; done) | (go_simp; rfl)); (case hp => exact (Reps.one (show Kd.M (Kd.int .u8) _ _ _ ((wrap64 (Int.tdiv x7_2 256)) % 256) [.int .u8 ((wrap64 (Int.tdiv x7_2 256)) % 256)] from rfl) (Reps.one (show Kd.M (Kd.int .u8) _ _ _ ((Int.tmod x7_2 256) % 256) [.int .u8 ((Int.tmod x7_2 256) % 256)] from rfl) (Reps.none _ _)))); intro v320 w20 ho21 hb hg_ hnew_; clear hg_ hnew_; (first | rw [← Ny319.out] at ho21 | (simp only [Int.reduceToNat] at ho21; rw [← Ny319.out] at ho21)); have n0_ := ak (Kd.R_below (by (with_reducible repeat (first | apply Kd.R_alloc | apply Kd.R_drewN | apply Kd.R_drew)); exact HO_4.out) hb); have n1_ := ak (Kd.R_elder' (by (with_reducible repeat (first | apply Kd.R_alloc | apply Kd.R_drewN | apply Kd.R_drew)); exact HO_6.out) (Kd.R_base ho21) hb); have n2_ := ak (Kd.R_lower (Kd.R_new' ho21 (Kd.R_lt (by (with_reducible repeat (first | apply Kd.R_alloc | apply Kd.R_drewN | apply Kd.R_drew)); exact HO_6.out))) (below_size (by repeat (first | (with_reducible first | exact HB.out | apply wA | apply wN | apply wD) | exact HB.out)))); have n3_ := ak (below_step (by repeat (first | (with_reducible first | exact HB.out | apply wA | apply wN | apply wD) | exact HB.out)) hb); clear HO_4; clear HO_6; clear HB; have HO_4 := n0_; have HO_6 := n1_; have HO321 := n2_; have HB := n3_; clear n0_ n1_ n2_ n3_; clear hb ho21; obtain ⟨Ao23, co23, eo23⟩ := Kd.R_slice HO321.out; subst eo23) | ((with_reducible refine gate_builtin (b := .append) (xs := #[.tmp 37, .tmp 44]) rfl ?_); at_builtin; refine Kd.R_append_rows (Kd.int .u8) (w0 := w) w.heap.size rfl (.tmp 37) (.tmp 44) 50 5 (.int .u8 0) 1 rfl Tryz.underlying50 info5 rfl (by decide) (by omega) u6 x6_2 y319 _ _ _ (fun k_ => some k_ ≠ (.slice Ao23 y319.length co23 : Value).ownBlock) (fun _ => False) rfl rfl ?aO ?aR (fun _ _ h => h) (fun _ h => h.elim) ?aF ?aB ?aS ?aL ?_; (case aR => repeat (first | exact (Kd.R_reads' HO321.out).2.2 | (with_reducible refine Kd.C_alloc ?_ _) | (with_reducible refine Kd.C_drewN ?_ _) | (with_reducible refine Kd.C_drew ?_))); (case aB => exact (by repeat (first | (with_reducible first | exact HB.out | apply wA | apply wN | apply wD) | exact HB.out))); (case aF => exact (fun k_ hk => Kd.fresh' (Kd.R_lt (by (with_reducible repeat (first | apply Kd.R_alloc | apply Kd.R_drewN | apply Kd.R_drew)); exact HO321.out)) k_ hk)); (case aO => exact (by (with_reducible repeat (first | apply Kd.R_alloc | apply Kd.R_drewN | apply Kd.R_drew)); exact Kd.R_mono HO_6.out (fun _ hk => hk.2))); (case aS => exact (below_size (by repeat (first | (with_reducible first | exact HB.out | apply wA | apply wN | apply wD) | exact HB.out)))); (case aL => have := LMc18.out; omega); intro v323 w22 ho hb hg hat; rw [← Ny322.out] at ho; have n0_ := ak (Kd.R_over' (by (with_reducible repeat (first | apply Kd.R_alloc | apply Kd.R_drewN | apply Kd.R_drew)); exact HO_4.out) (Kd.R_typed (by (with_reducible repeat (first | apply Kd.R_alloc | apply Kd.R_drewN | apply Kd.R_drew)); exact HO_6.out)) (by decide) hg); have n1_ := ak (Kd.R_after (ok := (fun _ => True)) (by (with_reducible repeat (first | apply Kd.R_alloc | apply Kd.R_drewN | apply Kd.R_drew)); exact HO321.out) hg hat); have n2_ := ak (hb); have n3_ := ak (ho); clear HO_4; clear HO321; clear HB; clear HO_6; have HO_4 := n0_; have HO321 := n1_; have HB := n2_; have HO324 := n3_; clear n0_ n1_ n2_ n3_; clear ho hb hg hat))
                      go_roundg k2
                      case measure => have := HK1.out; have := HK2.out; omega
                      case rel => exact ⟨(y322), (wrap64 (x7_2 + 1)), (by first | rfl | (simp; done) | (simp [*]; done)), H', ⟨by have := HK1.out; have := HK2.out; omega⟩, ⟨by (with_reducible repeat (first | apply Kd.R_alloc | apply Kd.R_drewN | apply Kd.R_drew)); exact HO_4.out⟩, ⟨by (with_reducible repeat (first | apply Kd.R_alloc | apply Kd.R_drewN | apply Kd.R_drew)); exact Kd.R_mono HO324.out (fun _ hk => trivial)⟩, ⟨by repeat (first | (with_reducible first | exact HB.out | apply wA | apply wN | apply wD) | exact HB.out)⟩⟩
                    · rw [if_neg c18] at H
                      exact absurd H (by simp)
                  · replace c17 := Bool.eq_false_iff.mpr c17
                    subst c17
                    have H1 : (mummerref09_Of.l1 k2 x4_1 x6_2 (wrap64 (x7_2 + 1))) = some (r1, r2) := by rw [if_neg (show ¬ (false = true) by decide)] at H; exact H
                    clear H
                    have H := H1
                    clear H1
                    have H' := ak H
                    clear H
                    obtain ⟨Ao24, co24, eo24⟩ := Kd.R_slice HO_4.out
                    subst eo24
                    have p318 : 0 ≤ (x7_2 : Int) := of_decide_eq_true (by first | (with_reducible assumption) | assumption)
                    have q318 : x7_2 < (x4_1.length : Int) := of_decide_eq_true (by first | (with_reducible assumption) | assumption)
                    obtain ⟨ad318, e318, hx318_0⟩ := Kd.at_bool (Kd.R_reads' HO_4.out).2.2 x7_2 p318 q318
                    (try rw [← Nbq16.out] at hx318_0)
                    cases e318
                    replace p318 := eq_true p318
                    replace q318 := eq_true q318
                    go_wp2
                    go_roundg k2
                    case measure => have := HK1.out; have := HK2.out; omega
                    case rel => exact ⟨(x6_2), (wrap64 (x7_2 + 1)), (by first | rfl | (simp; done) | (simp [*]; done)), H', ⟨by have := HK1.out; have := HK2.out; omega⟩, ⟨by (with_reducible repeat (first | apply Kd.R_alloc | apply Kd.R_drewN | apply Kd.R_drew)); exact HO_4.out⟩, ⟨by (with_reducible repeat (first | apply Kd.R_alloc | apply Kd.R_drewN | apply Kd.R_drew)); exact HO_6.out⟩, ⟨by repeat (first | (with_reducible first | exact HB.out | apply wA | apply wN | apply wD) | exact HB.out)⟩⟩
                · rw [if_neg c15] at H
                  exact absurd H (by simp)
              · rw [if_neg c14] at H
                have c14b0 : decide (x7_2 < (x4_1.length : Int)) = false := decide_eq_false c14
                clear c14
                replace H := Option.bind_eq_some_iff.mp H
                obtain ⟨⟨t325, t326⟩, A250, H⟩ := H
                replace H : (some (t325, t326)) = some (r1, r2) := H
                have A25 := ak A250
                clear A250
                simp only [Option.some.injEq, Prod.mk.injEq] at H
                obtain ⟨rfl, rfl⟩ := H
                obtain ⟨Ao26, co26, eo26⟩ := Kd.R_slice HO_4.out
                subst eo26
                have hcv27 := own_string (P := Tryz.prog) Tryz.underlying50 Tryz.underlying5 Tryz.underlying9 (Kd.own_of_R HO_6.out)
                go_wp2_with (first | ((with_reducible refine gate_callee (f := 53) rfl ?_); refine goesL_ (some 48) rfl rfl Tryz.func53 (by kernel_rfl) rfl #[.string (strOfNums x6_2)] rfl (by (try simp only [List.map_toArray, List.map_cons, List.map_nil]); first | done | rfl | (simp only [List.length_drop, List.length_take]; rfl)) ?_; (with_reducible refine (mummerref09_set.calls (strOfNums x6_2) t325 t326 _ A25.out).mono ?_); rintro e w' ⟨rfl, ⟨nd, rfl⟩⟩; refine ⟨_, rfl, ?_⟩))
                go_ret2
                exact ⟨by first | rfl | (simp [errW_none, errW_some] <;> rfl) | (simp [*, errW_none, errW_some] <;> rfl), by repeat (first | (with_reducible first | exact HB.out | apply wA | apply wN | apply wD) | exact HB.out)⟩
  · rw [if_neg c2] at H
    exact absurd H (by simp)
end Go.Proofs.YtkalbdeopogbpaaGreatDoor.P
namespace Go.Proofs.YtkalbdeopogbpaaGreatDoor.P
open Go.RowKit Go.Proofs.YtkalbdeopogbpaaGreatDoorW.PrintWords Go.Proofs.YtkalbdeopogbpaaGreatDoorW.PrintLast Go.Proofs.YtkalbdeopogbpaaGreatDoorW.PrintMore
attribute [local go_sem] max2_int min2_int max_two min_two max_three min_three max_four min_four   -- for this text's walks alone
set_option linter.unusedVariables false
set_option linter.unusedSimpArgs false
def mummerref09_Parse.f (k : Nat) (a0 : ByteArray) : Option (ByteArray × Int) := (mummerref01_ParseList.f k a0).bind fun bt327 => (if bt327.2 = 0 then ((mummerref09_Of.f k bt327.1).bind fun bt331 => (some (bt331.1, bt331.2))) else (some ((⟨#[]⟩ : ByteArray), bt327.2)))
set_option maxHeartbeats 8000000 in
set_option maxRecDepth 100000 in
theorem mummerref09_Parse.calls (k : Nat) (a0 : ByteArray) (r1 : ByteArray) (r2 : Int) (w : World) (h : mummerref09_Parse.f k a0 = some (r1, r2)) :
    Calls Tryz.prog 8 #[.string a0] w fun e w' => e = .returned (.tuple #[.string r1, .int .i64 r2]) ∧ Below w.heap.size w w' := by
  have HB := ak (Below.refl w.heap.size w)
  have H : ((mummerref01_ParseList.f k a0).bind fun bt327 => (if bt327.2 = 0 then ((mummerref09_Of.f k bt327.1).bind fun bt331 => (some (bt331.1, bt331.2))) else (some ((⟨#[]⟩ : ByteArray), bt327.2)))) = some (r1, r2) := h
  clear h
  replace H := Option.bind_eq_some_iff.mp H
  obtain ⟨⟨t327, t328⟩, A20, H⟩ := H
  replace H : (if t328 = 0 then ((mummerref09_Of.f k t327).bind fun bt331 => (some (bt331.1, bt331.2))) else (some ((⟨#[]⟩ : ByteArray), t328))) = some (r1, r2) := H
  have A2 := ak A20
  clear A20
  by_cases c3 : t328 = 0
  · rw [if_pos c3] at H
    have c3b0 : (t328 == 0) = true := beq_iff_eq.mpr c3
    have c3b1 : (t328 != 0) = false := bne_eq_false_iff_eq.mpr c3
    clear c3
    replace H := Option.bind_eq_some_iff.mp H
    obtain ⟨⟨t331, t332⟩, A40, H⟩ := H
    replace H : (some (t331, t332)) = some (r1, r2) := H
    have A4 := ak A40
    clear A40
    simp only [Option.some.injEq, Prod.mk.injEq] at H
    obtain ⟨rfl, rfl⟩ := H
    go_enter Tryz.func8, Tryz.ntmps8
    go_wp2_with (first | ((with_reducible refine gate_callee (f := 19) rfl ?_); refine goesL_ (some 8) rfl rfl Tryz.func19 (by kernel_rfl) rfl #[.string a0] rfl (by (try simp only [List.map_toArray, List.map_cons, List.map_nil]); first | done | rfl | (simp only [List.length_drop, List.length_take]; rfl)) ?_; (with_reducible refine (mummerref01_ParseList.calls k a0 t327 t328 _ A2.out).mono ?_); rintro e w5 ⟨v329, rfl, ho0, hb⟩; refine ⟨_, rfl, ?_⟩; have n0_ := ak (Kd.R_lower ho0 (below_size (by repeat (first | (with_reducible first | exact HB.out | apply wA | apply wN | apply wD) | exact HB.out)))); have n1_ := ak (below_step (by repeat (first | (with_reducible first | exact HB.out | apply wA | apply wN | apply wD) | exact HB.out)) hb); clear HB; have HO330 := n0_; have HB := n1_; clear n0_ n1_; (try clear hb); (try clear hb2); (try clear hk); (try clear hi); (try clear ho0); obtain ⟨Ao6, co6, eo6⟩ := Kd.R_slice HO330.out; subst eo6) | ((with_reducible refine gate_callee (f := 20) rfl ?_); refine goesL_ (some 15) rfl rfl Tryz.func20 (by kernel_rfl) rfl #[.slice Ao6 t327.length co6] rfl (by (try simp only [List.map_toArray, List.map_cons, List.map_nil]); first | done | rfl | (simp only [List.length_drop, List.length_take]; rfl)) ?_; (with_reducible refine (mummerref09_Of.calls k _ _ t327 t331 t332 _ ?side1 ?side2 A4.out).mono ?_); (case side1 => repeat (first | exact (Kd.R_reads' HO330.out).2.2 | (with_reducible refine Kd.C_alloc ?_ _) | (with_reducible refine Kd.C_drewN ?_ _) | (with_reducible refine Kd.C_drew ?_))); (case side2 => exact (Kd.R_reads' HO330.out).2.1); rintro e w7 ⟨rfl, hb⟩; refine ⟨_, rfl, ?_⟩; have n0_ := ak (Kd.R_below (by (with_reducible repeat (first | apply Kd.R_alloc | apply Kd.R_drewN | apply Kd.R_drew)); exact HO330.out) hb); have n1_ := ak (below_step (by repeat (first | (with_reducible first | exact HB.out | apply wA | apply wN | apply wD) | exact HB.out)) hb); clear HO330; clear HB; have HO330 := n0_; have HB := n1_; clear n0_ n1_; (try clear hb); (try clear hb2); (try clear hk); (try clear hi)))
    go_ret2
    exact ⟨by first | rfl | (simp [errW_none, errW_some] <;> rfl) | (simp [*, errW_none, errW_some] <;> rfl), by repeat (first | (with_reducible first | exact HB.out | apply wA | apply wN | apply wD) | exact HB.out)⟩
  · rw [if_neg c3] at H
    have c3b0 : (t328 == 0) = false := beq_eq_false_iff_ne.mpr c3
    have c3b1 : (t328 != 0) = true := bne_iff_ne.mpr c3
    simp only [Option.some.injEq, Prod.mk.injEq] at H
    obtain ⟨rfl, rfl⟩ := H
    go_enter Tryz.func8, Tryz.ntmps8
    go_wp2_with (first | ((with_reducible refine gate_callee (f := 19) rfl ?_); refine goesL_ (some 8) rfl rfl Tryz.func19 (by kernel_rfl) rfl #[.string a0] rfl (by (try simp only [List.map_toArray, List.map_cons, List.map_nil]); first | done | rfl | (simp only [List.length_drop, List.length_take]; rfl)) ?_; (with_reducible refine (mummerref01_ParseList.calls k a0 t327 t328 _ A2.out).mono ?_); rintro e w8 ⟨v329, rfl, ho0, hb⟩; refine ⟨_, rfl, ?_⟩; have n0_ := ak (Kd.R_lower ho0 (below_size (by repeat (first | (with_reducible first | exact HB.out | apply wA | apply wN | apply wD) | exact HB.out)))); have n1_ := ak (below_step (by repeat (first | (with_reducible first | exact HB.out | apply wA | apply wN | apply wD) | exact HB.out)) hb); clear HB; have HO330 := n0_; have HB := n1_; clear n0_ n1_; (try clear hb); (try clear hb2); (try clear hk); (try clear hi); (try clear ho0)))
    go_ret2
    exact ⟨by first | rfl | (simp [errW_none, errW_some] <;> rfl) | (simp [*, errW_none, errW_some] <;> rfl), by repeat (first | (with_reducible first | exact HB.out | apply wA | apply wN | apply wD) | exact HB.out)⟩
end Go.Proofs.YtkalbdeopogbpaaGreatDoor.P
