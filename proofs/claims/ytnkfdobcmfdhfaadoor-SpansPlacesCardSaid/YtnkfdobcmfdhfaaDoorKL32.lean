import Derived.Test.YtnkfdobcmfdhfaaDoorKL28
import Derived.Test.YtnkfdobcmfdhfaaDoorKL30
import Derived.Test.YtnkfdobcmfdhfaaDoorKL29
namespace Go.Proofs.YtnkfdobcmfdhfaaDoor.P
open Go.RowKit Go.Proofs.YtnkfdobcmfdhfaaDoorW.PrintWords Go.Proofs.YtnkfdobcmfdhfaaDoorW.PrintLast Go.Proofs.YtnkfdobcmfdhfaaDoorW.PrintMore
attribute [local go_sem] max2_int min2_int max_two min_two max_three min_three max_four min_four   -- for this text's walks alone
set_option linter.unusedVariables false
set_option linter.unusedSimpArgs false
def spans_Cut.l0 : Nat → List Int → List Int → Int → Int → Int → Int → Option (ByteArray × Int)
  | 0, _, _, _, _, _, _ => none
  | k + 1, x0, x32, x33, x34, x496000, x496001 => if x34 < x33 then (if 0 ≤ x34 then (if x34 < (x32.length : Int) then ((runes_On.f k x0 (rd x32 x34)).bind fun bt503 => (if bt503.1 = true then (spans_Cut.l0 k x0 x32 x33 (wrap64 (x34 + 1)) x496000 x496001) else (some ((⟨#[]⟩ : ByteArray), 6)))) else (none)) else (none)) else (if 0 ≤ x496000 then (if x496000 ≤ x496001 then (if x496001 ≤ (x0.length : Int) then (some (strOfNums ((x0.take (x496001 : Int).toNat).drop (x496000 : Int).toNat), 0)) else (none)) else (none)) else (none))
def spans_Cut.f (k : Nat) (l0 : List Int) (a1_0 : Int) (a1_1 : Int) : Option (ByteArray × Int) := (runes_Check.f l0).bind fun bt496 => (if bt496.2 = 0 then ((spans_Check.f k (l0.length : Int) a1_0 a1_1).bind fun t498 => (if t498 = 0 then ((some (([a1_0, a1_1] : List Int) : List Int)).bind fun y499 => (spans_Cut.l0 k l0 y499 (y499.length : Int) 0 a1_0 a1_1)) else (some ((⟨#[]⟩ : ByteArray), t498)))) else (some ((⟨#[]⟩ : ByteArray), bt496.2)))
set_option maxHeartbeats 8000000 in
set_option maxRecDepth 100000 in
theorem spans_Cut.calls (k : Nat) (A0 : Option Addr) (c0 : Nat) (l0 : List Int) (a1_0 : Int) (a1_1 : Int) (r1 : ByteArray) (r2 : Int) (w : World) (hr0 : Kd.C (Kd.int .u8) w A0 l0.length l0) (hc0 : l0.length ≤ c0) (h : spans_Cut.f k l0 a1_0 a1_1 = some (r1, r2)) (HT : Aside0 (Sc.Tab w)) :
    Calls Tryd.prog 26 #[.slice A0 l0.length c0, .agg #[.int .i64 a1_0, .int .i64 a1_1]] w fun e w' => e = .returned (.tuple #[.string r1, .int .i64 r2]) ∧ Below w.heap.size w w' := by
  have hu24 := Tryd.underlying24
  have HR0 := ak hr0
  have HC0 := ak hc0
  clear hr0 hc0
  have HB := ak (Below.refl w.heap.size w)
  have H : ((runes_Check.f l0).bind fun bt496 => (if bt496.2 = 0 then ((spans_Check.f k (l0.length : Int) a1_0 a1_1).bind fun t498 => (if t498 = 0 then ((some (([a1_0, a1_1] : List Int) : List Int)).bind fun y499 => (spans_Cut.l0 k l0 y499 (y499.length : Int) 0 a1_0 a1_1)) else (some ((⟨#[]⟩ : ByteArray), t498)))) else (some ((⟨#[]⟩ : ByteArray), bt496.2)))) = some (r1, r2) := h
  clear h
  replace H := Option.bind_eq_some_iff.mp H
  obtain ⟨⟨t496, t497⟩, A30, H⟩ := H
  replace H : (if t497 = 0 then ((spans_Check.f k (l0.length : Int) a1_0 a1_1).bind fun t498 => (if t498 = 0 then ((some (([a1_0, a1_1] : List Int) : List Int)).bind fun y499 => (spans_Cut.l0 k l0 y499 (y499.length : Int) 0 a1_0 a1_1)) else (some ((⟨#[]⟩ : ByteArray), t498)))) else (some ((⟨#[]⟩ : ByteArray), t497))) = some (r1, r2) := H
  have A3 := ak A30
  clear A30
  by_cases c4 : t497 = 0
  · rw [if_pos c4] at H
    have c4b0 : (t497 == 0) = true := beq_iff_eq.mpr c4
    have c4b1 : (t497 != 0) = false := bne_eq_false_iff_eq.mpr c4
    clear c4
    replace H := Option.bind_eq_some_iff.mp H
    obtain ⟨t498, A50, H⟩ := H
    replace H : (if t498 = 0 then ((some (([a1_0, a1_1] : List Int) : List Int)).bind fun y499 => (spans_Cut.l0 k l0 y499 (y499.length : Int) 0 a1_0 a1_1)) else (some ((⟨#[]⟩ : ByteArray), t498))) = some (r1, r2) := H
    have A5 := ak A50
    clear A50
    by_cases c6 : t498 = 0
    · rw [if_pos c6] at H
      have c6b0 : (t498 == 0) = true := beq_iff_eq.mpr c6
      have c6b1 : (t498 != 0) = false := bne_eq_false_iff_eq.mpr c6
      clear c6
      obtain ⟨y499, hy499⟩ : ∃ y_ : List Int, y_ = (([a1_0, a1_1] : List Int)) := ⟨_, rfl⟩
      replace H : (spans_Cut.l0 k l0 y499 (y499.length : Int) 0 a1_0 a1_1) = some (r1, r2) := by first | (rw [hy499]; with_reducible exact H) | (have H2_ := (Option.bind_some _ _).symm.trans H; rw [hy499]; with_reducible exact H2_) | (have H2_ := (Option.bind_some _ _).symm.trans H; with_reducible exact H2_) | with_reducible exact H | (rw [hy499]; exact H) | exact H
      have Ny499 := ak hy499
      clear hy499
      have H' := ak H
      clear H
      go_enter Tryd.func26, Tryd.ntmps26
      go_wp2_with (first | ((with_reducible refine gate_dst (N := 3) rfl ?_); refine box_event ?hg (N := 3) ?hd (cs := #[.int .i64 a1_0, .int .i64 a1_1]) (t := 24) ?hr ?_; (case hd => rfl); (case hg => rfl); (case hr => first | (go_simp; done) | (go_simp; rfl)); intro gb495 hg w7 hbox hb; have n0_ := ak (below_step (by repeat (first | (with_reducible first | exact HB.out | apply wA | apply wN | apply wD) | exact HB.out)) hb); have n1_ := ak (hbox); have n2_ := ak ((by rw [hg]; exact (below_size (by repeat (first | (with_reducible first | exact HB.out | apply wA | apply wN | apply wD) | exact HB.out))) : w.heap.size ≤ gb495)); have n3_ := ak ((by rw [hg]; exact (below_size (by repeat (first | (with_reducible first | exact HB.out | apply wA | apply wN | apply wD) | exact HB.out))) : w.heap.size ≤ gb495)); clear HB; have HB := n0_; have BK495 := n1_; have GW495 := n2_; have GE495 := n3_; clear n0_ n1_ n2_ n3_; clear hb hbox hg) | ((with_reducible refine gate_callee (f := 47) rfl ?_); refine goesL_ (some 15) rfl rfl Tryd.func47 (by kernel_rfl) rfl #[.slice A0 l0.length c0] rfl (by (try simp only [List.map_toArray, List.map_cons, List.map_nil]); first | done | rfl | (simp only [List.length_drop, List.length_take]; rfl)) ?_; (with_reducible refine (runes_Check.calls _ _ l0 t496 t497 _ ?side1 ?side2 A3.out ⟨Sc.Tab.stay HT.out (by repeat (first | (with_reducible first | exact HB.out | apply wA | apply wN | apply wD) | exact HB.out | (refine below_set ?_ (by assumption)) | (refine below_set ?_ (Aside0.out (by assumption)))))⟩).mono ?_); (case side1 => repeat (first | exact (Kd.C_below HR0.out HB.out) | (with_reducible refine Kd.C_alloc ?_ _) | (with_reducible refine Kd.C_drewN ?_ _) | (with_reducible refine Kd.C_drew ?_))); (case side2 => exact HC0.out); rintro e w8 ⟨rfl, hb⟩; refine ⟨_, rfl, ?_⟩; have n0_ := ak (blk_below (g := gb495) (o := .cells #[.int .i64 a1_0, .int .i64 a1_1] 24 (0, 0)) (by (with_reducible repeat (first | refine bN ?_ _ | refine bD ?_ | refine bA ?_ _)); exact BK495.out) hb); have n1_ := ak (below_step (by repeat (first | (with_reducible first | exact HB.out | apply wA | apply wN | apply wD | refine below_set ?_ GE495.out) | exact HB.out)) hb); clear BK495; clear HB; have BK495 := n0_; have HB := n1_; clear n0_ n1_; (try clear hb); (try clear hb2); (try clear hk); (try clear hi); have hcz9_0 : w8.cell? ⟨gb495, 0, none⟩ = some (.int .i64 a1_0) := (blk_cell BK495.out 0).trans rfl; have hcz9_1 : w8.cell? ⟨gb495, 1, none⟩ = some (.int .i64 a1_1) := (blk_cell BK495.out 1).trans rfl; have hfz9_0 := blk_frozen BK495.out 0; have hfz9_1 := blk_frozen BK495.out 1) | ((with_reducible refine gate_callee (f := 22) rfl ?_); refine goesL_ (some 24) rfl rfl Tryd.func22 (by kernel_rfl) rfl #[.int .i64 (l0.length : Int), .agg #[.int .i64 a1_0, .int .i64 a1_1]] rfl (by (try simp only [List.map_toArray, List.map_cons, List.map_nil]); first | done | rfl | (simp only [List.length_drop, List.length_take]; rfl)) ?_; (with_reducible refine (spans_Check.calls k (l0.length : Int) a1_0 a1_1 t498 _ A5.out).mono ?_); rintro e w10 ⟨rfl, hb⟩; refine ⟨_, rfl, ?_⟩; have n0_ := ak (blk_below (g := gb495) (o := .cells #[.int .i64 a1_0, .int .i64 a1_1] 24 (0, 0)) (by (with_reducible repeat (first | refine bN ?_ _ | refine bD ?_ | refine bA ?_ _)); exact BK495.out) hb); have n1_ := ak (below_step (by repeat (first | (with_reducible first | exact HB.out | apply wA | apply wN | apply wD | refine below_set ?_ GE495.out) | exact HB.out)) hb); clear BK495; clear HB; have BK495 := n0_; have HB := n1_; clear n0_ n1_; (try clear hb); (try clear hb2); (try clear hk); (try clear hi); have hcz11_0 : w10.cell? ⟨gb495, 0, none⟩ = some (.int .i64 a1_0) := (blk_cell BK495.out 0).trans rfl; have hcz11_1 : w10.cell? ⟨gb495, 1, none⟩ = some (.int .i64 a1_1) := (blk_cell BK495.out 1).trans rfl; have hfz11_0 := blk_frozen BK495.out 0; have hfz11_1 := blk_frozen BK495.out 1) | ((with_reducible refine gate_dst (N := 32) rfl ?_); refine Kd.R_lit (Kd.int .i64) _ 3 ?hg (N := 32) ?hd (xs := ([a1_0, a1_1] : List Int)) (inner := [.int .i64 a1_0, .int .i64 a1_1]) (ok := fun _ => True) (okp := fun _ => True) ?hr ?hp (fun _ hk => hk) trivial (Below.refl _ _) (Nat.le_refl _) (by simp) ?_; (case hd => rfl); (case hg => rfl); (case hr => first | (go_simp; done) | (go_simp; rfl)); (case hp => exact (Reps.one (show Kd.M (Kd.int .i64) _ _ _ a1_0 [.int .i64 a1_0] from rfl) (Reps.one (show Kd.M (Kd.int .i64) _ _ _ a1_1 [.int .i64 a1_1] from rfl) (Reps.none _ _)))); intro v500 w12 ho13 hb hg_ hnew_; clear hg_ hnew_; (first | rw [← Ny499.out] at ho13 | (simp only [Int.reduceToNat] at ho13; rw [← Ny499.out] at ho13)); have n0_ := ak (Kd.R_lower ho13 (below_size (by repeat (first | (with_reducible first | exact HB.out | apply wA | apply wN | apply wD | refine below_set ?_ GE495.out) | exact HB.out)))); have n1_ := ak (blk_below (g := gb495) (o := .cells #[.int .i64 a1_0, .int .i64 a1_1] 24 (0, 0)) (by (with_reducible repeat (first | refine bN ?_ _ | refine bD ?_ | refine bA ?_ _)); exact BK495.out) hb); have n2_ := ak (below_step (by repeat (first | (with_reducible first | exact HB.out | apply wA | apply wN | apply wD | refine below_set ?_ GE495.out) | exact HB.out)) hb); clear BK495; clear HB; have HO501 := n0_; have BK495 := n1_; have HB := n2_; clear n0_ n1_ n2_; clear hb ho13; obtain ⟨Ao14, co14, eo14⟩ := Kd.R_slice HO501.out; subst eo14))
      go_loopg [34] k (fun kq v34 w' => ∃ (x34_1 : Int), v34 = .int .i64 x34_1 ∧ Aside0 (spans_Cut.l0 kq l0 y499 (y499.length : Int) x34_1 a1_0 a1_1 = some (r1, r2)) ∧ Aside0 (kq ≤ k) ∧ Aside0 (Kd.R (Kd.int .i64) 3 w' w.heap.size (fun _ => True) (.slice Ao14 y499.length co14) y499) ∧ Aside0 (w'.heap[gb495]? = some (.cells #[.int .i64 a1_0, .int .i64 a1_1] 24 (0, 0))) ∧ Aside0 (Below w.heap.size w w'))
      case atStart => exact ⟨(0), (by first | rfl | (simp; done) | (simp [*]; done)), H', ⟨Nat.le_refl _⟩, ⟨by (with_reducible repeat (first | apply Kd.R_alloc | apply Kd.R_drewN | apply Kd.R_drew)); exact HO501.out⟩, ⟨by (with_reducible repeat (first | refine bN ?_ _ | refine bD ?_ | refine bA ?_ _)); exact BK495.out⟩, ⟨by repeat (first | (with_reducible first | exact HB.out | apply wA | apply wN | apply wD | refine below_set ?_ GE495.out) | exact HB.out)⟩⟩
      case round =>
        clear H'
        try clear c2
        try clear p2
        try clear c4
        try clear c4b0
        try clear c4b1
        try clear c6
        try clear c6b0
        try clear c6b1
        try clear hcz11_0
        try clear hcz11_1
        try clear hcz9_0
        try clear hcz9_1
        try clear hfz11_0
        try clear hfz11_1
        try clear hfz9_0
        try clear hfz9_1
        obtain ⟨x34_1, rfl, HA, HK1, HO_32, BK495, HB⟩ := hrel
        cases gk with
        | zero => exact absurd HA.out (by simp [spans_Cut.l0])
        | succ k1 =>
          have H := HA.out
          clear HA
          simp only [spans_Cut.l0] at H
          by_cases c15 : x34_1 < (y499.length : Int)
          · rw [if_pos c15] at H
            have c15b0 : decide (x34_1 < (y499.length : Int)) = true := decide_eq_true c15
            clear c15
            by_cases c16 : 0 ≤ x34_1
            · rw [if_pos c16] at H
              have c16b0 : decide (0 ≤ x34_1) = true := decide_eq_true c16
              clear c16
              by_cases c17 : x34_1 < (y499.length : Int)
              · rw [if_pos c17] at H
                have c17b0 : decide (x34_1 < (y499.length : Int)) = true := decide_eq_true c17
                clear c17
                replace H := Option.bind_eq_some_iff.mp H
                obtain ⟨⟨t503, t504⟩, A180, H⟩ := H
                replace H : (if t503 = true then (spans_Cut.l0 k1 l0 y499 (y499.length : Int) (wrap64 (x34_1 + 1)) a1_0 a1_1) else (some ((⟨#[]⟩ : ByteArray), 6))) = some (r1, r2) := H
                have A18 := ak A180
                clear A180
                by_cases c19 : t503 = true
                · subst c19
                  have H1 : (spans_Cut.l0 k1 l0 y499 (y499.length : Int) (wrap64 (x34_1 + 1)) a1_0 a1_1) = some (r1, r2) := by rw [if_pos rfl] at H; exact H
                  clear H
                  have H := H1
                  clear H1
                  have H' := ak H
                  clear H
                  have p502 : 0 ≤ (x34_1 : Int) := of_decide_eq_true (by first | (with_reducible assumption) | assumption)
                  have q502 : x34_1 < (y499.length : Int) := of_decide_eq_true (by first | (with_reducible assumption) | assumption)
                  obtain ⟨ad502, e502, hx502_0⟩ := Kd.at_int (Kd.R_reads' HO_32.out).2.2 x34_1 p502 q502
                  cases e502
                  replace p502 := eq_true p502
                  replace q502 := eq_true q502
                  go_wp2_with (first | ((with_reducible refine gate_callee (f := 50) rfl ?_); refine goesL_ (some 41) rfl rfl Tryd.func50 (by kernel_rfl) rfl #[.slice A0 l0.length c0, .int .i64 (rd y499 x34_1)] rfl (by (try simp only [List.map_toArray, List.map_cons, List.map_nil]); first | done | rfl | (simp only [List.length_drop, List.length_take]; rfl)) ?_; (with_reducible refine (runes_On.calls k1 _ _ l0 (rd y499 x34_1) true t504 _ ?side1 ?side2 A18.out ⟨Sc.Tab.stay HT.out (by repeat (first | (with_reducible first | exact HB.out | apply wA | apply wN | apply wD) | exact HB.out | (refine below_set ?_ (by assumption)) | (refine below_set ?_ (Aside0.out (by assumption)))))⟩).mono ?_); (case side1 => repeat (first | exact (Kd.C_below HR0.out HB.out) | (with_reducible refine Kd.C_alloc ?_ _) | (with_reducible refine Kd.C_drewN ?_ _) | (with_reducible refine Kd.C_drew ?_))); (case side2 => exact HC0.out); rintro e w20 ⟨rfl, hb⟩; refine ⟨_, rfl, ?_⟩; have n0_ := ak (Kd.R_below (by (with_reducible repeat (first | apply Kd.R_alloc | apply Kd.R_drewN | apply Kd.R_drew)); exact HO_32.out) hb); have n1_ := ak (blk_below (g := gb495) (o := .cells #[.int .i64 a1_0, .int .i64 a1_1] 24 (0, 0)) (by (with_reducible repeat (first | refine bN ?_ _ | refine bD ?_ | refine bA ?_ _)); exact BK495.out) hb); have n2_ := ak (below_step (by repeat (first | (with_reducible first | exact HB.out | apply wA | apply wN | apply wD | refine below_set ?_ GE495.out) | exact HB.out)) hb); clear HO_32; clear BK495; clear HB; have HO_32 := n0_; have BK495 := n1_; have HB := n2_; clear n0_ n1_ n2_; (try clear hb); (try clear hb2); (try clear hk); (try clear hi)))
                  go_roundg k1
                  case measure => have := HK1.out; omega
                  case rel => exact ⟨(wrap64 (x34_1 + 1)), (by first | rfl | (simp; done) | (simp [*]; done)), H', ⟨by have := HK1.out; omega⟩, ⟨by (with_reducible repeat (first | apply Kd.R_alloc | apply Kd.R_drewN | apply Kd.R_drew)); exact HO_32.out⟩, ⟨by (with_reducible repeat (first | refine bN ?_ _ | refine bD ?_ | refine bA ?_ _)); exact BK495.out⟩, ⟨by repeat (first | (with_reducible first | exact HB.out | apply wA | apply wN | apply wD | refine below_set ?_ GE495.out) | exact HB.out)⟩⟩
                · replace c19 := Bool.eq_false_iff.mpr c19
                  subst c19
                  have H1 : (some ((⟨#[]⟩ : ByteArray), 6)) = some (r1, r2) := by rw [if_neg (show ¬ (false = true) by decide)] at H; exact H
                  clear H
                  have H := H1
                  clear H1
                  simp only [Option.some.injEq, Prod.mk.injEq] at H
                  obtain ⟨rfl, rfl⟩ := H
                  have p502 : 0 ≤ (x34_1 : Int) := of_decide_eq_true (by first | (with_reducible assumption) | assumption)
                  have q502 : x34_1 < (y499.length : Int) := of_decide_eq_true (by first | (with_reducible assumption) | assumption)
                  obtain ⟨ad502, e502, hx502_0⟩ := Kd.at_int (Kd.R_reads' HO_32.out).2.2 x34_1 p502 q502
                  cases e502
                  replace p502 := eq_true p502
                  replace q502 := eq_true q502
                  go_wp2_with (first | ((with_reducible refine gate_callee (f := 50) rfl ?_); refine goesL_ (some 41) rfl rfl Tryd.func50 (by kernel_rfl) rfl #[.slice A0 l0.length c0, .int .i64 (rd y499 x34_1)] rfl (by (try simp only [List.map_toArray, List.map_cons, List.map_nil]); first | done | rfl | (simp only [List.length_drop, List.length_take]; rfl)) ?_; (with_reducible refine (runes_On.calls k1 _ _ l0 (rd y499 x34_1) false t504 _ ?side1 ?side2 A18.out ⟨Sc.Tab.stay HT.out (by repeat (first | (with_reducible first | exact HB.out | apply wA | apply wN | apply wD) | exact HB.out | (refine below_set ?_ (by assumption)) | (refine below_set ?_ (Aside0.out (by assumption)))))⟩).mono ?_); (case side1 => repeat (first | exact (Kd.C_below HR0.out HB.out) | (with_reducible refine Kd.C_alloc ?_ _) | (with_reducible refine Kd.C_drewN ?_ _) | (with_reducible refine Kd.C_drew ?_))); (case side2 => exact HC0.out); rintro e w21 ⟨rfl, hb⟩; refine ⟨_, rfl, ?_⟩; have n0_ := ak (Kd.R_below (by (with_reducible repeat (first | apply Kd.R_alloc | apply Kd.R_drewN | apply Kd.R_drew)); exact HO_32.out) hb); have n1_ := ak (blk_below (g := gb495) (o := .cells #[.int .i64 a1_0, .int .i64 a1_1] 24 (0, 0)) (by (with_reducible repeat (first | refine bN ?_ _ | refine bD ?_ | refine bA ?_ _)); exact BK495.out) hb); have n2_ := ak (below_step (by repeat (first | (with_reducible first | exact HB.out | apply wA | apply wN | apply wD | refine below_set ?_ GE495.out) | exact HB.out)) hb); clear HO_32; clear BK495; clear HB; have HO_32 := n0_; have BK495 := n1_; have HB := n2_; clear n0_ n1_ n2_; (try clear hb); (try clear hb2); (try clear hk); (try clear hi)))
                  go_ret2
                  exact ⟨by first | rfl | (simp [errW_none, errW_some] <;> rfl) | (simp [*, errW_none, errW_some] <;> rfl), by repeat (first | (with_reducible first | exact HB.out | apply wA | apply wN | apply wD | refine below_set ?_ GE495.out) | exact HB.out)⟩
              · rw [if_neg c17] at H
                exact absurd H (by simp)
            · rw [if_neg c16] at H
              exact absurd H (by simp)
          · rw [if_neg c15] at H
            have c15b0 : decide (x34_1 < (y499.length : Int)) = false := decide_eq_false c15
            clear c15
            by_cases c22 : 0 ≤ a1_0
            · rw [if_pos c22] at H
              have c22b0 := eq_true c22
              have c22b1 : decide (0 ≤ a1_0) = true := decide_eq_true c22
              clear c22
              by_cases c23 : a1_0 ≤ a1_1
              · rw [if_pos c23] at H
                have c23b0 := eq_true c23
                have c23b1 : decide (a1_0 ≤ a1_1) = true := decide_eq_true c23
                clear c23
                by_cases c24 : a1_1 ≤ (l0.length : Int)
                · rw [if_pos c24] at H
                  have c24b0 := eq_true c24
                  have c24b1 : decide (a1_1 ≤ (l0.length : Int)) = true := decide_eq_true c24
                  clear c24
                  simp only [Option.some.injEq, Prod.mk.injEq] at H
                  obtain ⟨rfl, rfl⟩ := H
                  have hcz25_0 : wr.cell? ⟨gb495, 0, none⟩ = some (.int .i64 a1_0) := (blk_cell BK495.out 0).trans rfl
                  have hcz25_1 : wr.cell? ⟨gb495, 1, none⟩ = some (.int .i64 a1_1) := (blk_cell BK495.out 1).trans rfl
                  have hfz25_0 := blk_frozen BK495.out 0
                  have hfz25_1 := blk_frozen BK495.out 1
                  obtain ⟨i026, hi026, _, hsz26, _⟩ := info_parts info5
                  obtain ⟨A26, hcut26, hA26, hC26⟩ := print_mid_of (P := Tryd.prog) (Value.int .u8) 0 45 5 .i64 .i64 Tryd.underlying45 hi026 hsz26 A0 c0 l0 a1_0 a1_1 (of_decide_eq_true (by first | (with_reducible assumption) | assumption)) (by first | omega | exact of_decide_eq_true (by first | (with_reducible assumption) | assumption)) (of_decide_eq_true (by first | (with_reducible assumption) | assumption)) HC0.out
                  have HR505 := ak (Kd.C_of_reads (h1 := fun _ => rfl) (hA26 _ (Kd.reads_of_C HR0.out)))
                  have HC505 := ak hC26
                  clear hA26 hC26 hi026 hsz26
                  have hcv27 := Kd.C_string (P := Tryd.prog) (A := A26) (c := (c0 - a1_0.toNat)) Tryd.underlying45 Tryd.underlying5 Tryd.underlying9 (Kd.C_below HR505.out HB.out)
                  have hle_ : a1_1 ≤ (l0.length : Int) := of_decide_eq_true (by first | (with_reducible assumption) | assumption)
                  rw [List.length_drop, List.length_take, Nat.min_eq_left (by omega)] at hcv27
                  clear hle_
                  go_wp2
                  go_ret2
                  exact ⟨by first | rfl | (simp [errW_none, errW_some] <;> rfl) | (simp [*, errW_none, errW_some] <;> rfl), by repeat (first | (with_reducible first | exact HB.out | apply wA | apply wN | apply wD | refine below_set ?_ GE495.out) | exact HB.out)⟩
                · rw [if_neg c24] at H
                  exact absurd H (by simp)
              · rw [if_neg c23] at H
                exact absurd H (by simp)
            · rw [if_neg c22] at H
              exact absurd H (by simp)
    · rw [if_neg c6] at H
      have c6b0 : (t498 == 0) = false := beq_eq_false_iff_ne.mpr c6
      have c6b1 : (t498 != 0) = true := bne_iff_ne.mpr c6
      simp only [Option.some.injEq, Prod.mk.injEq] at H
      obtain ⟨rfl, rfl⟩ := H
      go_enter Tryd.func26, Tryd.ntmps26
      go_wp2_with (first | ((with_reducible refine gate_dst (N := 3) rfl ?_); refine box_event ?hg (N := 3) ?hd (cs := #[.int .i64 a1_0, .int .i64 a1_1]) (t := 24) ?hr ?_; (case hd => rfl); (case hg => rfl); (case hr => first | (go_simp; done) | (go_simp; rfl)); intro gb495 hg w28 hbox hb; have n0_ := ak (below_step (by repeat (first | (with_reducible first | exact HB.out | apply wA | apply wN | apply wD) | exact HB.out)) hb); have n1_ := ak (hbox); have n2_ := ak ((by rw [hg]; exact (below_size (by repeat (first | (with_reducible first | exact HB.out | apply wA | apply wN | apply wD) | exact HB.out))) : w.heap.size ≤ gb495)); have n3_ := ak ((by rw [hg]; exact (below_size (by repeat (first | (with_reducible first | exact HB.out | apply wA | apply wN | apply wD) | exact HB.out))) : w.heap.size ≤ gb495)); clear HB; have HB := n0_; have BK495 := n1_; have GW495 := n2_; have GE495 := n3_; clear n0_ n1_ n2_ n3_; clear hb hbox hg) | ((with_reducible refine gate_callee (f := 47) rfl ?_); refine goesL_ (some 15) rfl rfl Tryd.func47 (by kernel_rfl) rfl #[.slice A0 l0.length c0] rfl (by (try simp only [List.map_toArray, List.map_cons, List.map_nil]); first | done | rfl | (simp only [List.length_drop, List.length_take]; rfl)) ?_; (with_reducible refine (runes_Check.calls _ _ l0 t496 t497 _ ?side1 ?side2 A3.out ⟨Sc.Tab.stay HT.out (by repeat (first | (with_reducible first | exact HB.out | apply wA | apply wN | apply wD) | exact HB.out | (refine below_set ?_ (by assumption)) | (refine below_set ?_ (Aside0.out (by assumption)))))⟩).mono ?_); (case side1 => repeat (first | exact (Kd.C_below HR0.out HB.out) | (with_reducible refine Kd.C_alloc ?_ _) | (with_reducible refine Kd.C_drewN ?_ _) | (with_reducible refine Kd.C_drew ?_))); (case side2 => exact HC0.out); rintro e w29 ⟨rfl, hb⟩; refine ⟨_, rfl, ?_⟩; have n0_ := ak (blk_below (g := gb495) (o := .cells #[.int .i64 a1_0, .int .i64 a1_1] 24 (0, 0)) (by (with_reducible repeat (first | refine bN ?_ _ | refine bD ?_ | refine bA ?_ _)); exact BK495.out) hb); have n1_ := ak (below_step (by repeat (first | (with_reducible first | exact HB.out | apply wA | apply wN | apply wD | refine below_set ?_ GE495.out) | exact HB.out)) hb); clear BK495; clear HB; have BK495 := n0_; have HB := n1_; clear n0_ n1_; (try clear hb); (try clear hb2); (try clear hk); (try clear hi); have hcz30_0 : w29.cell? ⟨gb495, 0, none⟩ = some (.int .i64 a1_0) := (blk_cell BK495.out 0).trans rfl; have hcz30_1 : w29.cell? ⟨gb495, 1, none⟩ = some (.int .i64 a1_1) := (blk_cell BK495.out 1).trans rfl; have hfz30_0 := blk_frozen BK495.out 0; have hfz30_1 := blk_frozen BK495.out 1) | ((with_reducible refine gate_callee (f := 22) rfl ?_); refine goesL_ (some 24) rfl rfl Tryd.func22 (by kernel_rfl) rfl #[.int .i64 (l0.length : Int), .agg #[.int .i64 a1_0, .int .i64 a1_1]] rfl (by (try simp only [List.map_toArray, List.map_cons, List.map_nil]); first | done | rfl | (simp only [List.length_drop, List.length_take]; rfl)) ?_; (with_reducible refine (spans_Check.calls k (l0.length : Int) a1_0 a1_1 t498 _ A5.out).mono ?_); rintro e w31 ⟨rfl, hb⟩; refine ⟨_, rfl, ?_⟩; have n0_ := ak (blk_below (g := gb495) (o := .cells #[.int .i64 a1_0, .int .i64 a1_1] 24 (0, 0)) (by (with_reducible repeat (first | refine bN ?_ _ | refine bD ?_ | refine bA ?_ _)); exact BK495.out) hb); have n1_ := ak (below_step (by repeat (first | (with_reducible first | exact HB.out | apply wA | apply wN | apply wD | refine below_set ?_ GE495.out) | exact HB.out)) hb); clear BK495; clear HB; have BK495 := n0_; have HB := n1_; clear n0_ n1_; (try clear hb); (try clear hb2); (try clear hk); (try clear hi)))
      go_ret2
      exact ⟨by first | rfl | (simp [errW_none, errW_some] <;> rfl) | (simp [*, errW_none, errW_some] <;> rfl), by repeat (first | (with_reducible first | exact HB.out | apply wA | apply wN | apply wD | refine below_set ?_ GE495.out) | exact HB.out)⟩
  · rw [if_neg c4] at H
    have c4b0 : (t497 == 0) = false := beq_eq_false_iff_ne.mpr c4
    have c4b1 : (t497 != 0) = true := bne_iff_ne.mpr c4
    simp only [Option.some.injEq, Prod.mk.injEq] at H
    obtain ⟨rfl, rfl⟩ := H
    go_enter Tryd.func26, Tryd.ntmps26
    go_wp2_with (first | ((with_reducible refine gate_dst (N := 3) rfl ?_); refine box_event ?hg (N := 3) ?hd (cs := #[.int .i64 a1_0, .int .i64 a1_1]) (t := 24) ?hr ?_; (case hd => rfl); (case hg => rfl); (case hr => first | (go_simp; done) | (go_simp; rfl)); intro gb495 hg w32 hbox hb; have n0_ := ak (below_step (by repeat (first | (with_reducible first | exact HB.out | apply wA | apply wN | apply wD) | exact HB.out)) hb); have n1_ := ak (hbox); have n2_ := ak ((by rw [hg]; exact (below_size (by repeat (first | (with_reducible first | exact HB.out | apply wA | apply wN | apply wD) | exact HB.out))) : w.heap.size ≤ gb495)); have n3_ := ak ((by rw [hg]; exact (below_size (by repeat (first | (with_reducible first | exact HB.out | apply wA | apply wN | apply wD) | exact HB.out))) : w.heap.size ≤ gb495)); clear HB; have HB := n0_; have BK495 := n1_; have GW495 := n2_; have GE495 := n3_; clear n0_ n1_ n2_ n3_; clear hb hbox hg) | ((with_reducible refine gate_callee (f := 47) rfl ?_); refine goesL_ (some 15) rfl rfl Tryd.func47 (by kernel_rfl) rfl #[.slice A0 l0.length c0] rfl (by (try simp only [List.map_toArray, List.map_cons, List.map_nil]); first | done | rfl | (simp only [List.length_drop, List.length_take]; rfl)) ?_; (with_reducible refine (runes_Check.calls _ _ l0 t496 t497 _ ?side1 ?side2 A3.out ⟨Sc.Tab.stay HT.out (by repeat (first | (with_reducible first | exact HB.out | apply wA | apply wN | apply wD) | exact HB.out | (refine below_set ?_ (by assumption)) | (refine below_set ?_ (Aside0.out (by assumption)))))⟩).mono ?_); (case side1 => repeat (first | exact (Kd.C_below HR0.out HB.out) | (with_reducible refine Kd.C_alloc ?_ _) | (with_reducible refine Kd.C_drewN ?_ _) | (with_reducible refine Kd.C_drew ?_))); (case side2 => exact HC0.out); rintro e w33 ⟨rfl, hb⟩; refine ⟨_, rfl, ?_⟩; have n0_ := ak (blk_below (g := gb495) (o := .cells #[.int .i64 a1_0, .int .i64 a1_1] 24 (0, 0)) (by (with_reducible repeat (first | refine bN ?_ _ | refine bD ?_ | refine bA ?_ _)); exact BK495.out) hb); have n1_ := ak (below_step (by repeat (first | (with_reducible first | exact HB.out | apply wA | apply wN | apply wD | refine below_set ?_ GE495.out) | exact HB.out)) hb); clear BK495; clear HB; have BK495 := n0_; have HB := n1_; clear n0_ n1_; (try clear hb); (try clear hb2); (try clear hk); (try clear hi)))
    go_ret2
    exact ⟨by first | rfl | (simp [errW_none, errW_some] <;> rfl) | (simp [*, errW_none, errW_some] <;> rfl), by repeat (first | (with_reducible first | exact HB.out | apply wA | apply wN | apply wD | refine below_set ?_ GE495.out) | exact HB.out)⟩
end Go.Proofs.YtnkfdobcmfdhfaaDoor.P
namespace Go.Proofs.YtnkfdobcmfdhfaaDoor.P
open Go.RowKit Go.Proofs.YtnkfdobcmfdhfaaDoorW.PrintWords Go.Proofs.YtnkfdobcmfdhfaaDoorW.PrintLast Go.Proofs.YtnkfdobcmfdhfaaDoorW.PrintMore
attribute [local go_sem] max2_int min2_int max_two min_two max_three min_three max_four min_four   -- for this text's walks alone
set_option linter.unusedVariables false
set_option linter.unusedSimpArgs false
def mummerref03_Check.j0 : Nat → Int → Bool → Int → Int → Option (Int)
  | 0, _, _, _, _ => none
  | k + 1, x0, x14, x507000, x507001 => if x14 = true then (some 6) else (if x0 < 0 then (some 7) else (if x507001 > x0 then (some 7) else (some 0)))
def mummerref03_Check.f (k : Nat) (a0 : Int) (a1_0 : Int) (a1_1 : Int) : Option (Int) := if a1_0 < 0 then (mummerref03_Check.j0 k a0 true a1_0 a1_1) else (mummerref03_Check.j0 k a0 (decide (a1_0 > a1_1)) a1_0 a1_1)
set_option maxHeartbeats 8000000 in
set_option maxRecDepth 100000 in
theorem mummerref03_Check.calls (k : Nat) (a0 : Int) (a1_0 : Int) (a1_1 : Int) (r : Int) (w : World) (h : mummerref03_Check.f k a0 a1_0 a1_1 = some r) :
    Calls Tryd.prog 39 #[.int .i64 a0, .agg #[.int .i64 a1_0, .int .i64 a1_1]] w fun e w' => e = .returned (.int .i64 r) ∧ Below w.heap.size w w' := by
  have hu24 := Tryd.underlying24
  have HB := ak (Below.refl w.heap.size w)
  have H : (if a1_0 < 0 then (mummerref03_Check.j0 k a0 true a1_0 a1_1) else (mummerref03_Check.j0 k a0 (decide (a1_0 > a1_1)) a1_0 a1_1)) = some r := h
  clear h
  have HC3 := ak H
  clear H
  go_enter Tryd.func39, Tryd.ntmps39
  go_upto_region 1 with (first | ((with_reducible refine gate_dst (N := 3) rfl ?_); refine box_event ?hg (N := 3) ?hd (cs := #[.int .i64 a1_0, .int .i64 a1_1]) (t := 24) ?hr ?_; (case hd => rfl); (case hg => rfl); (case hr => first | (go_simp; done) | (go_simp; rfl)); intro gb506 hg w4 hbox hb; have n0_ := ak (below_step (by repeat (first | (with_reducible first | exact HB.out | apply wA | apply wN | apply wD) | exact HB.out)) hb); have n1_ := ak (hbox); have n2_ := ak ((by rw [hg]; exact (below_size (by repeat (first | (with_reducible first | exact HB.out | apply wA | apply wN | apply wD) | exact HB.out))) : w.heap.size ≤ gb506)); have n3_ := ak ((by rw [hg]; exact (below_size (by repeat (first | (with_reducible first | exact HB.out | apply wA | apply wN | apply wD) | exact HB.out))) : w.heap.size ≤ gb506)); clear HB; have HB := n0_; have BK506 := n1_; have GW506 := n2_; have GE506 := n3_; clear n0_ n1_ n2_ n3_; clear hb hbox hg))
  (try simp only [Act.put, List.setIfInBounds_toArray, List.set_cons_zero, List.set_cons_succ])
  go_cut [14] (fun v14 wc => ∃ (kq : Nat) (x14_2 : Bool), v14 = .bool x14_2 ∧ Aside0 (mummerref03_Check.j0 kq a0 x14_2 a1_0 a1_1 = some r) ∧ Aside0 (kq ≤ k) ∧ Aside0 (wc.heap[gb506]? = some (.cells #[.int .i64 a1_0, .int .i64 a1_1] 24 (0, 0))) ∧ Aside0 (Below w.heap.size w wc))
  case first =>
    have H := HC3.out
    clear HC3
    by_cases c5 : a1_0 < 0
    · rw [if_pos c5] at H
      have c5b0 : decide (a1_0 < 0) = true := decide_eq_true c5
      clear c5
      (first | rw [c5b0] | (simp only [i64_w, i32_w]; rw [c5b0]) | skip)
      have H' := ak H
      clear H
      have hcz6_0 : w4.cell? ⟨gb506, 0, none⟩ = some (.int .i64 a1_0) := (blk_cell BK506.out 0).trans rfl
      have hcz6_1 : w4.cell? ⟨gb506, 1, none⟩ = some (.int .i64 a1_1) := (blk_cell BK506.out 1).trans rfl
      have hfz6_0 := blk_frozen BK506.out 0
      have hfz6_1 := blk_frozen BK506.out 1
      go_wp2
      go_meet
      case rel => exact ⟨_, (true), (by first | rfl | (simp; done) | (simp [*]; done)), H', ⟨by first | omega | exact Nat.le_refl _⟩, ⟨by (with_reducible repeat (first | refine bN ?_ _ | refine bD ?_ | refine bA ?_ _)); exact BK506.out⟩, ⟨by repeat (first | (with_reducible first | exact HB.out | apply wA | apply wN | apply wD | refine below_set ?_ GE506.out) | exact HB.out)⟩⟩
    · rw [if_neg c5] at H
      have c5b0 : decide (a1_0 < 0) = false := decide_eq_false c5
      clear c5
      (first | rw [c5b0] | (simp only [i64_w, i32_w]; rw [c5b0]) | skip)
      have H' := ak H
      clear H
      have hcz7_0 : w4.cell? ⟨gb506, 0, none⟩ = some (.int .i64 a1_0) := (blk_cell BK506.out 0).trans rfl
      have hcz7_1 : w4.cell? ⟨gb506, 1, none⟩ = some (.int .i64 a1_1) := (blk_cell BK506.out 1).trans rfl
      have hfz7_0 := blk_frozen BK506.out 0
      have hfz7_1 := blk_frozen BK506.out 1
      go_wp2
      go_meet
      case rel => exact ⟨_, (decide (a1_0 > a1_1)), (by first | rfl | (simp; done) | (simp [*]; done)), H', ⟨by first | omega | exact Nat.le_refl _⟩, ⟨by (with_reducible repeat (first | refine bN ?_ _ | refine bD ?_ | refine bA ?_ _)); exact BK506.out⟩, ⟨by repeat (first | (with_reducible first | exact HB.out | apply wA | apply wN | apply wD | refine below_set ?_ GE506.out) | exact HB.out)⟩⟩
  case rest =>
    clear HC3
    try clear p2
    try clear c3
    try clear c5
    try clear c5b0
    try clear hcz6_0
    try clear hcz6_1
    try clear hcz7_0
    try clear hcz7_1
    try clear hfz6_0
    try clear hfz6_1
    try clear hfz7_0
    try clear hfz7_1
    obtain ⟨kq, x14_2, rfl, HA, HJ2, BK506, HB⟩ := hcut
    cases kq with
    | zero => exact absurd HA.out (by simp [mummerref03_Check.j0])
    | succ kj2 =>
      have H := HA.out
      clear HA
      simp only [mummerref03_Check.j0] at H
      by_cases c8 : x14_2 = true
      · subst c8
        have H1 : (some 6) = some r := by rw [if_pos rfl] at H; exact H
        clear H
        have H := H1
        clear H1
        obtain rfl := Option.some.inj H
        go_wp2
        go_ret
        exact ⟨by first | rfl | (simp [errW_none, errW_some] <;> rfl) | (simp [*, errW_none, errW_some] <;> rfl), by repeat (first | (with_reducible first | exact HB.out | apply wA | apply wN | apply wD | refine below_set ?_ GE506.out) | exact HB.out)⟩
      · replace c8 := Bool.eq_false_iff.mpr c8
        subst c8
        have H1 : (if a0 < 0 then (some 7) else (if a1_1 > a0 then (some 7) else (some 0))) = some r := by rw [if_neg (show ¬ (false = true) by decide)] at H; exact H
        clear H
        have H := H1
        clear H1
        by_cases c9 : a0 < 0
        · rw [if_pos c9] at H
          have c9b0 : decide (a0 < 0) = true := decide_eq_true c9
          clear c9
          obtain rfl := Option.some.inj H
          go_wp2
          go_ret
          exact ⟨by first | rfl | (simp [errW_none, errW_some] <;> rfl) | (simp [*, errW_none, errW_some] <;> rfl), by repeat (first | (with_reducible first | exact HB.out | apply wA | apply wN | apply wD | refine below_set ?_ GE506.out) | exact HB.out)⟩
        · rw [if_neg c9] at H
          have c9b0 : decide (a0 < 0) = false := decide_eq_false c9
          clear c9
          by_cases c10 : a1_1 > a0
          · rw [if_pos c10] at H
            have c10b0 : decide (a0 < a1_1) = true := decide_eq_true c10
            clear c10
            obtain rfl := Option.some.inj H
            have hcz11_0 : wc.cell? ⟨gb506, 0, none⟩ = some (.int .i64 a1_0) := (blk_cell BK506.out 0).trans rfl
            have hcz11_1 : wc.cell? ⟨gb506, 1, none⟩ = some (.int .i64 a1_1) := (blk_cell BK506.out 1).trans rfl
            have hfz11_0 := blk_frozen BK506.out 0
            have hfz11_1 := blk_frozen BK506.out 1
            go_wp2
            go_ret
            exact ⟨by first | rfl | (simp [errW_none, errW_some] <;> rfl) | (simp [*, errW_none, errW_some] <;> rfl), by repeat (first | (with_reducible first | exact HB.out | apply wA | apply wN | apply wD | refine below_set ?_ GE506.out) | exact HB.out)⟩
          · rw [if_neg c10] at H
            have c10b0 : decide (a0 < a1_1) = false := decide_eq_false c10
            clear c10
            obtain rfl := Option.some.inj H
            have hcz12_0 : wc.cell? ⟨gb506, 0, none⟩ = some (.int .i64 a1_0) := (blk_cell BK506.out 0).trans rfl
            have hcz12_1 : wc.cell? ⟨gb506, 1, none⟩ = some (.int .i64 a1_1) := (blk_cell BK506.out 1).trans rfl
            have hfz12_0 := blk_frozen BK506.out 0
            have hfz12_1 := blk_frozen BK506.out 1
            go_wp2
            go_ret
            exact ⟨by first | rfl | (simp [errW_none, errW_some] <;> rfl) | (simp [*, errW_none, errW_some] <;> rfl), by repeat (first | (with_reducible first | exact HB.out | apply wA | apply wN | apply wD | refine below_set ?_ GE506.out) | exact HB.out)⟩
end Go.Proofs.YtnkfdobcmfdhfaaDoor.P
namespace Go.Proofs.YtnkfdobcmfdhfaaDoor.P
open Go.RowKit Go.Proofs.YtnkfdobcmfdhfaaDoorW.PrintWords Go.Proofs.YtnkfdobcmfdhfaaDoorW.PrintLast Go.Proofs.YtnkfdobcmfdhfaaDoorW.PrintMore
attribute [local go_sem] max2_int min2_int max_two min_two max_three min_three max_four min_four   -- for this text's walks alone
set_option linter.unusedVariables false
set_option linter.unusedSimpArgs false
def mummerref02_Starts.l0 : Nat → List Int → List Int → Int → Option (List Int × Int)
  | 0, _, _, _ => none
  | k + 1, x0, x6, x7 => if x7 < (x0.length : Int) then (if x6.length < 17592186044416 then ((mummerref02_Decode.f k x0 x7).bind fun bt512 => (mummerref02_Starts.l0 k x0 (x6 ++ [x7]) (wrap64 (x7 + bt512.2.1)))) else (none)) else (if x6.length < 17592186044416 then (some ((x6 ++ [x7]), 0)) else (none))
def mummerref02_Starts.f (k : Nat) (l0 : List Int) : Option (List Int × Int) := (mummerref02_Check.f k l0).bind fun bt507 => (if bt507.2 = 0 then (mummerref02_Starts.l0 k l0 ([] : List Int) 0) else (some (([] : List Int), bt507.2)))
set_option maxHeartbeats 8000000 in
set_option maxRecDepth 100000 in
theorem mummerref02_Starts.calls (k : Nat) (A0 : Option Addr) (c0 : Nat) (l0 : List Int) (r1 : List Int) (r2 : Int) (w : World) (hr0 : Kd.C (Kd.int .u8) w A0 l0.length l0) (hc0 : l0.length ≤ c0) (h : mummerref02_Starts.f k l0 = some (r1, r2)) :
    Calls Tryd.prog 33 #[.slice A0 l0.length c0] w fun e w' => ∃ v0_ : Value, e = .returned (.tuple #[v0_, .int .i64 r2]) ∧ Kd.R (Kd.int .i64) 3 w' w.heap.size (fun _ => True) v0_ r1 ∧ Below w.heap.size w w' := by
  have HR0 := ak hr0
  have HC0 := ak hc0
  clear hr0 hc0
  have HB := ak (Below.refl w.heap.size w)
  have H : ((mummerref02_Check.f k l0).bind fun bt507 => (if bt507.2 = 0 then (mummerref02_Starts.l0 k l0 ([] : List Int) 0) else (some (([] : List Int), bt507.2)))) = some (r1, r2) := h
  clear h
  replace H := Option.bind_eq_some_iff.mp H
  obtain ⟨⟨t507, t508⟩, A20, H⟩ := H
  replace H : (if t508 = 0 then (mummerref02_Starts.l0 k l0 ([] : List Int) 0) else (some (([] : List Int), t508))) = some (r1, r2) := H
  have A2 := ak A20
  clear A20
  by_cases c3 : t508 = 0
  · rw [if_pos c3] at H
    have c3b0 : (t508 == 0) = true := beq_iff_eq.mpr c3
    have c3b1 : (t508 != 0) = false := bne_eq_false_iff_eq.mpr c3
    clear c3
    have H' := ak H
    clear H
    go_enter Tryd.func33, Tryd.ntmps33
    go_wp2_with (first | ((with_reducible refine gate_callee (f := 49) rfl ?_); refine goesL_ (some 13) rfl rfl Tryd.func49 (by kernel_rfl) rfl #[.slice A0 l0.length c0] rfl (by (try simp only [List.map_toArray, List.map_cons, List.map_nil]); first | done | rfl | (simp only [List.length_drop, List.length_take]; rfl)) ?_; (with_reducible refine (mummerref02_Check.calls k _ _ l0 t507 t508 _ ?side1 ?side2 A2.out).mono ?_); (case side1 => repeat (first | exact HR0.out | (with_reducible refine Kd.C_alloc ?_ _) | (with_reducible refine Kd.C_drewN ?_ _) | (with_reducible refine Kd.C_drew ?_))); (case side2 => exact HC0.out); rintro e w4 ⟨rfl, hb⟩; refine ⟨_, rfl, ?_⟩; have n0_ := ak (below_step (by repeat (first | (with_reducible first | exact HB.out | apply wA | apply wN | apply wD) | exact HB.out)) hb); clear HB; have HB := n0_; clear n0_; (try clear hb); (try clear hb2); (try clear hk); (try clear hi)))
    go_loopg [6, 7] k (fun kq v6 v7 w' => ∃ (x6_1 : List Int) (x7_1 : Int), v7 = .int .i64 x7_1 ∧ Aside0 (mummerref02_Starts.l0 kq l0 x6_1 x7_1 = some (r1, r2)) ∧ Aside0 (kq ≤ k) ∧ Aside0 (Kd.R (Kd.int .i64) 3 w' w.heap.size (fun _ => True) v6 x6_1) ∧ Aside0 (Below w.heap.size w w'))
    case atStart => exact ⟨(([] : List Int)), (0), (by first | rfl | (simp; done) | (simp [*]; done)), H', ⟨Nat.le_refl _⟩, ⟨by first | exact Kd.R_nil _ _ _ _ _ | exact Kd.N_nil _ _ _ _ _ | exact Kd.V_nil _ _ _ _ _ | exact Kd.Q_nil _ _ _ _ _ | exact Kd.S_nil _ _ _ _ _⟩, ⟨by repeat (first | (with_reducible first | exact HB.out | apply wA | apply wN | apply wD) | exact HB.out)⟩⟩
    case round =>
      clear H'
      try clear p2
      try clear c3
      try clear c3b0
      try clear c3b1
      try clear c4
      obtain ⟨x6_1, x7_1, rfl, HA, HK1, HO_6, HB⟩ := hrel
      cases gk with
      | zero => exact absurd HA.out (by simp [mummerref02_Starts.l0])
      | succ k1 =>
        have H := HA.out
        clear HA
        simp only [mummerref02_Starts.l0] at H
        by_cases c5 : x7_1 < (l0.length : Int)
        · rw [if_pos c5] at H
          have c5b0 : decide (x7_1 < (l0.length : Int)) = true := decide_eq_true c5
          clear c5
          by_cases c6 : x6_1.length < 17592186044416
          · rw [if_pos c6] at H
            have LMc6 := ak c6
            clear c6
            obtain ⟨y509, hy509⟩ : ∃ y_ : List Int, y_ = (x6_1 ++ [x7_1]) := ⟨_, rfl⟩
            replace H : ((mummerref02_Decode.f k1 l0 x7_1).bind fun bt512 => (mummerref02_Starts.l0 k1 l0 y509 (wrap64 (x7_1 + bt512.2.1)))) = some (r1, r2) := by first | (rw [hy509]; with_reducible exact H) | (have H2_ := (Option.bind_some _ _).symm.trans H; rw [hy509]; with_reducible exact H2_) | (have H2_ := (Option.bind_some _ _).symm.trans H; with_reducible exact H2_) | with_reducible exact H | (rw [hy509]; exact H) | exact H
            have Ny509 := ak hy509
            clear hy509
            replace H := Option.bind_eq_some_iff.mp H
            obtain ⟨⟨t512, t513, t514⟩, A70, H⟩ := H
            replace H : (mummerref02_Starts.l0 k1 l0 y509 (wrap64 (x7_1 + t513))) = some (r1, r2) := H
            have A7 := ak A70
            clear A70
            have H' := ak H
            clear H
            go_wp2_with (first | ((with_reducible refine gate_builtin (b := .append) (xs := #[.tmp 23, .tmp 25]) rfl ?_); at_builtin; refine Kd.R_append (Kd.int .i64) (w0 := w) w.heap.size rfl (.tmp 23) (.tmp 25) 31 3 (.int .i64 0) 8 rfl Tryd.underlying31 info3 rfl (by decide) (by omega) u6 x6_1 x7_1 [.int .i64 x7_1] (fun _ => True) (fun _ => False) rfl rfl ?aP (fun _ hk => hk.elim) ?aF ?aO ?aB ?aS ?aL ?_; (case aP => exact rfl); (case aB => exact (by repeat (first | (with_reducible first | exact HB.out | apply wA | apply wN | apply wD) | exact HB.out))); (case aF => exact (fun _ _ => trivial)); (case aO => exact (by (with_reducible repeat (first | apply Kd.R_alloc | apply Kd.R_drewN | apply Kd.R_drew)); exact HO_6.out)); (case aS => exact (below_size (by repeat (first | (with_reducible first | exact HB.out | apply wA | apply wN | apply wD) | exact HB.out)))); (case aL => have := LMc6.out; omega); intro v510 w8 ho hb hg hat; rw [← Ny509.out] at ho; have n0_ := ak (hb); have n1_ := ak (ho); clear HB; clear HO_6; have HB := n0_; have HO511 := n1_; clear n0_ n1_; clear ho hb hg hat) | ((with_reducible refine gate_callee (f := 54) rfl ?_); refine goesL_ (some 30) rfl rfl Tryd.func54 (by kernel_rfl) rfl #[.slice A0 l0.length c0, .int .i64 x7_1] rfl (by (try simp only [List.map_toArray, List.map_cons, List.map_nil]); first | done | rfl | (simp only [List.length_drop, List.length_take]; rfl)) ?_; (with_reducible refine (mummerref02_Decode.calls k1 _ _ l0 x7_1 t512 t513 t514 _ ?side1 ?side2 A7.out).mono ?_); (case side1 => repeat (first | exact (Kd.C_below HR0.out HB.out) | (with_reducible refine Kd.C_alloc ?_ _) | (with_reducible refine Kd.C_drewN ?_ _) | (with_reducible refine Kd.C_drew ?_))); (case side2 => exact HC0.out); rintro e w9 ⟨rfl, hb⟩; refine ⟨_, rfl, ?_⟩; have n0_ := ak (Kd.R_below (by (with_reducible repeat (first | apply Kd.R_alloc | apply Kd.R_drewN | apply Kd.R_drew)); exact HO511.out) hb); have n1_ := ak (below_step (by repeat (first | (with_reducible first | exact HB.out | apply wA | apply wN | apply wD) | exact HB.out)) hb); clear HO511; clear HB; have HO511 := n0_; have HB := n1_; clear n0_ n1_; (try clear hb); (try clear hb2); (try clear hk); (try clear hi)))
            go_roundg k1
            case measure => have := HK1.out; omega
            case rel => exact ⟨(y509), (wrap64 (x7_1 + t513)), (by first | rfl | (simp; done) | (simp [*]; done)), H', ⟨by have := HK1.out; omega⟩, ⟨by (with_reducible repeat (first | apply Kd.R_alloc | apply Kd.R_drewN | apply Kd.R_drew)); exact HO511.out⟩, ⟨by repeat (first | (with_reducible first | exact HB.out | apply wA | apply wN | apply wD) | exact HB.out)⟩⟩
          · rw [if_neg c6] at H
            exact absurd H (by simp)
        · rw [if_neg c5] at H
          have c5b0 : decide (x7_1 < (l0.length : Int)) = false := decide_eq_false c5
          clear c5
          by_cases c10 : x6_1.length < 17592186044416
          · rw [if_pos c10] at H
            have LMc10 := ak c10
            clear c10
            obtain ⟨y515, hy515⟩ : ∃ y_ : List Int, y_ = (x6_1 ++ [x7_1]) := ⟨_, rfl⟩
            replace H : (some (y515, 0)) = some (r1, r2) := by first | (rw [hy515]; with_reducible exact H) | (have H2_ := (Option.bind_some _ _).symm.trans H; rw [hy515]; with_reducible exact H2_) | (have H2_ := (Option.bind_some _ _).symm.trans H; with_reducible exact H2_) | with_reducible exact H | (rw [hy515]; exact H) | exact H
            have Ny515 := ak hy515
            clear hy515
            simp only [Option.some.injEq, Prod.mk.injEq] at H
            obtain ⟨rfl, rfl⟩ := H
            go_wp2_with (first | ((with_reducible refine gate_builtin (b := .append) (xs := #[.tmp 37, .tmp 39]) rfl ?_); at_builtin; refine Kd.R_append (Kd.int .i64) (w0 := w) w.heap.size rfl (.tmp 37) (.tmp 39) 31 3 (.int .i64 0) 8 rfl Tryd.underlying31 info3 rfl (by decide) (by omega) u6 x6_1 x7_1 [.int .i64 x7_1] (fun _ => True) (fun _ => False) rfl rfl ?aP (fun _ hk => hk.elim) ?aF ?aO ?aB ?aS ?aL ?_; (case aP => exact rfl); (case aB => exact (by repeat (first | (with_reducible first | exact HB.out | apply wA | apply wN | apply wD) | exact HB.out))); (case aF => exact (fun _ _ => trivial)); (case aO => exact (by (with_reducible repeat (first | apply Kd.R_alloc | apply Kd.R_drewN | apply Kd.R_drew)); exact HO_6.out)); (case aS => exact (below_size (by repeat (first | (with_reducible first | exact HB.out | apply wA | apply wN | apply wD) | exact HB.out)))); (case aL => have := LMc10.out; omega); intro v516 w11 ho hb hg hat; rw [← Ny515.out] at ho; have n0_ := ak (hb); have n1_ := ak (ho); clear HB; clear HO_6; have HB := n0_; have HO517 := n1_; clear n0_ n1_; clear ho hb hg hat))
            go_ret2
            exact ⟨_, by first | rfl | (simp [errW_none, errW_some] <;> rfl) | (simp [*, errW_none, errW_some] <;> rfl), by (with_reducible repeat (first | apply Kd.R_alloc | apply Kd.R_drewN | apply Kd.R_drew)); exact HO517.out, by repeat (first | (with_reducible first | exact HB.out | apply wA | apply wN | apply wD) | exact HB.out)⟩
          · rw [if_neg c10] at H
            exact absurd H (by simp)
  · rw [if_neg c3] at H
    have c3b0 : (t508 == 0) = false := beq_eq_false_iff_ne.mpr c3
    have c3b1 : (t508 != 0) = true := bne_iff_ne.mpr c3
    simp only [Option.some.injEq, Prod.mk.injEq] at H
    obtain ⟨rfl, rfl⟩ := H
    go_enter Tryd.func33, Tryd.ntmps33
    go_wp2_with (first | ((with_reducible refine gate_callee (f := 49) rfl ?_); refine goesL_ (some 13) rfl rfl Tryd.func49 (by kernel_rfl) rfl #[.slice A0 l0.length c0] rfl (by (try simp only [List.map_toArray, List.map_cons, List.map_nil]); first | done | rfl | (simp only [List.length_drop, List.length_take]; rfl)) ?_; (with_reducible refine (mummerref02_Check.calls k _ _ l0 t507 t508 _ ?side1 ?side2 A2.out).mono ?_); (case side1 => repeat (first | exact HR0.out | (with_reducible refine Kd.C_alloc ?_ _) | (with_reducible refine Kd.C_drewN ?_ _) | (with_reducible refine Kd.C_drew ?_))); (case side2 => exact HC0.out); rintro e w12 ⟨rfl, hb⟩; refine ⟨_, rfl, ?_⟩; have n0_ := ak (below_step (by repeat (first | (with_reducible first | exact HB.out | apply wA | apply wN | apply wD) | exact HB.out)) hb); clear HB; have HB := n0_; clear n0_; (try clear hb); (try clear hb2); (try clear hk); (try clear hi)))
    go_ret2
    exact ⟨_, by first | rfl | (simp [errW_none, errW_some] <;> rfl) | (simp [*, errW_none, errW_some] <;> rfl), by first | exact Kd.R_nil _ _ _ _ _ | exact Kd.N_nil _ _ _ _ _ | exact Kd.V_nil _ _ _ _ _ | exact Kd.Q_nil _ _ _ _ _ | exact Kd.S_nil _ _ _ _ _, by repeat (first | (with_reducible first | exact HB.out | apply wA | apply wN | apply wD) | exact HB.out)⟩
end Go.Proofs.YtnkfdobcmfdhfaaDoor.P
namespace Go.Proofs.YtnkfdobcmfdhfaaDoor.P
open Go.RowKit Go.Proofs.YtnkfdobcmfdhfaaDoorW.PrintWords Go.Proofs.YtnkfdobcmfdhfaaDoorW.PrintLast Go.Proofs.YtnkfdobcmfdhfaaDoorW.PrintMore
attribute [local go_sem] max2_int min2_int max_two min_two max_three min_three max_four min_four   -- for this text's walks alone
set_option linter.unusedVariables false
set_option linter.unusedSimpArgs false
mutual
def mummerref02_Back.j0 : Nat → Int → List Int → Int → Bool → Option (Int × Int)
  | 0, _, _, _, _ => none
  | k + 1, x1, x6, x7, x26 => if x26 = true then (mummerref02_Back.j1 k x1 x6 7) else (mummerref02_Back.j1 k x1 x6 x7)
def mummerref02_Back.j1 : Nat → Int → List Int → Int → Option (Int × Int)
  | 0, _, _, _ => none
  | k + 1, x1, x6, x7 => if x7 = 0 then (mummerref02_Back.l0 k x1 x6 0 0) else (some (0, x7))
def mummerref02_Back.l0 : Nat → Int → List Int → Int → Int → Option (Int × Int)
  | 0, _, _, _, _ => none
  | k + 1, x1, x6, x8, x9 => if x9 < (x6.length : Int) then (if 0 ≤ x9 then (if (rd x6 x9) ≤ x1 then (mummerref02_Back.l0 k x1 x6 (rd x6 x9) (wrap64 (x9 + 1))) else (mummerref02_Back.l0 k x1 x6 x8 (wrap64 (x9 + 1)))) else (none)) else (some (x8, 0))
end
def mummerref02_Back.f (k : Nat) (l0 : List Int) (a1 : Int) : Option (Int × Int) := (mummerref02_Starts.f k l0).bind fun bt518 => (if bt518.2 = 0 then (if a1 < 0 then (mummerref02_Back.j0 k a1 bt518.1 bt518.2 true) else (mummerref02_Back.j0 k a1 bt518.1 bt518.2 (decide (a1 > (l0.length : Int))))) else (mummerref02_Back.j0 k a1 bt518.1 bt518.2 false))
set_option maxHeartbeats 8000000 in
set_option maxRecDepth 100000 in
theorem mummerref02_Back.calls (k : Nat) (A0 : Option Addr) (c0 : Nat) (l0 : List Int) (a1 : Int) (r1 : Int) (r2 : Int) (w : World) (hr0 : Kd.C (Kd.int .u8) w A0 l0.length l0) (hc0 : l0.length ≤ c0) (h : mummerref02_Back.f k l0 a1 = some (r1, r2)) :
    Calls Tryd.prog 60 #[.slice A0 l0.length c0, .int .i64 a1] w fun e w' => e = .returned (.tuple #[.int .i64 r1, .int .i64 r2]) ∧ Below w.heap.size w w' := by
  have HR0 := ak hr0
  have HC0 := ak hc0
  clear hr0 hc0
  have HB := ak (Below.refl w.heap.size w)
  have H : ((mummerref02_Starts.f k l0).bind fun bt518 => (if bt518.2 = 0 then (if a1 < 0 then (mummerref02_Back.j0 k a1 bt518.1 bt518.2 true) else (mummerref02_Back.j0 k a1 bt518.1 bt518.2 (decide (a1 > (l0.length : Int))))) else (mummerref02_Back.j0 k a1 bt518.1 bt518.2 false))) = some (r1, r2) := h
  clear h
  replace H := Option.bind_eq_some_iff.mp H
  obtain ⟨⟨t518, t519⟩, A30, H⟩ := H
  replace H : (if t519 = 0 then (if a1 < 0 then (mummerref02_Back.j0 k a1 t518 t519 true) else (mummerref02_Back.j0 k a1 t518 t519 (decide (a1 > (l0.length : Int))))) else (mummerref02_Back.j0 k a1 t518 t519 false)) = some (r1, r2) := H
  have A3 := ak A30
  clear A30
  have HC4 := ak H
  clear H
  go_enter Tryd.func60, Tryd.ntmps60
  go_upto_region 2 with (first | ((with_reducible refine gate_callee (f := 33) rfl ?_); refine goesL_ (some 12) rfl rfl Tryd.func33 (by kernel_rfl) rfl #[.slice A0 l0.length c0] rfl (by (try simp only [List.map_toArray, List.map_cons, List.map_nil]); first | done | rfl | (simp only [List.length_drop, List.length_take]; rfl)) ?_; (with_reducible refine (mummerref02_Starts.calls k _ _ l0 t518 t519 _ ?side1 ?side2 A3.out).mono ?_); (case side1 => repeat (first | exact HR0.out | (with_reducible refine Kd.C_alloc ?_ _) | (with_reducible refine Kd.C_drewN ?_ _) | (with_reducible refine Kd.C_drew ?_))); (case side2 => exact HC0.out); rintro e w5 ⟨v520, rfl, ho0, hb⟩; refine ⟨_, rfl, ?_⟩; have n0_ := ak (Kd.R_lower ho0 (below_size (by repeat (first | (with_reducible first | exact HB.out | apply wA | apply wN | apply wD) | exact HB.out)))); have n1_ := ak (below_step (by repeat (first | (with_reducible first | exact HB.out | apply wA | apply wN | apply wD) | exact HB.out)) hb); clear HB; have HO521 := n0_; have HB := n1_; clear n0_ n1_; (try clear hb); (try clear hb2); (try clear hk); (try clear hi); (try clear ho0)))
  (try simp only [Act.put, List.setIfInBounds_toArray, List.set_cons_zero, List.set_cons_succ])
  go_cut [26] (fun v26 wc => ∃ (kq : Nat) (x26_3 : Bool), v26 = .bool x26_3 ∧ Aside0 (mummerref02_Back.j0 kq a1 t518 t519 x26_3 = some (r1, r2)) ∧ Aside0 (kq ≤ k) ∧ Aside0 (Kd.R (Kd.int .i64) 3 wc w.heap.size (fun _ => True) v520 t518) ∧ Aside0 (Below w.heap.size w wc))
  case first =>
    have H := HC4.out
    clear HC4
    by_cases c6 : t519 = 0
    · rw [if_pos c6] at H
      have c6b0 : (t519 == 0) = true := beq_iff_eq.mpr c6
      have c6b1 : (t519 != 0) = false := bne_eq_false_iff_eq.mpr c6
      clear c6
      (first | rw [c6b0] | (simp only [i64_w, i32_w]; rw [c6b0]) | skip)
      by_cases c7 : a1 < 0
      · rw [if_pos c7] at H
        have c7b0 : decide (a1 < 0) = true := decide_eq_true c7
        clear c7
        have H' := ak H
        clear H
        go_wp2
        go_meet
        case rel => exact ⟨_, (true), (by first | rfl | (simp; done) | (simp [*]; done)), H', ⟨by first | omega | exact Nat.le_refl _⟩, ⟨by (with_reducible repeat (first | apply Kd.R_alloc | apply Kd.R_drewN | apply Kd.R_drew)); exact HO521.out⟩, ⟨by repeat (first | (with_reducible first | exact HB.out | apply wA | apply wN | apply wD) | exact HB.out)⟩⟩
      · rw [if_neg c7] at H
        have c7b0 : decide (a1 < 0) = false := decide_eq_false c7
        clear c7
        have H' := ak H
        clear H
        go_wp2
        go_meet
        case rel => exact ⟨_, (decide (a1 > (l0.length : Int))), (by first | rfl | (simp; done) | (simp [*]; done)), H', ⟨by first | omega | exact Nat.le_refl _⟩, ⟨by (with_reducible repeat (first | apply Kd.R_alloc | apply Kd.R_drewN | apply Kd.R_drew)); exact HO521.out⟩, ⟨by repeat (first | (with_reducible first | exact HB.out | apply wA | apply wN | apply wD) | exact HB.out)⟩⟩
    · rw [if_neg c6] at H
      have c6b0 : (t519 == 0) = false := beq_eq_false_iff_ne.mpr c6
      have c6b1 : (t519 != 0) = true := bne_iff_ne.mpr c6
      (first | rw [c6b0] | (simp only [i64_w, i32_w]; rw [c6b0]) | skip)
      have H' := ak H
      clear H
      go_wp2
      go_meet
      case rel => exact ⟨_, (false), (by first | rfl | (simp; done) | (simp [*]; done)), H', ⟨by first | omega | exact Nat.le_refl _⟩, ⟨by (with_reducible repeat (first | apply Kd.R_alloc | apply Kd.R_drewN | apply Kd.R_drew)); exact HO521.out⟩, ⟨by repeat (first | (with_reducible first | exact HB.out | apply wA | apply wN | apply wD) | exact HB.out)⟩⟩
  case rest =>
    clear HC4
    try clear p2
    try clear c3
    try clear c6
    try clear c6b0
    try clear c6b1
    try clear c7
    try clear c7b0
    obtain ⟨kq, x26_3, rfl, HA, HJ3, HO_6, HB⟩ := hcut
    cases kq with
    | zero => exact absurd HA.out (by simp [mummerref02_Back.j0])
    | succ kj3 =>
      have H := HA.out
      clear HA
      simp only [mummerref02_Back.j0] at H
      have HC8 := ak H
      clear H
      go_upto_if 26 with (fail)
      go_cut [7] (fun v7 wc => ∃ (kq : Nat) (x7_7 : Int), v7 = .int .i64 x7_7 ∧ Aside0 (mummerref02_Back.j1 kq a1 t518 x7_7 = some (r1, r2)) ∧ Aside0 (kq ≤ kj3) ∧ Aside0 (Kd.R (Kd.int .i64) 3 wc w.heap.size (fun _ => True) v520 t518) ∧ Aside0 (Below w.heap.size w wc))
      case first =>
        have H := HC8.out
        clear HC8
        by_cases c9 : x26_3 = true
        · subst c9
          have H1 : (mummerref02_Back.j1 kj3 a1 t518 7) = some (r1, r2) := by rw [if_pos rfl] at H; exact H
          clear H
          have H := H1
          clear H1
          have H' := ak H
          clear H
          go_wp2
          go_meet
          case rel => exact ⟨_, (7), (by first | rfl | (simp; done) | (simp [*]; done)), H', ⟨by have := HJ3.out; first | omega | exact Nat.le_refl _⟩, ⟨by (with_reducible repeat (first | apply Kd.R_alloc | apply Kd.R_drewN | apply Kd.R_drew)); exact HO_6.out⟩, ⟨by repeat (first | (with_reducible first | exact HB.out | apply wA | apply wN | apply wD) | exact HB.out)⟩⟩
        · replace c9 := Bool.eq_false_iff.mpr c9
          subst c9
          have H1 : (mummerref02_Back.j1 kj3 a1 t518 t519) = some (r1, r2) := by rw [if_neg (show ¬ (false = true) by decide)] at H; exact H
          clear H
          have H := H1
          clear H1
          have H' := ak H
          clear H
          go_wp2
          go_meet
          case rel => exact ⟨_, (t519), (by first | rfl | (simp; done) | (simp [*]; done)), H', ⟨by have := HJ3.out; first | omega | exact Nat.le_refl _⟩, ⟨by (with_reducible repeat (first | apply Kd.R_alloc | apply Kd.R_drewN | apply Kd.R_drew)); exact HO_6.out⟩, ⟨by repeat (first | (with_reducible first | exact HB.out | apply wA | apply wN | apply wD) | exact HB.out)⟩⟩
      case rest =>
        clear HC8
        try clear p2
        try clear c3
        try clear c6
        try clear c6b0
        try clear c6b1
        try clear c7
        try clear c7b0
        try clear c9
        try clear p2
        obtain ⟨kq, x7_7, rfl, HA, HJ7, HO_6, HB⟩ := hcut
        cases kq with
        | zero => exact absurd HA.out (by simp [mummerref02_Back.j1])
        | succ kj7 =>
          have H := HA.out
          clear HA
          simp only [mummerref02_Back.j1] at H
          by_cases c10 : x7_7 = 0
          · rw [if_pos c10] at H
            have c10b0 : (x7_7 == 0) = true := beq_iff_eq.mpr c10
            have c10b1 : (x7_7 != 0) = false := bne_eq_false_iff_eq.mpr c10
            clear c10
            have H' := ak H
            clear H
            go_wp2
            go_loopg [8, 9] kj7 (fun kq v8 v9 w' => ∃ (x8_3 : Int) (x9_3 : Int), v8 = .int .i64 x8_3 ∧ v9 = .int .i64 x9_3 ∧ Aside0 (mummerref02_Back.l0 kq a1 t518 x8_3 x9_3 = some (r1, r2)) ∧ Aside0 (kq ≤ kj7) ∧ Aside0 (Kd.R (Kd.int .i64) 3 w' w.heap.size (fun _ => True) v520 t518) ∧ Aside0 (Below w.heap.size w w'))
            case atStart => exact ⟨(0), (0), (by first | rfl | (simp; done) | (simp [*]; done)), (by first | rfl | (simp; done) | (simp [*]; done)), H', ⟨Nat.le_refl _⟩, ⟨by (with_reducible repeat (first | apply Kd.R_alloc | apply Kd.R_drewN | apply Kd.R_drew)); exact HO_6.out⟩, ⟨by repeat (first | (with_reducible first | exact HB.out | apply wA | apply wN | apply wD) | exact HB.out)⟩⟩
            case round =>
              clear H'
              try clear c1
              try clear p2
              try clear c3
              try clear c6
              try clear c6b0
              try clear c6b1
              try clear c7
              try clear c7b0
              try clear c9
              try clear c10
              try clear c10b0
              try clear c10b1
              try clear p2
              obtain ⟨x8_3, x9_3, rfl, rfl, HA, HK3, HO_6, HB⟩ := hrel
              cases gk with
              | zero => exact absurd HA.out (by simp [mummerref02_Back.l0])
              | succ k3 =>
                have H := HA.out
                clear HA
                simp only [mummerref02_Back.l0] at H
                by_cases c11 : x9_3 < (t518.length : Int)
                · rw [if_pos c11] at H
                  have c11b0 : decide (x9_3 < (t518.length : Int)) = true := decide_eq_true c11
                  clear c11
                  by_cases c12 : 0 ≤ x9_3
                  · rw [if_pos c12] at H
                    have c12b0 : decide (0 ≤ x9_3) = true := decide_eq_true c12
                    clear c12
                    by_cases c13 : (rd t518 x9_3) ≤ a1
                    · rw [if_pos c13] at H
                      have c13b0 : decide ((rd t518 x9_3) ≤ a1) = true := decide_eq_true c13
                      clear c13
                      have H' := ak H
                      clear H
                      obtain ⟨Ao14, co14, eo14⟩ := Kd.R_slice HO_6.out
                      subst eo14
                      have p522 : 0 ≤ (x9_3 : Int) := of_decide_eq_true (by first | (with_reducible assumption) | assumption)
                      have q522 : x9_3 < (t518.length : Int) := of_decide_eq_true (by first | (with_reducible assumption) | assumption)
                      obtain ⟨ad522, e522, hx522_0⟩ := Kd.at_int (Kd.R_reads' HO_6.out).2.2 x9_3 p522 q522
                      cases e522
                      replace p522 := eq_true p522
                      replace q522 := eq_true q522
                      have p523 : 0 ≤ (x9_3 : Int) := of_decide_eq_true (by first | (with_reducible assumption) | assumption)
                      have q523 : x9_3 < (t518.length : Int) := of_decide_eq_true (by first | (with_reducible assumption) | assumption)
                      obtain ⟨ad523, e523, hx523_0⟩ := Kd.at_int (Kd.R_reads' HO_6.out).2.2 x9_3 p523 q523
                      obtain rfl : ad522 = ad523 := (by injection e523)
                      replace p523 := eq_true p523
                      replace q523 := eq_true q523
                      go_wp2
                      go_roundg k3
                      case measure => have := HJ3.out; have := HJ7.out; have := HK3.out; omega
                      case rel => exact ⟨(rd t518 x9_3), (wrap64 (x9_3 + 1)), (by first | rfl | (simp; done) | (simp [*]; done)), (by first | rfl | (simp; done) | (simp [*]; done)), H', ⟨by have := HJ3.out; have := HJ7.out; have := HK3.out; omega⟩, ⟨by (with_reducible repeat (first | apply Kd.R_alloc | apply Kd.R_drewN | apply Kd.R_drew)); exact HO_6.out⟩, ⟨by repeat (first | (with_reducible first | exact HB.out | apply wA | apply wN | apply wD) | exact HB.out)⟩⟩
                    · rw [if_neg c13] at H
                      have c13b0 : decide ((rd t518 x9_3) ≤ a1) = false := decide_eq_false c13
                      clear c13
                      have H' := ak H
                      clear H
                      obtain ⟨Ao15, co15, eo15⟩ := Kd.R_slice HO_6.out
                      subst eo15
                      have p522 : 0 ≤ (x9_3 : Int) := of_decide_eq_true (by first | (with_reducible assumption) | assumption)
                      have q522 : x9_3 < (t518.length : Int) := of_decide_eq_true (by first | (with_reducible assumption) | assumption)
                      obtain ⟨ad522, e522, hx522_0⟩ := Kd.at_int (Kd.R_reads' HO_6.out).2.2 x9_3 p522 q522
                      cases e522
                      replace p522 := eq_true p522
                      replace q522 := eq_true q522
                      go_wp2
                      go_roundg k3
                      case measure => have := HJ3.out; have := HJ7.out; have := HK3.out; omega
                      case rel => exact ⟨(x8_3), (wrap64 (x9_3 + 1)), (by first | rfl | (simp; done) | (simp [*]; done)), (by first | rfl | (simp; done) | (simp [*]; done)), H', ⟨by have := HJ3.out; have := HJ7.out; have := HK3.out; omega⟩, ⟨by (with_reducible repeat (first | apply Kd.R_alloc | apply Kd.R_drewN | apply Kd.R_drew)); exact HO_6.out⟩, ⟨by repeat (first | (with_reducible first | exact HB.out | apply wA | apply wN | apply wD) | exact HB.out)⟩⟩
                  · rw [if_neg c12] at H
                    exact absurd H (by simp)
                · rw [if_neg c11] at H
                  have c11b0 : decide (x9_3 < (t518.length : Int)) = false := decide_eq_false c11
                  clear c11
                  simp only [Option.some.injEq, Prod.mk.injEq] at H
                  obtain ⟨rfl, rfl⟩ := H
                  obtain ⟨Ao16, co16, eo16⟩ := Kd.R_slice HO_6.out
                  subst eo16
                  go_wp2
                  go_ret2
                  exact ⟨by first | rfl | (simp [errW_none, errW_some] <;> rfl) | (simp [*, errW_none, errW_some] <;> rfl), by repeat (first | (with_reducible first | exact HB.out | apply wA | apply wN | apply wD) | exact HB.out)⟩
          · rw [if_neg c10] at H
            have c10b0 : (x7_7 == 0) = false := beq_eq_false_iff_ne.mpr c10
            have c10b1 : (x7_7 != 0) = true := bne_iff_ne.mpr c10
            simp only [Option.some.injEq, Prod.mk.injEq] at H
            obtain ⟨rfl, rfl⟩ := H
            go_wp2
            go_ret2
            exact ⟨by first | rfl | (simp [errW_none, errW_some] <;> rfl) | (simp [*, errW_none, errW_some] <;> rfl), by repeat (first | (with_reducible first | exact HB.out | apply wA | apply wN | apply wD) | exact HB.out)⟩
end Go.Proofs.YtnkfdobcmfdhfaaDoor.P
namespace Go.Proofs.YtnkfdobcmfdhfaaDoor.P
open Go.RowKit Go.Proofs.YtnkfdobcmfdhfaaDoorW.PrintWords Go.Proofs.YtnkfdobcmfdhfaaDoorW.PrintLast Go.Proofs.YtnkfdobcmfdhfaaDoorW.PrintMore
attribute [local go_sem] max2_int min2_int max_two min_two max_three min_three max_four min_four   -- for this text's walks alone
set_option linter.unusedVariables false
set_option linter.unusedSimpArgs false
def mummerref02_On.f (k : Nat) (l0 : List Int) (a1 : Int) : Option (Bool × Int) := (mummerref02_Back.f k l0 a1).bind fun bt524 => (if bt524.2 = 0 then (some ((bt524.1 == a1), bt524.2)) else (some (false, bt524.2)))
set_option maxHeartbeats 8000000 in
set_option maxRecDepth 100000 in
theorem mummerref02_On.calls (k : Nat) (A0 : Option Addr) (c0 : Nat) (l0 : List Int) (a1 : Int) (r1 : Bool) (r2 : Int) (w : World) (hr0 : Kd.C (Kd.int .u8) w A0 l0.length l0) (hc0 : l0.length ≤ c0) (h : mummerref02_On.f k l0 a1 = some (r1, r2)) :
    Calls Tryd.prog 51 #[.slice A0 l0.length c0, .int .i64 a1] w fun e w' => e = .returned (.tuple #[.bool r1, .int .i64 r2]) ∧ Below w.heap.size w w' := by
  have HR0 := ak hr0
  have HC0 := ak hc0
  clear hr0 hc0
  have HB := ak (Below.refl w.heap.size w)
  have H : ((mummerref02_Back.f k l0 a1).bind fun bt524 => (if bt524.2 = 0 then (some ((bt524.1 == a1), bt524.2)) else (some (false, bt524.2)))) = some (r1, r2) := h
  clear h
  replace H := Option.bind_eq_some_iff.mp H
  obtain ⟨⟨t524, t525⟩, A30, H⟩ := H
  replace H : (if t525 = 0 then (some ((t524 == a1), t525)) else (some (false, t525))) = some (r1, r2) := H
  have A3 := ak A30
  clear A30
  by_cases c4 : t525 = 0
  · rw [if_pos c4] at H
    have c4b0 : (t525 == 0) = true := beq_iff_eq.mpr c4
    have c4b1 : (t525 != 0) = false := bne_eq_false_iff_eq.mpr c4
    clear c4
    simp only [Option.some.injEq, Prod.mk.injEq] at H
    obtain ⟨rfl, rfl⟩ := H
    go_enter Tryd.func51, Tryd.ntmps51
    go_wp2_with (first | ((with_reducible refine gate_callee (f := 60) rfl ?_); refine goesL_ (some 11) rfl rfl Tryd.func60 (by kernel_rfl) rfl #[.slice A0 l0.length c0, .int .i64 a1] rfl (by (try simp only [List.map_toArray, List.map_cons, List.map_nil]); first | done | rfl | (simp only [List.length_drop, List.length_take]; rfl)) ?_; (with_reducible refine (mummerref02_Back.calls k _ _ l0 a1 t524 t525 _ ?side1 ?side2 A3.out).mono ?_); (case side1 => repeat (first | exact HR0.out | (with_reducible refine Kd.C_alloc ?_ _) | (with_reducible refine Kd.C_drewN ?_ _) | (with_reducible refine Kd.C_drew ?_))); (case side2 => exact HC0.out); rintro e w5 ⟨rfl, hb⟩; refine ⟨_, rfl, ?_⟩; have n0_ := ak (below_step (by repeat (first | (with_reducible first | exact HB.out | apply wA | apply wN | apply wD) | exact HB.out)) hb); clear HB; have HB := n0_; clear n0_; (try clear hb); (try clear hb2); (try clear hk); (try clear hi)))
    go_ret2
    exact ⟨by first | rfl | (simp [errW_none, errW_some] <;> rfl) | (simp [*, errW_none, errW_some] <;> rfl), by repeat (first | (with_reducible first | exact HB.out | apply wA | apply wN | apply wD) | exact HB.out)⟩
  · rw [if_neg c4] at H
    have c4b0 : (t525 == 0) = false := beq_eq_false_iff_ne.mpr c4
    have c4b1 : (t525 != 0) = true := bne_iff_ne.mpr c4
    simp only [Option.some.injEq, Prod.mk.injEq] at H
    obtain ⟨rfl, rfl⟩ := H
    go_enter Tryd.func51, Tryd.ntmps51
    go_wp2_with (first | ((with_reducible refine gate_callee (f := 60) rfl ?_); refine goesL_ (some 11) rfl rfl Tryd.func60 (by kernel_rfl) rfl #[.slice A0 l0.length c0, .int .i64 a1] rfl (by (try simp only [List.map_toArray, List.map_cons, List.map_nil]); first | done | rfl | (simp only [List.length_drop, List.length_take]; rfl)) ?_; (with_reducible refine (mummerref02_Back.calls k _ _ l0 a1 t524 t525 _ ?side1 ?side2 A3.out).mono ?_); (case side1 => repeat (first | exact HR0.out | (with_reducible refine Kd.C_alloc ?_ _) | (with_reducible refine Kd.C_drewN ?_ _) | (with_reducible refine Kd.C_drew ?_))); (case side2 => exact HC0.out); rintro e w6 ⟨rfl, hb⟩; refine ⟨_, rfl, ?_⟩; have n0_ := ak (below_step (by repeat (first | (with_reducible first | exact HB.out | apply wA | apply wN | apply wD) | exact HB.out)) hb); clear HB; have HB := n0_; clear n0_; (try clear hb); (try clear hb2); (try clear hk); (try clear hi)))
    go_ret2
    exact ⟨by first | rfl | (simp [errW_none, errW_some] <;> rfl) | (simp [*, errW_none, errW_some] <;> rfl), by repeat (first | (with_reducible first | exact HB.out | apply wA | apply wN | apply wD) | exact HB.out)⟩
end Go.Proofs.YtnkfdobcmfdhfaaDoor.P
namespace Go.Proofs.YtnkfdobcmfdhfaaDoor.P
open Go.RowKit Go.Proofs.YtnkfdobcmfdhfaaDoorW.PrintWords Go.Proofs.YtnkfdobcmfdhfaaDoorW.PrintLast Go.Proofs.YtnkfdobcmfdhfaaDoorW.PrintMore
attribute [local go_sem] max2_int min2_int max_two min_two max_three min_three max_four min_four   -- for this text's walks alone
set_option linter.unusedVariables false
set_option linter.unusedSimpArgs false
def mummerref03_Cut.j0 : Nat → List Int → Int → Int → Int → Option (ByteArray × Int)
  | 0, _, _, _, _ => none
  | k + 1, x0, x7, x527000, x527001 => if x7 = 0 then ((mummerref02_On.f k x0 x527000).bind fun bt530 => ((mummerref02_On.f k x0 x527001).bind fun bt532 => (if bt530.1 = true then (if bt532.1 = true then (if 0 ≤ x527000 then (if x527000 ≤ x527001 then (if x527001 ≤ (x0.length : Int) then (some (strOfNums ((x0.take (x527001 : Int).toNat).drop (x527000 : Int).toNat), 0)) else (none)) else (none)) else (none)) else (some ((⟨#[]⟩ : ByteArray), 6))) else (some ((⟨#[]⟩ : ByteArray), 6))))) else (some ((⟨#[]⟩ : ByteArray), x7))
def mummerref03_Cut.f (k : Nat) (l0 : List Int) (a1_0 : Int) (a1_1 : Int) : Option (ByteArray × Int) := (mummerref02_Check.f k l0).bind fun bt527 => (if bt527.2 = 0 then ((mummerref03_Check.f k (l0.length : Int) a1_0 a1_1).bind fun t529 => (mummerref03_Cut.j0 k l0 t529 a1_0 a1_1)) else (mummerref03_Cut.j0 k l0 bt527.2 a1_0 a1_1))
set_option maxHeartbeats 8000000 in
set_option maxRecDepth 100000 in
theorem mummerref03_Cut.calls (k : Nat) (A0 : Option Addr) (c0 : Nat) (l0 : List Int) (a1_0 : Int) (a1_1 : Int) (r1 : ByteArray) (r2 : Int) (w : World) (hr0 : Kd.C (Kd.int .u8) w A0 l0.length l0) (hc0 : l0.length ≤ c0) (h : mummerref03_Cut.f k l0 a1_0 a1_1 = some (r1, r2)) :
    Calls Tryd.prog 27 #[.slice A0 l0.length c0, .agg #[.int .i64 a1_0, .int .i64 a1_1]] w fun e w' => e = .returned (.tuple #[.string r1, .int .i64 r2]) ∧ Below w.heap.size w w' := by
  have hu24 := Tryd.underlying24
  have HR0 := ak hr0
  have HC0 := ak hc0
  clear hr0 hc0
  have HB := ak (Below.refl w.heap.size w)
  have H : ((mummerref02_Check.f k l0).bind fun bt527 => (if bt527.2 = 0 then ((mummerref03_Check.f k (l0.length : Int) a1_0 a1_1).bind fun t529 => (mummerref03_Cut.j0 k l0 t529 a1_0 a1_1)) else (mummerref03_Cut.j0 k l0 bt527.2 a1_0 a1_1))) = some (r1, r2) := h
  clear h
  replace H := Option.bind_eq_some_iff.mp H
  obtain ⟨⟨t527, t528⟩, A30, H⟩ := H
  replace H : (if t528 = 0 then ((mummerref03_Check.f k (l0.length : Int) a1_0 a1_1).bind fun t529 => (mummerref03_Cut.j0 k l0 t529 a1_0 a1_1)) else (mummerref03_Cut.j0 k l0 t528 a1_0 a1_1)) = some (r1, r2) := H
  have A3 := ak A30
  clear A30
  have HC4 := ak H
  clear H
  go_enter Tryd.func27, Tryd.ntmps27
  go_upto_if 18 with (first | ((with_reducible refine gate_dst (N := 3) rfl ?_); refine box_event ?hg (N := 3) ?hd (cs := #[.int .i64 a1_0, .int .i64 a1_1]) (t := 24) ?hr ?_; (case hd => rfl); (case hg => rfl); (case hr => first | (go_simp; done) | (go_simp; rfl)); intro gb526 hg w5 hbox hb; have n0_ := ak (below_step (by repeat (first | (with_reducible first | exact HB.out | apply wA | apply wN | apply wD) | exact HB.out)) hb); have n1_ := ak (hbox); have n2_ := ak ((by rw [hg]; exact (below_size (by repeat (first | (with_reducible first | exact HB.out | apply wA | apply wN | apply wD) | exact HB.out))) : w.heap.size ≤ gb526)); have n3_ := ak ((by rw [hg]; exact (below_size (by repeat (first | (with_reducible first | exact HB.out | apply wA | apply wN | apply wD) | exact HB.out))) : w.heap.size ≤ gb526)); clear HB; have HB := n0_; have BK526 := n1_; have GW526 := n2_; have GE526 := n3_; clear n0_ n1_ n2_ n3_; clear hb hbox hg) | ((with_reducible refine gate_callee (f := 49) rfl ?_); refine goesL_ (some 14) rfl rfl Tryd.func49 (by kernel_rfl) rfl #[.slice A0 l0.length c0] rfl (by (try simp only [List.map_toArray, List.map_cons, List.map_nil]); first | done | rfl | (simp only [List.length_drop, List.length_take]; rfl)) ?_; (with_reducible refine (mummerref02_Check.calls k _ _ l0 t527 t528 _ ?side1 ?side2 A3.out).mono ?_); (case side1 => repeat (first | exact (Kd.C_below HR0.out HB.out) | (with_reducible refine Kd.C_alloc ?_ _) | (with_reducible refine Kd.C_drewN ?_ _) | (with_reducible refine Kd.C_drew ?_))); (case side2 => exact HC0.out); rintro e w6 ⟨rfl, hb⟩; refine ⟨_, rfl, ?_⟩; have n0_ := ak (blk_below (g := gb526) (o := .cells #[.int .i64 a1_0, .int .i64 a1_1] 24 (0, 0)) (by (with_reducible repeat (first | refine bN ?_ _ | refine bD ?_ | refine bA ?_ _)); exact BK526.out) hb); have n1_ := ak (below_step (by repeat (first | (with_reducible first | exact HB.out | apply wA | apply wN | apply wD | refine below_set ?_ GE526.out) | exact HB.out)) hb); clear BK526; clear HB; have BK526 := n0_; have HB := n1_; clear n0_ n1_; (try clear hb); (try clear hb2); (try clear hk); (try clear hi)))
  (try simp only [Act.put, List.setIfInBounds_toArray, List.set_cons_zero, List.set_cons_succ])
  go_cut [7] (fun v7 wc => ∃ (kq : Nat) (x7_3 : Int), v7 = .int .i64 x7_3 ∧ Aside0 (mummerref03_Cut.j0 kq l0 x7_3 a1_0 a1_1 = some (r1, r2)) ∧ Aside0 (kq ≤ k) ∧ Aside0 (wc.heap[gb526]? = some (.cells #[.int .i64 a1_0, .int .i64 a1_1] 24 (0, 0))) ∧ Aside0 (Below w.heap.size w wc))
  case first =>
    have H := HC4.out
    clear HC4
    by_cases c7 : t528 = 0
    · rw [if_pos c7] at H
      have c7b0 : (t528 == 0) = true := beq_iff_eq.mpr c7
      have c7b1 : (t528 != 0) = false := bne_eq_false_iff_eq.mpr c7
      clear c7
      (first | rw [c7b0] | (simp only [i64_w, i32_w]; rw [c7b0]) | skip)
      replace H := Option.bind_eq_some_iff.mp H
      obtain ⟨t529, A80, H⟩ := H
      replace H : (mummerref03_Cut.j0 k l0 t529 a1_0 a1_1) = some (r1, r2) := H
      have A8 := ak A80
      clear A80
      have H' := ak H
      clear H
      have hcz9_0 : w6.cell? ⟨gb526, 0, none⟩ = some (.int .i64 a1_0) := (blk_cell BK526.out 0).trans rfl
      have hcz9_1 : w6.cell? ⟨gb526, 1, none⟩ = some (.int .i64 a1_1) := (blk_cell BK526.out 1).trans rfl
      have hfz9_0 := blk_frozen BK526.out 0
      have hfz9_1 := blk_frozen BK526.out 1
      go_wp2_with (first | ((with_reducible refine gate_callee (f := 39) rfl ?_); refine goesL_ (some 22) rfl rfl Tryd.func39 (by kernel_rfl) rfl #[.int .i64 (l0.length : Int), .agg #[.int .i64 a1_0, .int .i64 a1_1]] rfl (by (try simp only [List.map_toArray, List.map_cons, List.map_nil]); first | done | rfl | (simp only [List.length_drop, List.length_take]; rfl)) ?_; (with_reducible refine (mummerref03_Check.calls k (l0.length : Int) a1_0 a1_1 t529 _ A8.out).mono ?_); rintro e w10 ⟨rfl, hb⟩; refine ⟨_, rfl, ?_⟩; have n0_ := ak (blk_below (g := gb526) (o := .cells #[.int .i64 a1_0, .int .i64 a1_1] 24 (0, 0)) (by (with_reducible repeat (first | refine bN ?_ _ | refine bD ?_ | refine bA ?_ _)); exact BK526.out) hb); have n1_ := ak (below_step (by repeat (first | (with_reducible first | exact HB.out | apply wA | apply wN | apply wD | refine below_set ?_ GE526.out) | exact HB.out)) hb); clear BK526; clear HB; have BK526 := n0_; have HB := n1_; clear n0_ n1_; (try clear hb); (try clear hb2); (try clear hk); (try clear hi)))
      go_meet
      case rel => exact ⟨_, (t529), (by first | rfl | (simp; done) | (simp [*]; done)), H', ⟨by first | omega | exact Nat.le_refl _⟩, ⟨by (with_reducible repeat (first | refine bN ?_ _ | refine bD ?_ | refine bA ?_ _)); exact BK526.out⟩, ⟨by repeat (first | (with_reducible first | exact HB.out | apply wA | apply wN | apply wD | refine below_set ?_ GE526.out) | exact HB.out)⟩⟩
    · rw [if_neg c7] at H
      have c7b0 : (t528 == 0) = false := beq_eq_false_iff_ne.mpr c7
      have c7b1 : (t528 != 0) = true := bne_iff_ne.mpr c7
      (first | rw [c7b0] | (simp only [i64_w, i32_w]; rw [c7b0]) | skip)
      have H' := ak H
      clear H
      go_wp2
      go_meet
      case rel => exact ⟨_, (t528), (by first | rfl | (simp; done) | (simp [*]; done)), H', ⟨by first | omega | exact Nat.le_refl _⟩, ⟨by (with_reducible repeat (first | refine bN ?_ _ | refine bD ?_ | refine bA ?_ _)); exact BK526.out⟩, ⟨by repeat (first | (with_reducible first | exact HB.out | apply wA | apply wN | apply wD | refine below_set ?_ GE526.out) | exact HB.out)⟩⟩
  case rest =>
    clear HC4
    try clear c2
    try clear p2
    try clear c3
    try clear c4
    try clear c7
    try clear c7b0
    try clear c7b1
    try clear hcz9_0
    try clear hcz9_1
    try clear hfz9_0
    try clear hfz9_1
    obtain ⟨kq, x7_3, rfl, HA, HJ3, BK526, HB⟩ := hcut
    cases kq with
    | zero => exact absurd HA.out (by simp [mummerref03_Cut.j0])
    | succ kj3 =>
      have H := HA.out
      clear HA
      simp only [mummerref03_Cut.j0] at H
      by_cases c11 : x7_3 = 0
      · rw [if_pos c11] at H
        have c11b0 : (x7_3 == 0) = true := beq_iff_eq.mpr c11
        have c11b1 : (x7_3 != 0) = false := bne_eq_false_iff_eq.mpr c11
        clear c11
        replace H := Option.bind_eq_some_iff.mp H
        obtain ⟨⟨t530, t531⟩, A120, H⟩ := H
        replace H : ((mummerref02_On.f kj3 l0 a1_1).bind fun bt532 => (if t530 = true then (if bt532.1 = true then (if 0 ≤ a1_0 then (if a1_0 ≤ a1_1 then (if a1_1 ≤ (l0.length : Int) then (some (strOfNums ((l0.take (a1_1 : Int).toNat).drop (a1_0 : Int).toNat), 0)) else (none)) else (none)) else (none)) else (some ((⟨#[]⟩ : ByteArray), 6))) else (some ((⟨#[]⟩ : ByteArray), 6)))) = some (r1, r2) := H
        have A12 := ak A120
        clear A120
        replace H := Option.bind_eq_some_iff.mp H
        obtain ⟨⟨t532, t533⟩, A130, H⟩ := H
        replace H : (if t530 = true then (if t532 = true then (if 0 ≤ a1_0 then (if a1_0 ≤ a1_1 then (if a1_1 ≤ (l0.length : Int) then (some (strOfNums ((l0.take (a1_1 : Int).toNat).drop (a1_0 : Int).toNat), 0)) else (none)) else (none)) else (none)) else (some ((⟨#[]⟩ : ByteArray), 6))) else (some ((⟨#[]⟩ : ByteArray), 6))) = some (r1, r2) := H
        have A13 := ak A130
        clear A130
        by_cases c14 : t530 = true
        · subst c14
          have H1 : (if t532 = true then (if 0 ≤ a1_0 then (if a1_0 ≤ a1_1 then (if a1_1 ≤ (l0.length : Int) then (some (strOfNums ((l0.take (a1_1 : Int).toNat).drop (a1_0 : Int).toNat), 0)) else (none)) else (none)) else (none)) else (some ((⟨#[]⟩ : ByteArray), 6))) = some (r1, r2) := by rw [if_pos rfl] at H; exact H
          clear H
          have H := H1
          clear H1
          by_cases c15 : t532 = true
          · subst c15
            have H1 : (if 0 ≤ a1_0 then (if a1_0 ≤ a1_1 then (if a1_1 ≤ (l0.length : Int) then (some (strOfNums ((l0.take (a1_1 : Int).toNat).drop (a1_0 : Int).toNat), 0)) else (none)) else (none)) else (none)) = some (r1, r2) := by rw [if_pos rfl] at H; exact H
            clear H
            have H := H1
            clear H1
            by_cases c16 : 0 ≤ a1_0
            · rw [if_pos c16] at H
              have c16b0 := eq_true c16
              have c16b1 : decide (0 ≤ a1_0) = true := decide_eq_true c16
              clear c16
              by_cases c17 : a1_0 ≤ a1_1
              · rw [if_pos c17] at H
                have c17b0 := eq_true c17
                have c17b1 : decide (a1_0 ≤ a1_1) = true := decide_eq_true c17
                clear c17
                by_cases c18 : a1_1 ≤ (l0.length : Int)
                · rw [if_pos c18] at H
                  have c18b0 := eq_true c18
                  have c18b1 : decide (a1_1 ≤ (l0.length : Int)) = true := decide_eq_true c18
                  clear c18
                  simp only [Option.some.injEq, Prod.mk.injEq] at H
                  obtain ⟨rfl, rfl⟩ := H
                  have hcz19_0 : wc.cell? ⟨gb526, 0, none⟩ = some (.int .i64 a1_0) := (blk_cell BK526.out 0).trans rfl
                  have hcz19_1 : wc.cell? ⟨gb526, 1, none⟩ = some (.int .i64 a1_1) := (blk_cell BK526.out 1).trans rfl
                  have hfz19_0 := blk_frozen BK526.out 0
                  have hfz19_1 := blk_frozen BK526.out 1
                  go_wp2_with (first | ((with_reducible refine gate_callee (f := 51) rfl ?_); refine goesL_ (some 30) rfl rfl Tryd.func51 (by kernel_rfl) rfl #[.slice A0 l0.length c0, .int .i64 a1_0] rfl (by (try simp only [List.map_toArray, List.map_cons, List.map_nil]); first | done | rfl | (simp only [List.length_drop, List.length_take]; rfl)) ?_; (with_reducible refine (mummerref02_On.calls kj3 _ _ l0 a1_0 true t531 _ ?side1 ?side2 A12.out).mono ?_); (case side1 => repeat (first | exact (Kd.C_below HR0.out HB.out) | (with_reducible refine Kd.C_alloc ?_ _) | (with_reducible refine Kd.C_drewN ?_ _) | (with_reducible refine Kd.C_drew ?_))); (case side2 => exact HC0.out); rintro e w20 ⟨rfl, hb⟩; refine ⟨_, rfl, ?_⟩; have n0_ := ak (blk_below (g := gb526) (o := .cells #[.int .i64 a1_0, .int .i64 a1_1] 24 (0, 0)) (by (with_reducible repeat (first | refine bN ?_ _ | refine bD ?_ | refine bA ?_ _)); exact BK526.out) hb); have n1_ := ak (below_step (by repeat (first | (with_reducible first | exact HB.out | apply wA | apply wN | apply wD | refine below_set ?_ GE526.out) | exact HB.out)) hb); clear BK526; clear HB; have BK526 := n0_; have HB := n1_; clear n0_ n1_; (try clear hb); (try clear hb2); (try clear hk); (try clear hi); have hcz21_0 : w20.cell? ⟨gb526, 0, none⟩ = some (.int .i64 a1_0) := (blk_cell BK526.out 0).trans rfl; have hcz21_1 : w20.cell? ⟨gb526, 1, none⟩ = some (.int .i64 a1_1) := (blk_cell BK526.out 1).trans rfl; have hfz21_0 := blk_frozen BK526.out 0; have hfz21_1 := blk_frozen BK526.out 1) | ((with_reducible refine gate_callee (f := 51) rfl ?_); refine goesL_ (some 37) rfl rfl Tryd.func51 (by kernel_rfl) rfl #[.slice A0 l0.length c0, .int .i64 a1_1] rfl (by (try simp only [List.map_toArray, List.map_cons, List.map_nil]); first | done | rfl | (simp only [List.length_drop, List.length_take]; rfl)) ?_; (with_reducible refine (mummerref02_On.calls kj3 _ _ l0 a1_1 true t533 _ ?side1 ?side2 A13.out).mono ?_); (case side1 => repeat (first | exact (Kd.C_below HR0.out HB.out) | (with_reducible refine Kd.C_alloc ?_ _) | (with_reducible refine Kd.C_drewN ?_ _) | (with_reducible refine Kd.C_drew ?_))); (case side2 => exact HC0.out); rintro e w22 ⟨rfl, hb⟩; refine ⟨_, rfl, ?_⟩; have n0_ := ak (blk_below (g := gb526) (o := .cells #[.int .i64 a1_0, .int .i64 a1_1] 24 (0, 0)) (by (with_reducible repeat (first | refine bN ?_ _ | refine bD ?_ | refine bA ?_ _)); exact BK526.out) hb); have n1_ := ak (below_step (by repeat (first | (with_reducible first | exact HB.out | apply wA | apply wN | apply wD | refine below_set ?_ GE526.out) | exact HB.out)) hb); clear BK526; clear HB; have BK526 := n0_; have HB := n1_; clear n0_ n1_; (try clear hb); (try clear hb2); (try clear hk); (try clear hi); have hcz23_0 : w22.cell? ⟨gb526, 0, none⟩ = some (.int .i64 a1_0) := (blk_cell BK526.out 0).trans rfl; have hcz23_1 : w22.cell? ⟨gb526, 1, none⟩ = some (.int .i64 a1_1) := (blk_cell BK526.out 1).trans rfl; have hfz23_0 := blk_frozen BK526.out 0; have hfz23_1 := blk_frozen BK526.out 1; obtain ⟨i024, hi024, _, hsz24, _⟩ := info_parts info5; obtain ⟨A24, hcut24, hA24, hC24⟩ := print_mid_of (P := Tryd.prog) (Value.int .u8) 0 45 5 .i64 .i64 Tryd.underlying45 hi024 hsz24 A0 c0 l0 a1_0 a1_1 (of_decide_eq_true (by first | (with_reducible assumption) | assumption)) (by first | omega | exact of_decide_eq_true (by first | (with_reducible assumption) | assumption)) (of_decide_eq_true (by first | (with_reducible assumption) | assumption)) HC0.out; have HR534 := ak (Kd.C_of_reads (h1 := fun _ => rfl) (hA24 _ (Kd.reads_of_C HR0.out))); have HC534 := ak hC24; clear hA24 hC24 hi024 hsz24; have hcv25 := Kd.C_string (P := Tryd.prog) (A := A24) (c := (c0 - a1_0.toNat)) Tryd.underlying45 Tryd.underlying5 Tryd.underlying9 (Kd.C_below HR534.out HB.out); have hle_ : a1_1 ≤ (l0.length : Int) := of_decide_eq_true (by first | (with_reducible assumption) | assumption); rw [List.length_drop, List.length_take, Nat.min_eq_left (by omega)] at hcv25; clear hle_))
                  go_ret2
                  exact ⟨by first | rfl | (simp [errW_none, errW_some] <;> rfl) | (simp [*, errW_none, errW_some] <;> rfl), by repeat (first | (with_reducible first | exact HB.out | apply wA | apply wN | apply wD | refine below_set ?_ GE526.out) | exact HB.out)⟩
                · rw [if_neg c18] at H
                  exact absurd H (by simp)
              · rw [if_neg c17] at H
                exact absurd H (by simp)
            · rw [if_neg c16] at H
              exact absurd H (by simp)
          · replace c15 := Bool.eq_false_iff.mpr c15
            subst c15
            have H1 : (some ((⟨#[]⟩ : ByteArray), 6)) = some (r1, r2) := by rw [if_neg (show ¬ (false = true) by decide)] at H; exact H
            clear H
            have H := H1
            clear H1
            simp only [Option.some.injEq, Prod.mk.injEq] at H
            obtain ⟨rfl, rfl⟩ := H
            have hcz26_0 : wc.cell? ⟨gb526, 0, none⟩ = some (.int .i64 a1_0) := (blk_cell BK526.out 0).trans rfl
            have hcz26_1 : wc.cell? ⟨gb526, 1, none⟩ = some (.int .i64 a1_1) := (blk_cell BK526.out 1).trans rfl
            have hfz26_0 := blk_frozen BK526.out 0
            have hfz26_1 := blk_frozen BK526.out 1
            go_wp2_with (first | ((with_reducible refine gate_callee (f := 51) rfl ?_); refine goesL_ (some 30) rfl rfl Tryd.func51 (by kernel_rfl) rfl #[.slice A0 l0.length c0, .int .i64 a1_0] rfl (by (try simp only [List.map_toArray, List.map_cons, List.map_nil]); first | done | rfl | (simp only [List.length_drop, List.length_take]; rfl)) ?_; (with_reducible refine (mummerref02_On.calls kj3 _ _ l0 a1_0 true t531 _ ?side1 ?side2 A12.out).mono ?_); (case side1 => repeat (first | exact (Kd.C_below HR0.out HB.out) | (with_reducible refine Kd.C_alloc ?_ _) | (with_reducible refine Kd.C_drewN ?_ _) | (with_reducible refine Kd.C_drew ?_))); (case side2 => exact HC0.out); rintro e w27 ⟨rfl, hb⟩; refine ⟨_, rfl, ?_⟩; have n0_ := ak (blk_below (g := gb526) (o := .cells #[.int .i64 a1_0, .int .i64 a1_1] 24 (0, 0)) (by (with_reducible repeat (first | refine bN ?_ _ | refine bD ?_ | refine bA ?_ _)); exact BK526.out) hb); have n1_ := ak (below_step (by repeat (first | (with_reducible first | exact HB.out | apply wA | apply wN | apply wD | refine below_set ?_ GE526.out) | exact HB.out)) hb); clear BK526; clear HB; have BK526 := n0_; have HB := n1_; clear n0_ n1_; (try clear hb); (try clear hb2); (try clear hk); (try clear hi); have hcz28_0 : w27.cell? ⟨gb526, 0, none⟩ = some (.int .i64 a1_0) := (blk_cell BK526.out 0).trans rfl; have hcz28_1 : w27.cell? ⟨gb526, 1, none⟩ = some (.int .i64 a1_1) := (blk_cell BK526.out 1).trans rfl; have hfz28_0 := blk_frozen BK526.out 0; have hfz28_1 := blk_frozen BK526.out 1) | ((with_reducible refine gate_callee (f := 51) rfl ?_); refine goesL_ (some 37) rfl rfl Tryd.func51 (by kernel_rfl) rfl #[.slice A0 l0.length c0, .int .i64 a1_1] rfl (by (try simp only [List.map_toArray, List.map_cons, List.map_nil]); first | done | rfl | (simp only [List.length_drop, List.length_take]; rfl)) ?_; (with_reducible refine (mummerref02_On.calls kj3 _ _ l0 a1_1 false t533 _ ?side1 ?side2 A13.out).mono ?_); (case side1 => repeat (first | exact (Kd.C_below HR0.out HB.out) | (with_reducible refine Kd.C_alloc ?_ _) | (with_reducible refine Kd.C_drewN ?_ _) | (with_reducible refine Kd.C_drew ?_))); (case side2 => exact HC0.out); rintro e w29 ⟨rfl, hb⟩; refine ⟨_, rfl, ?_⟩; have n0_ := ak (blk_below (g := gb526) (o := .cells #[.int .i64 a1_0, .int .i64 a1_1] 24 (0, 0)) (by (with_reducible repeat (first | refine bN ?_ _ | refine bD ?_ | refine bA ?_ _)); exact BK526.out) hb); have n1_ := ak (below_step (by repeat (first | (with_reducible first | exact HB.out | apply wA | apply wN | apply wD | refine below_set ?_ GE526.out) | exact HB.out)) hb); clear BK526; clear HB; have BK526 := n0_; have HB := n1_; clear n0_ n1_; (try clear hb); (try clear hb2); (try clear hk); (try clear hi)))
            go_ret2
            exact ⟨by first | rfl | (simp [errW_none, errW_some] <;> rfl) | (simp [*, errW_none, errW_some] <;> rfl), by repeat (first | (with_reducible first | exact HB.out | apply wA | apply wN | apply wD | refine below_set ?_ GE526.out) | exact HB.out)⟩
        · replace c14 := Bool.eq_false_iff.mpr c14
          subst c14
          have H1 : (some ((⟨#[]⟩ : ByteArray), 6)) = some (r1, r2) := by rw [if_neg (show ¬ (false = true) by decide)] at H; exact H
          clear H
          have H := H1
          clear H1
          simp only [Option.some.injEq, Prod.mk.injEq] at H
          obtain ⟨rfl, rfl⟩ := H
          have hcz30_0 : wc.cell? ⟨gb526, 0, none⟩ = some (.int .i64 a1_0) := (blk_cell BK526.out 0).trans rfl
          have hcz30_1 : wc.cell? ⟨gb526, 1, none⟩ = some (.int .i64 a1_1) := (blk_cell BK526.out 1).trans rfl
          have hfz30_0 := blk_frozen BK526.out 0
          have hfz30_1 := blk_frozen BK526.out 1
          go_wp2_with (first | ((with_reducible refine gate_callee (f := 51) rfl ?_); refine goesL_ (some 30) rfl rfl Tryd.func51 (by kernel_rfl) rfl #[.slice A0 l0.length c0, .int .i64 a1_0] rfl (by (try simp only [List.map_toArray, List.map_cons, List.map_nil]); first | done | rfl | (simp only [List.length_drop, List.length_take]; rfl)) ?_; (with_reducible refine (mummerref02_On.calls kj3 _ _ l0 a1_0 false t531 _ ?side1 ?side2 A12.out).mono ?_); (case side1 => repeat (first | exact (Kd.C_below HR0.out HB.out) | (with_reducible refine Kd.C_alloc ?_ _) | (with_reducible refine Kd.C_drewN ?_ _) | (with_reducible refine Kd.C_drew ?_))); (case side2 => exact HC0.out); rintro e w31 ⟨rfl, hb⟩; refine ⟨_, rfl, ?_⟩; have n0_ := ak (blk_below (g := gb526) (o := .cells #[.int .i64 a1_0, .int .i64 a1_1] 24 (0, 0)) (by (with_reducible repeat (first | refine bN ?_ _ | refine bD ?_ | refine bA ?_ _)); exact BK526.out) hb); have n1_ := ak (below_step (by repeat (first | (with_reducible first | exact HB.out | apply wA | apply wN | apply wD | refine below_set ?_ GE526.out) | exact HB.out)) hb); clear BK526; clear HB; have BK526 := n0_; have HB := n1_; clear n0_ n1_; (try clear hb); (try clear hb2); (try clear hk); (try clear hi); have hcz32_0 : w31.cell? ⟨gb526, 0, none⟩ = some (.int .i64 a1_0) := (blk_cell BK526.out 0).trans rfl; have hcz32_1 : w31.cell? ⟨gb526, 1, none⟩ = some (.int .i64 a1_1) := (blk_cell BK526.out 1).trans rfl; have hfz32_0 := blk_frozen BK526.out 0; have hfz32_1 := blk_frozen BK526.out 1) | ((with_reducible refine gate_callee (f := 51) rfl ?_); refine goesL_ (some 37) rfl rfl Tryd.func51 (by kernel_rfl) rfl #[.slice A0 l0.length c0, .int .i64 a1_1] rfl (by (try simp only [List.map_toArray, List.map_cons, List.map_nil]); first | done | rfl | (simp only [List.length_drop, List.length_take]; rfl)) ?_; (with_reducible refine (mummerref02_On.calls kj3 _ _ l0 a1_1 t532 t533 _ ?side1 ?side2 A13.out).mono ?_); (case side1 => repeat (first | exact (Kd.C_below HR0.out HB.out) | (with_reducible refine Kd.C_alloc ?_ _) | (with_reducible refine Kd.C_drewN ?_ _) | (with_reducible refine Kd.C_drew ?_))); (case side2 => exact HC0.out); rintro e w33 ⟨rfl, hb⟩; refine ⟨_, rfl, ?_⟩; have n0_ := ak (blk_below (g := gb526) (o := .cells #[.int .i64 a1_0, .int .i64 a1_1] 24 (0, 0)) (by (with_reducible repeat (first | refine bN ?_ _ | refine bD ?_ | refine bA ?_ _)); exact BK526.out) hb); have n1_ := ak (below_step (by repeat (first | (with_reducible first | exact HB.out | apply wA | apply wN | apply wD | refine below_set ?_ GE526.out) | exact HB.out)) hb); clear BK526; clear HB; have BK526 := n0_; have HB := n1_; clear n0_ n1_; (try clear hb); (try clear hb2); (try clear hk); (try clear hi)))
          go_ret2
          exact ⟨by first | rfl | (simp [errW_none, errW_some] <;> rfl) | (simp [*, errW_none, errW_some] <;> rfl), by repeat (first | (with_reducible first | exact HB.out | apply wA | apply wN | apply wD | refine below_set ?_ GE526.out) | exact HB.out)⟩
      · rw [if_neg c11] at H
        have c11b0 : (x7_3 == 0) = false := beq_eq_false_iff_ne.mpr c11
        have c11b1 : (x7_3 != 0) = true := bne_iff_ne.mpr c11
        simp only [Option.some.injEq, Prod.mk.injEq] at H
        obtain ⟨rfl, rfl⟩ := H
        go_wp2
        go_ret2
        exact ⟨by first | rfl | (simp [errW_none, errW_some] <;> rfl) | (simp [*, errW_none, errW_some] <;> rfl), by repeat (first | (with_reducible first | exact HB.out | apply wA | apply wN | apply wD | refine below_set ?_ GE526.out) | exact HB.out)⟩
end Go.Proofs.YtnkfdobcmfdhfaaDoor.P
namespace Go.Proofs.YtnkfdobcmfdhfaaDoor.P
open Go.RowKit Go.Proofs.YtnkfdobcmfdhfaaDoorW.PrintWords Go.Proofs.YtnkfdobcmfdhfaaDoorW.PrintLast Go.Proofs.YtnkfdobcmfdhfaaDoorW.PrintMore
attribute [local go_sem] max2_int min2_int max_two min_two max_three min_three max_four min_four   -- for this text's walks alone
set_option linter.unusedVariables false
set_option linter.unusedSimpArgs false
attribute [local go_sem high] eqA24
def mummerref03_Same.l0 : Nat → List (S24) → List (S24) → Int → Option (Bool)
  | 0, _, _, _ => none
  | k + 1, x0, x1, x5 => if x5 < (x0.length : Int) then (if 0 ≤ x5 then (if x5 < (x1.length : Int) then (if (!(((rd_T24 x0 x5).f0) == ((rd_T24 x1 x5).f0)) || (!(((rd_T24 x0 x5).f1) == ((rd_T24 x1 x5).f1)))) = true then (some false) else (mummerref03_Same.l0 k x0 x1 (wrap64 (x5 + 1)))) else (none)) else (none)) else (some true)
def mummerref03_Same.f (k : Nat) (l0 : List (S24)) (l1 : List (S24)) : Option (Bool) := if (l0.length : Int) = (l1.length : Int) then (mummerref03_Same.l0 k l0 l1 0) else (some false)
set_option maxHeartbeats 8000000 in
set_option maxRecDepth 100000 in
theorem mummerref03_Same.calls (k : Nat) (A0 : Option Addr) (c0 : Nat) (l0 : List (S24)) (A1 : Option Addr) (c1 : Nat) (l1 : List (S24)) (r : Bool) (w : World) (hr0 : Kd.C k24 w A0 l0.length l0) (hc0 : l0.length ≤ c0) (hr1 : Kd.C k24 w A1 l1.length l1) (hc1 : l1.length ≤ c1) (h : mummerref03_Same.f k l0 l1 = some r) :
    Calls Tryd.prog 28 #[.slice A0 l0.length c0, .slice A1 l1.length c1] w fun e w' => e = .returned (.bool r) ∧ Drawn0 w w' := by
  have hu24 := Tryd.underlying24
  have HR0 := ak hr0
  have HC0 := ak hc0
  clear hr0 hc0
  have HR1 := ak hr1
  have HC1 := ak hc1
  clear hr1 hc1
  have H : (if (l0.length : Int) = (l1.length : Int) then (mummerref03_Same.l0 k l0 l1 0) else (some false)) = some r := h
  clear h
  by_cases c3 : (l0.length : Int) = (l1.length : Int)
  · rw [if_pos c3] at H
    have c3b0 : ((l0.length : Int) == (l1.length : Int)) = true := beq_iff_eq.mpr c3
    have c3b1 : ((l0.length : Int) != (l1.length : Int)) = false := bne_eq_false_iff_eq.mpr c3
    have c3b2 : (l0.length == l1.length) = true := by first | simpa using c3 | (simp at c3 ⊢; omega)
    clear c3
    have H' := ak H
    clear H
    go_enter Tryd.func28, Tryd.ntmps28
    go_wp2
    repeat (go_quiet (fail); try go_wp2)
    go_loopg [5] k (fun kq v5 w' => ∃ (x5_1 : Int), v5 = .int .i64 x5_1 ∧ Aside0 (mummerref03_Same.l0 kq l0 l1 x5_1 = some r) ∧ Aside0 (kq ≤ k) ∧ Drawn0 w w')
    case atStart => exact ⟨(0), (by first | rfl | (simp; done) | (simp [*]; done)), H', ⟨Nat.le_refl _⟩, by repeat (first | exact Drawn0.refl _ | apply Drawn0.step)⟩
    case round =>
      clear H'
      try clear c1
      try clear c2
      try clear p2
      try clear c3
      try clear c3b0
      try clear c3b1
      try clear c3b2
      obtain ⟨x5_1, rfl, HA, HK1, ⟨m1, rfl⟩⟩ := hrel
      cases gk with
      | zero => exact absurd HA.out (by simp [mummerref03_Same.l0])
      | succ k1 =>
        have H := HA.out
        clear HA
        simp only [mummerref03_Same.l0] at H
        by_cases c4 : x5_1 < (l0.length : Int)
        · rw [if_pos c4] at H
          have c4b0 : decide (x5_1 < (l0.length : Int)) = true := decide_eq_true c4
          clear c4
          by_cases c5 : 0 ≤ x5_1
          · rw [if_pos c5] at H
            have c5b0 : decide (0 ≤ x5_1) = true := decide_eq_true c5
            clear c5
            by_cases c6 : x5_1 < (l1.length : Int)
            · rw [if_pos c6] at H
              have c6b0 : decide (x5_1 < (l1.length : Int)) = true := decide_eq_true c6
              clear c6
              by_cases c7 : (!(((rd_T24 l0 x5_1).f0) == ((rd_T24 l1 x5_1).f0)) || (!(((rd_T24 l0 x5_1).f1) == ((rd_T24 l1 x5_1).f1)))) = true
              · rw [if_pos c7] at H
                have c7b0 : (!(((rd_T24 l0 x5_1).f0) == ((rd_T24 l1 x5_1).f0)) || (!(((rd_T24 l0 x5_1).f1) == ((rd_T24 l1 x5_1).f1)))) = true := c7
                clear c7
                obtain rfl := Option.some.inj H
                have p535 : 0 ≤ (x5_1 : Int) := of_decide_eq_true (by first | (with_reducible assumption) | assumption)
                have q535 : x5_1 < (l0.length : Int) := of_decide_eq_true (by first | (with_reducible assumption) | assumption)
                obtain ⟨ad535, e535, hx535_0, hx535_1⟩ := at_T24 HR0.out x5_1 p535 q535
                cases e535
                replace p535 := eq_true p535
                replace q535 := eq_true q535
                have p536 : 0 ≤ (x5_1 : Int) := of_decide_eq_true (by first | (with_reducible assumption) | assumption)
                have q536 : x5_1 < (l1.length : Int) := of_decide_eq_true (by first | (with_reducible assumption) | assumption)
                obtain ⟨ad536, e536, hx536_0, hx536_1⟩ := at_T24 HR1.out x5_1 p536 q536
                cases e536
                replace p536 := eq_true p536
                replace q536 := eq_true q536
                go_wp2
                repeat (go_quiet (fail); try go_wp2)
                go_ret
                exact ⟨by first | rfl | (simp; done) | (simp [*]; done), by repeat (first | exact Drawn0.refl _ | apply Drawn0.step)⟩
              · rw [if_neg c7] at H
                have c7b0 : (!(((rd_T24 l0 x5_1).f0) == ((rd_T24 l1 x5_1).f0)) || (!(((rd_T24 l0 x5_1).f1) == ((rd_T24 l1 x5_1).f1)))) = false := by simpa using c7
                clear c7
                have H' := ak H
                clear H
                have p535 : 0 ≤ (x5_1 : Int) := of_decide_eq_true (by first | (with_reducible assumption) | assumption)
                have q535 : x5_1 < (l0.length : Int) := of_decide_eq_true (by first | (with_reducible assumption) | assumption)
                obtain ⟨ad535, e535, hx535_0, hx535_1⟩ := at_T24 HR0.out x5_1 p535 q535
                cases e535
                replace p535 := eq_true p535
                replace q535 := eq_true q535
                have p536 : 0 ≤ (x5_1 : Int) := of_decide_eq_true (by first | (with_reducible assumption) | assumption)
                have q536 : x5_1 < (l1.length : Int) := of_decide_eq_true (by first | (with_reducible assumption) | assumption)
                obtain ⟨ad536, e536, hx536_0, hx536_1⟩ := at_T24 HR1.out x5_1 p536 q536
                cases e536
                replace p536 := eq_true p536
                replace q536 := eq_true q536
                go_wp2
                repeat (go_quiet (fail); try go_wp2)
                go_roundg k1
                case measure => have := HK1.out; omega
                case rel => exact ⟨(wrap64 (x5_1 + 1)), (by first | rfl | (simp; done) | (simp [*]; done)), H', ⟨by have := HK1.out; omega⟩, by repeat (first | exact Drawn0.refl _ | apply Drawn0.step)⟩
            · rw [if_neg c6] at H
              exact absurd H (by simp)
          · rw [if_neg c5] at H
            exact absurd H (by simp)
        · rw [if_neg c4] at H
          have c4b0 : decide (x5_1 < (l0.length : Int)) = false := decide_eq_false c4
          clear c4
          obtain rfl := Option.some.inj H
          go_wp2
          repeat (go_quiet (fail); try go_wp2)
          go_ret
          exact ⟨by first | rfl | (simp; done) | (simp [*]; done), by repeat (first | exact Drawn0.refl _ | apply Drawn0.step)⟩
  · rw [if_neg c3] at H
    have c3b0 : ((l0.length : Int) == (l1.length : Int)) = false := beq_eq_false_iff_ne.mpr c3
    have c3b1 : ((l0.length : Int) != (l1.length : Int)) = true := bne_iff_ne.mpr c3
    have c3b2 : (l0.length == l1.length) = false := by first | simpa using c3 | (simp at c3 ⊢; omega)
    obtain rfl := Option.some.inj H
    go_enter Tryd.func28, Tryd.ntmps28
    go_wp2
    repeat (go_quiet (fail); try go_wp2)
    go_ret
    exact ⟨by first | rfl | (simp; done) | (simp [*]; done), by repeat (first | exact Drawn0.refl _ | apply Drawn0.step)⟩
end Go.Proofs.YtnkfdobcmfdhfaaDoor.P
namespace Go.Proofs.YtnkfdobcmfdhfaaDoor.P
open Go.RowKit Go.Proofs.YtnkfdobcmfdhfaaDoorW.PrintWords Go.Proofs.YtnkfdobcmfdhfaaDoorW.PrintLast Go.Proofs.YtnkfdobcmfdhfaaDoorW.PrintMore
attribute [local go_sem] max2_int min2_int max_two min_two max_three min_three max_four min_four   -- for this text's walks alone
set_option linter.unusedVariables false
set_option linter.unusedSimpArgs false
mutual
def mummerref03_Place.j0 : Nat → List Int → Int → List Int → Int → Bool → Option (Int × Int × Int)
  | 0, _, _, _, _, _ => none
  | k + 1, x0, x1, x7, x8, x28 => if x28 = true then (mummerref03_Place.j1 k x0 x1 x7 7) else (mummerref03_Place.j1 k x0 x1 x7 x8)
def mummerref03_Place.j1 : Nat → List Int → Int → List Int → Int → Option (Int × Int × Int)
  | 0, _, _, _, _ => none
  | k + 1, x0, x1, x7, x8 => if x8 = 0 then (mummerref03_Place.l0 k x0 x1 x7 1 1 0) else (some (0, 0, x8))
def mummerref03_Place.l0 : Nat → List Int → Int → List Int → Int → Int → Int → Option (Int × Int × Int)
  | 0, _, _, _, _, _, _ => none
  | k + 1, x0, x1, x7, x9, x10, x11 => if x11 < (x7.length : Int) then (if 0 ≤ x11 then (if (rd x7 x11) = x1 then (some (x9, x10, 0)) else (if (rd x7 x11) < (x0.length : Int) then (if 0 ≤ (rd x7 x11) then (if (rd x0 (rd x7 x11)) = 10 then (mummerref03_Place.l0 k x0 x1 x7 (wrap64 (x9 + 1)) 1 (wrap64 (x11 + 1))) else (mummerref03_Place.l0 k x0 x1 x7 x9 (wrap64 (x10 + 1)) (wrap64 (x11 + 1)))) else (none)) else (mummerref03_Place.l0 k x0 x1 x7 x9 (wrap64 (x10 + 1)) (wrap64 (x11 + 1))))) else (none)) else (some (0, 0, 6))
end
def mummerref03_Place.f (k : Nat) (l0 : List Int) (a1 : Int) : Option (Int × Int × Int) := (mummerref02_Starts.f k l0).bind fun bt537 => (if bt537.2 = 0 then (if a1 < 0 then (mummerref03_Place.j0 k l0 a1 bt537.1 bt537.2 true) else (mummerref03_Place.j0 k l0 a1 bt537.1 bt537.2 (decide (a1 > (l0.length : Int))))) else (mummerref03_Place.j0 k l0 a1 bt537.1 bt537.2 false))
set_option maxHeartbeats 8000000 in
set_option maxRecDepth 100000 in
theorem mummerref03_Place.calls (k : Nat) (A0 : Option Addr) (c0 : Nat) (l0 : List Int) (a1 : Int) (r1 : Int) (r2 : Int) (r3 : Int) (w : World) (hr0 : Kd.C (Kd.int .u8) w A0 l0.length l0) (hc0 : l0.length ≤ c0) (h : mummerref03_Place.f k l0 a1 = some (r1, r2, r3)) :
    Calls Tryd.prog 30 #[.slice A0 l0.length c0, .int .i64 a1] w fun e w' => e = .returned (.tuple #[.int .i64 r1, .int .i64 r2, .int .i64 r3]) ∧ Below w.heap.size w w' := by
  have HR0 := ak hr0
  have HC0 := ak hc0
  clear hr0 hc0
  have HB := ak (Below.refl w.heap.size w)
  have H : ((mummerref02_Starts.f k l0).bind fun bt537 => (if bt537.2 = 0 then (if a1 < 0 then (mummerref03_Place.j0 k l0 a1 bt537.1 bt537.2 true) else (mummerref03_Place.j0 k l0 a1 bt537.1 bt537.2 (decide (a1 > (l0.length : Int))))) else (mummerref03_Place.j0 k l0 a1 bt537.1 bt537.2 false))) = some (r1, r2, r3) := h
  clear h
  replace H := Option.bind_eq_some_iff.mp H
  obtain ⟨⟨t537, t538⟩, A30, H⟩ := H
  replace H : (if t538 = 0 then (if a1 < 0 then (mummerref03_Place.j0 k l0 a1 t537 t538 true) else (mummerref03_Place.j0 k l0 a1 t537 t538 (decide (a1 > (l0.length : Int))))) else (mummerref03_Place.j0 k l0 a1 t537 t538 false)) = some (r1, r2, r3) := H
  have A3 := ak A30
  clear A30
  have HC4 := ak H
  clear H
  go_enter Tryd.func30, Tryd.ntmps30
  go_upto_region 2 with (first | ((with_reducible refine gate_callee (f := 33) rfl ?_); refine goesL_ (some 14) rfl rfl Tryd.func33 (by kernel_rfl) rfl #[.slice A0 l0.length c0] rfl (by (try simp only [List.map_toArray, List.map_cons, List.map_nil]); first | done | rfl | (simp only [List.length_drop, List.length_take]; rfl)) ?_; (with_reducible refine (mummerref02_Starts.calls k _ _ l0 t537 t538 _ ?side1 ?side2 A3.out).mono ?_); (case side1 => repeat (first | exact HR0.out | (with_reducible refine Kd.C_alloc ?_ _) | (with_reducible refine Kd.C_drewN ?_ _) | (with_reducible refine Kd.C_drew ?_))); (case side2 => exact HC0.out); rintro e w5 ⟨v539, rfl, ho0, hb⟩; refine ⟨_, rfl, ?_⟩; have n0_ := ak (Kd.R_lower ho0 (below_size (by repeat (first | (with_reducible first | exact HB.out | apply wA | apply wN | apply wD) | exact HB.out)))); have n1_ := ak (below_step (by repeat (first | (with_reducible first | exact HB.out | apply wA | apply wN | apply wD) | exact HB.out)) hb); clear HB; have HO540 := n0_; have HB := n1_; clear n0_ n1_; (try clear hb); (try clear hb2); (try clear hk); (try clear hi); (try clear ho0)))
  (try simp only [Act.put, List.setIfInBounds_toArray, List.set_cons_zero, List.set_cons_succ])
  go_cut [28] (fun v28 wc => ∃ (kq : Nat) (x28_3 : Bool), v28 = .bool x28_3 ∧ Aside0 (mummerref03_Place.j0 kq l0 a1 t537 t538 x28_3 = some (r1, r2, r3)) ∧ Aside0 (kq ≤ k) ∧ Aside0 (Kd.R (Kd.int .i64) 3 wc w.heap.size (fun _ => True) v539 t537) ∧ Aside0 (Below w.heap.size w wc))
  case first =>
    have H := HC4.out
    clear HC4
    by_cases c6 : t538 = 0
    · rw [if_pos c6] at H
      have c6b0 : (t538 == 0) = true := beq_iff_eq.mpr c6
      have c6b1 : (t538 != 0) = false := bne_eq_false_iff_eq.mpr c6
      clear c6
      (first | rw [c6b0] | (simp only [i64_w, i32_w]; rw [c6b0]) | skip)
      by_cases c7 : a1 < 0
      · rw [if_pos c7] at H
        have c7b0 : decide (a1 < 0) = true := decide_eq_true c7
        clear c7
        have H' := ak H
        clear H
        go_wp2
        go_meet
        case rel => exact ⟨_, (true), (by first | rfl | (simp; done) | (simp [*]; done)), H', ⟨by first | omega | exact Nat.le_refl _⟩, ⟨by (with_reducible repeat (first | apply Kd.R_alloc | apply Kd.R_drewN | apply Kd.R_drew)); exact HO540.out⟩, ⟨by repeat (first | (with_reducible first | exact HB.out | apply wA | apply wN | apply wD) | exact HB.out)⟩⟩
      · rw [if_neg c7] at H
        have c7b0 : decide (a1 < 0) = false := decide_eq_false c7
        clear c7
        have H' := ak H
        clear H
        go_wp2
        go_meet
        case rel => exact ⟨_, (decide (a1 > (l0.length : Int))), (by first | rfl | (simp; done) | (simp [*]; done)), H', ⟨by first | omega | exact Nat.le_refl _⟩, ⟨by (with_reducible repeat (first | apply Kd.R_alloc | apply Kd.R_drewN | apply Kd.R_drew)); exact HO540.out⟩, ⟨by repeat (first | (with_reducible first | exact HB.out | apply wA | apply wN | apply wD) | exact HB.out)⟩⟩
    · rw [if_neg c6] at H
      have c6b0 : (t538 == 0) = false := beq_eq_false_iff_ne.mpr c6
      have c6b1 : (t538 != 0) = true := bne_iff_ne.mpr c6
      (first | rw [c6b0] | (simp only [i64_w, i32_w]; rw [c6b0]) | skip)
      have H' := ak H
      clear H
      go_wp2
      go_meet
      case rel => exact ⟨_, (false), (by first | rfl | (simp; done) | (simp [*]; done)), H', ⟨by first | omega | exact Nat.le_refl _⟩, ⟨by (with_reducible repeat (first | apply Kd.R_alloc | apply Kd.R_drewN | apply Kd.R_drew)); exact HO540.out⟩, ⟨by repeat (first | (with_reducible first | exact HB.out | apply wA | apply wN | apply wD) | exact HB.out)⟩⟩
  case rest =>
    clear HC4
    try clear p2
    try clear c3
    try clear c6
    try clear c6b0
    try clear c6b1
    try clear c7
    try clear c7b0
    obtain ⟨kq, x28_3, rfl, HA, HJ3, HO_7, HB⟩ := hcut
    cases kq with
    | zero => exact absurd HA.out (by simp [mummerref03_Place.j0])
    | succ kj3 =>
      have H := HA.out
      clear HA
      simp only [mummerref03_Place.j0] at H
      have HC8 := ak H
      clear H
      go_upto_if 28 with (fail)
      go_cut [8] (fun v8 wc => ∃ (kq : Nat) (x8_7 : Int), v8 = .int .i64 x8_7 ∧ Aside0 (mummerref03_Place.j1 kq l0 a1 t537 x8_7 = some (r1, r2, r3)) ∧ Aside0 (kq ≤ kj3) ∧ Aside0 (Kd.R (Kd.int .i64) 3 wc w.heap.size (fun _ => True) v539 t537) ∧ Aside0 (Below w.heap.size w wc))
      case first =>
        have H := HC8.out
        clear HC8
        by_cases c9 : x28_3 = true
        · subst c9
          have H1 : (mummerref03_Place.j1 kj3 l0 a1 t537 7) = some (r1, r2, r3) := by rw [if_pos rfl] at H; exact H
          clear H
          have H := H1
          clear H1
          have H' := ak H
          clear H
          go_wp2
          go_meet
          case rel => exact ⟨_, (7), (by first | rfl | (simp; done) | (simp [*]; done)), H', ⟨by have := HJ3.out; first | omega | exact Nat.le_refl _⟩, ⟨by (with_reducible repeat (first | apply Kd.R_alloc | apply Kd.R_drewN | apply Kd.R_drew)); exact HO_7.out⟩, ⟨by repeat (first | (with_reducible first | exact HB.out | apply wA | apply wN | apply wD) | exact HB.out)⟩⟩
        · replace c9 := Bool.eq_false_iff.mpr c9
          subst c9
          have H1 : (mummerref03_Place.j1 kj3 l0 a1 t537 t538) = some (r1, r2, r3) := by rw [if_neg (show ¬ (false = true) by decide)] at H; exact H
          clear H
          have H := H1
          clear H1
          have H' := ak H
          clear H
          go_wp2
          go_meet
          case rel => exact ⟨_, (t538), (by first | rfl | (simp; done) | (simp [*]; done)), H', ⟨by have := HJ3.out; first | omega | exact Nat.le_refl _⟩, ⟨by (with_reducible repeat (first | apply Kd.R_alloc | apply Kd.R_drewN | apply Kd.R_drew)); exact HO_7.out⟩, ⟨by repeat (first | (with_reducible first | exact HB.out | apply wA | apply wN | apply wD) | exact HB.out)⟩⟩
      case rest =>
        clear HC8
        try clear p2
        try clear c3
        try clear c6
        try clear c6b0
        try clear c6b1
        try clear c7
        try clear c7b0
        try clear c9
        try clear p2
        obtain ⟨kq, x8_7, rfl, HA, HJ7, HO_7, HB⟩ := hcut
        cases kq with
        | zero => exact absurd HA.out (by simp [mummerref03_Place.j1])
        | succ kj7 =>
          have H := HA.out
          clear HA
          simp only [mummerref03_Place.j1] at H
          by_cases c10 : x8_7 = 0
          · rw [if_pos c10] at H
            have c10b0 : (x8_7 == 0) = true := beq_iff_eq.mpr c10
            have c10b1 : (x8_7 != 0) = false := bne_eq_false_iff_eq.mpr c10
            clear c10
            have H' := ak H
            clear H
            go_wp2
            go_loopg [9, 10, 11] kj7 (fun kq v9 v10 v11 w' => ∃ (x9_3 : Int) (x10_3 : Int) (x11_3 : Int), v9 = .int .i64 x9_3 ∧ v10 = .int .i64 x10_3 ∧ v11 = .int .i64 x11_3 ∧ Aside0 (mummerref03_Place.l0 kq l0 a1 t537 x9_3 x10_3 x11_3 = some (r1, r2, r3)) ∧ Aside0 (kq ≤ kj7) ∧ Aside0 (Kd.R (Kd.int .i64) 3 w' w.heap.size (fun _ => True) v539 t537) ∧ Aside0 (Below w.heap.size w w'))
            case atStart => exact ⟨(1), (1), (0), (by first | rfl | (simp; done) | (simp [*]; done)), (by first | rfl | (simp; done) | (simp [*]; done)), (by first | rfl | (simp; done) | (simp [*]; done)), H', ⟨Nat.le_refl _⟩, ⟨by (with_reducible repeat (first | apply Kd.R_alloc | apply Kd.R_drewN | apply Kd.R_drew)); exact HO_7.out⟩, ⟨by repeat (first | (with_reducible first | exact HB.out | apply wA | apply wN | apply wD) | exact HB.out)⟩⟩
            case round =>
              clear H'
              try clear c1
              try clear p2
              try clear c3
              try clear c6
              try clear c6b0
              try clear c6b1
              try clear c7
              try clear c7b0
              try clear c9
              try clear c10
              try clear c10b0
              try clear c10b1
              try clear p2
              obtain ⟨x9_3, x10_3, x11_3, rfl, rfl, rfl, HA, HK3, HO_7, HB⟩ := hrel
              cases gk with
              | zero => exact absurd HA.out (by simp [mummerref03_Place.l0])
              | succ k3 =>
                have H := HA.out
                clear HA
                simp only [mummerref03_Place.l0] at H
                by_cases c11 : x11_3 < (t537.length : Int)
                · rw [if_pos c11] at H
                  have c11b0 : decide (x11_3 < (t537.length : Int)) = true := decide_eq_true c11
                  clear c11
                  by_cases c12 : 0 ≤ x11_3
                  · rw [if_pos c12] at H
                    have c12b0 : decide (0 ≤ x11_3) = true := decide_eq_true c12
                    clear c12
                    by_cases c13 : (rd t537 x11_3) = a1
                    · rw [if_pos c13] at H
                      have c13b0 : ((rd t537 x11_3) == a1) = true := beq_iff_eq.mpr c13
                      have c13b1 : ((rd t537 x11_3) != a1) = false := bne_eq_false_iff_eq.mpr c13
                      clear c13
                      simp only [Option.some.injEq, Prod.mk.injEq] at H
                      obtain ⟨rfl, rfl, rfl⟩ := H
                      obtain ⟨Ao14, co14, eo14⟩ := Kd.R_slice HO_7.out
                      subst eo14
                      have p541 : 0 ≤ (x11_3 : Int) := of_decide_eq_true (by first | (with_reducible assumption) | assumption)
                      have q541 : x11_3 < (t537.length : Int) := of_decide_eq_true (by first | (with_reducible assumption) | assumption)
                      obtain ⟨ad541, e541, hx541_0⟩ := Kd.at_int (Kd.R_reads' HO_7.out).2.2 x11_3 p541 q541
                      cases e541
                      replace p541 := eq_true p541
                      replace q541 := eq_true q541
                      go_wp2
                      go_ret3
                      exact ⟨by first | rfl | (simp [errW_none, errW_some] <;> rfl) | (simp [*, errW_none, errW_some] <;> rfl), by repeat (first | (with_reducible first | exact HB.out | apply wA | apply wN | apply wD) | exact HB.out)⟩
                    · rw [if_neg c13] at H
                      have c13b0 : ((rd t537 x11_3) == a1) = false := beq_eq_false_iff_ne.mpr c13
                      have c13b1 : ((rd t537 x11_3) != a1) = true := bne_iff_ne.mpr c13
                      by_cases c15 : (rd t537 x11_3) < (l0.length : Int)
                      · rw [if_pos c15] at H
                        have c15b0 : decide ((rd t537 x11_3) < (l0.length : Int)) = true := decide_eq_true c15
                        clear c15
                        by_cases c16 : 0 ≤ (rd t537 x11_3)
                        · rw [if_pos c16] at H
                          have c16b0 : decide (0 ≤ (rd t537 x11_3)) = true := decide_eq_true c16
                          clear c16
                          by_cases c17 : (rd l0 (rd t537 x11_3)) = 10
                          · rw [if_pos c17] at H
                            have c17b0 : ((rd l0 (rd t537 x11_3)) == 10) = true := beq_iff_eq.mpr c17
                            have c17b1 : ((rd l0 (rd t537 x11_3)) != 10) = false := bne_eq_false_iff_eq.mpr c17
                            clear c17
                            have H' := ak H
                            clear H
                            obtain ⟨Ao18, co18, eo18⟩ := Kd.R_slice HO_7.out
                            subst eo18
                            have p541 : 0 ≤ (x11_3 : Int) := of_decide_eq_true (by first | (with_reducible assumption) | assumption)
                            have q541 : x11_3 < (t537.length : Int) := of_decide_eq_true (by first | (with_reducible assumption) | assumption)
                            obtain ⟨ad541, e541, hx541_0⟩ := Kd.at_int (Kd.R_reads' HO_7.out).2.2 x11_3 p541 q541
                            cases e541
                            replace p541 := eq_true p541
                            replace q541 := eq_true q541
                            have p542 : 0 ≤ (x11_3 : Int) := of_decide_eq_true (by first | (with_reducible assumption) | assumption)
                            have q542 : x11_3 < (t537.length : Int) := of_decide_eq_true (by first | (with_reducible assumption) | assumption)
                            obtain ⟨ad542, e542, hx542_0⟩ := Kd.at_int (Kd.R_reads' HO_7.out).2.2 x11_3 p542 q542
                            obtain rfl : ad541 = ad542 := (by injection e542)
                            replace p542 := eq_true p542
                            replace q542 := eq_true q542
                            have p543 : 0 ≤ (x11_3 : Int) := of_decide_eq_true (by first | (with_reducible assumption) | assumption)
                            have q543 : x11_3 < (t537.length : Int) := of_decide_eq_true (by first | (with_reducible assumption) | assumption)
                            obtain ⟨ad543, e543, hx543_0⟩ := Kd.at_int (Kd.R_reads' HO_7.out).2.2 x11_3 p543 q543
                            obtain rfl : ad541 = ad543 := (by injection e543)
                            replace p543 := eq_true p543
                            replace q543 := eq_true q543
                            have p544 : 0 ≤ ((rd t537 x11_3) : Int) := of_decide_eq_true (by first | (with_reducible assumption) | assumption)
                            have q544 : (rd t537 x11_3) < (l0.length : Int) := of_decide_eq_true (by first | (with_reducible assumption) | assumption)
                            obtain ⟨ad544, e544, hx544_0⟩ := Kd.at_int HR0.out (rd t537 x11_3) p544 q544
                            cases e544
                            replace hx544_0 := (HB.out.cell (World.block_lt_of_cell? w _ hx544_0)).trans hx544_0
                            replace p544 := eq_true p544
                            replace q544 := eq_true q544
                            go_wp2
                            go_roundg k3
                            case measure => have := HJ3.out; have := HJ7.out; have := HK3.out; omega
                            case rel => exact ⟨(wrap64 (x9_3 + 1)), (1), (wrap64 (x11_3 + 1)), (by first | rfl | (simp; done) | (simp [*]; done)), (by first | rfl | (simp; done) | (simp [*]; done)), (by first | rfl | (simp; done) | (simp [*]; done)), H', ⟨by have := HJ3.out; have := HJ7.out; have := HK3.out; omega⟩, ⟨by (with_reducible repeat (first | apply Kd.R_alloc | apply Kd.R_drewN | apply Kd.R_drew)); exact HO_7.out⟩, ⟨by repeat (first | (with_reducible first | exact HB.out | apply wA | apply wN | apply wD) | exact HB.out)⟩⟩
                          · rw [if_neg c17] at H
                            have c17b0 : ((rd l0 (rd t537 x11_3)) == 10) = false := beq_eq_false_iff_ne.mpr c17
                            have c17b1 : ((rd l0 (rd t537 x11_3)) != 10) = true := bne_iff_ne.mpr c17
                            have H' := ak H
                            clear H
                            obtain ⟨Ao19, co19, eo19⟩ := Kd.R_slice HO_7.out
                            subst eo19
                            have p541 : 0 ≤ (x11_3 : Int) := of_decide_eq_true (by first | (with_reducible assumption) | assumption)
                            have q541 : x11_3 < (t537.length : Int) := of_decide_eq_true (by first | (with_reducible assumption) | assumption)
                            obtain ⟨ad541, e541, hx541_0⟩ := Kd.at_int (Kd.R_reads' HO_7.out).2.2 x11_3 p541 q541
                            cases e541
                            replace p541 := eq_true p541
                            replace q541 := eq_true q541
                            have p542 : 0 ≤ (x11_3 : Int) := of_decide_eq_true (by first | (with_reducible assumption) | assumption)
                            have q542 : x11_3 < (t537.length : Int) := of_decide_eq_true (by first | (with_reducible assumption) | assumption)
                            obtain ⟨ad542, e542, hx542_0⟩ := Kd.at_int (Kd.R_reads' HO_7.out).2.2 x11_3 p542 q542
                            obtain rfl : ad541 = ad542 := (by injection e542)
                            replace p542 := eq_true p542
                            replace q542 := eq_true q542
                            have p543 : 0 ≤ (x11_3 : Int) := of_decide_eq_true (by first | (with_reducible assumption) | assumption)
                            have q543 : x11_3 < (t537.length : Int) := of_decide_eq_true (by first | (with_reducible assumption) | assumption)
                            obtain ⟨ad543, e543, hx543_0⟩ := Kd.at_int (Kd.R_reads' HO_7.out).2.2 x11_3 p543 q543
                            obtain rfl : ad541 = ad543 := (by injection e543)
                            replace p543 := eq_true p543
                            replace q543 := eq_true q543
                            have p544 : 0 ≤ ((rd t537 x11_3) : Int) := of_decide_eq_true (by first | (with_reducible assumption) | assumption)
                            have q544 : (rd t537 x11_3) < (l0.length : Int) := of_decide_eq_true (by first | (with_reducible assumption) | assumption)
                            obtain ⟨ad544, e544, hx544_0⟩ := Kd.at_int HR0.out (rd t537 x11_3) p544 q544
                            cases e544
                            replace hx544_0 := (HB.out.cell (World.block_lt_of_cell? w _ hx544_0)).trans hx544_0
                            replace p544 := eq_true p544
                            replace q544 := eq_true q544
                            go_wp2
                            go_roundg k3
                            case measure => have := HJ3.out; have := HJ7.out; have := HK3.out; omega
                            case rel => exact ⟨(x9_3), (wrap64 (x10_3 + 1)), (wrap64 (x11_3 + 1)), (by first | rfl | (simp; done) | (simp [*]; done)), (by first | rfl | (simp; done) | (simp [*]; done)), (by first | rfl | (simp; done) | (simp [*]; done)), H', ⟨by have := HJ3.out; have := HJ7.out; have := HK3.out; omega⟩, ⟨by (with_reducible repeat (first | apply Kd.R_alloc | apply Kd.R_drewN | apply Kd.R_drew)); exact HO_7.out⟩, ⟨by repeat (first | (with_reducible first | exact HB.out | apply wA | apply wN | apply wD) | exact HB.out)⟩⟩
                        · rw [if_neg c16] at H
                          exact absurd H (by simp)
                      · rw [if_neg c15] at H
                        have c15b0 : decide ((rd t537 x11_3) < (l0.length : Int)) = false := decide_eq_false c15
                        clear c15
                        have H' := ak H
                        clear H
                        obtain ⟨Ao20, co20, eo20⟩ := Kd.R_slice HO_7.out
                        subst eo20
                        have p541 : 0 ≤ (x11_3 : Int) := of_decide_eq_true (by first | (with_reducible assumption) | assumption)
                        have q541 : x11_3 < (t537.length : Int) := of_decide_eq_true (by first | (with_reducible assumption) | assumption)
                        obtain ⟨ad541, e541, hx541_0⟩ := Kd.at_int (Kd.R_reads' HO_7.out).2.2 x11_3 p541 q541
                        cases e541
                        replace p541 := eq_true p541
                        replace q541 := eq_true q541
                        have p542 : 0 ≤ (x11_3 : Int) := of_decide_eq_true (by first | (with_reducible assumption) | assumption)
                        have q542 : x11_3 < (t537.length : Int) := of_decide_eq_true (by first | (with_reducible assumption) | assumption)
                        obtain ⟨ad542, e542, hx542_0⟩ := Kd.at_int (Kd.R_reads' HO_7.out).2.2 x11_3 p542 q542
                        obtain rfl : ad541 = ad542 := (by injection e542)
                        replace p542 := eq_true p542
                        replace q542 := eq_true q542
                        go_wp2
                        go_roundg k3
                        case measure => have := HJ3.out; have := HJ7.out; have := HK3.out; omega
                        case rel => exact ⟨(x9_3), (wrap64 (x10_3 + 1)), (wrap64 (x11_3 + 1)), (by first | rfl | (simp; done) | (simp [*]; done)), (by first | rfl | (simp; done) | (simp [*]; done)), (by first | rfl | (simp; done) | (simp [*]; done)), H', ⟨by have := HJ3.out; have := HJ7.out; have := HK3.out; omega⟩, ⟨by (with_reducible repeat (first | apply Kd.R_alloc | apply Kd.R_drewN | apply Kd.R_drew)); exact HO_7.out⟩, ⟨by repeat (first | (with_reducible first | exact HB.out | apply wA | apply wN | apply wD) | exact HB.out)⟩⟩
                  · rw [if_neg c12] at H
                    exact absurd H (by simp)
                · rw [if_neg c11] at H
                  have c11b0 : decide (x11_3 < (t537.length : Int)) = false := decide_eq_false c11
                  clear c11
                  simp only [Option.some.injEq, Prod.mk.injEq] at H
                  obtain ⟨rfl, rfl, rfl⟩ := H
                  obtain ⟨Ao21, co21, eo21⟩ := Kd.R_slice HO_7.out
                  subst eo21
                  go_wp2
                  go_ret3
                  exact ⟨by first | rfl | (simp [errW_none, errW_some] <;> rfl) | (simp [*, errW_none, errW_some] <;> rfl), by repeat (first | (with_reducible first | exact HB.out | apply wA | apply wN | apply wD) | exact HB.out)⟩
          · rw [if_neg c10] at H
            have c10b0 : (x8_7 == 0) = false := beq_eq_false_iff_ne.mpr c10
            have c10b1 : (x8_7 != 0) = true := bne_iff_ne.mpr c10
            simp only [Option.some.injEq, Prod.mk.injEq] at H
            obtain ⟨rfl, rfl, rfl⟩ := H
            go_wp2
            go_ret3
            exact ⟨by first | rfl | (simp [errW_none, errW_some] <;> rfl) | (simp [*, errW_none, errW_some] <;> rfl), by repeat (first | (with_reducible first | exact HB.out | apply wA | apply wN | apply wD) | exact HB.out)⟩
end Go.Proofs.YtnkfdobcmfdhfaaDoor.P
namespace Go.Proofs.YtnkfdobcmfdhfaaDoor.P
open Go.RowKit Go.Proofs.YtnkfdobcmfdhfaaDoorW.PrintWords Go.Proofs.YtnkfdobcmfdhfaaDoorW.PrintLast Go.Proofs.YtnkfdobcmfdhfaaDoorW.PrintMore
attribute [local go_sem] max2_int min2_int max_two min_two max_three min_three max_four min_four   -- for this text's walks alone
set_option linter.unusedVariables false
set_option linter.unusedSimpArgs false
def mummerref03_At.l0 : Nat → List Int → Int → Int → List Int → Int → Option (Int × Int)
  | 0, _, _, _, _, _ => none
  | k + 1, x0, x1, x2, x8, x10 => if x10 < (x8.length : Int) then (if 0 ≤ x10 then ((mummerref03_Place.f k x0 (rd x8 x10)).bind fun bt550 => (if bt550.1 = x1 then (if bt550.2.1 = x2 then (some (rd x8 x10, 0)) else (mummerref03_At.l0 k x0 x1 x2 x8 (wrap64 (x10 + 1)))) else (mummerref03_At.l0 k x0 x1 x2 x8 (wrap64 (x10 + 1))))) else (none)) else (some (0, 4))
def mummerref03_At.f (k : Nat) (l0 : List Int) (a1 : Int) (a2 : Int) : Option (Int × Int) := (mummerref02_Starts.f k l0).bind fun bt545 => (if bt545.2 = 0 then (mummerref03_At.l0 k l0 a1 a2 bt545.1 0) else (some (0, bt545.2)))
set_option maxHeartbeats 8000000 in
set_option maxRecDepth 100000 in
theorem mummerref03_At.calls (k : Nat) (A0 : Option Addr) (c0 : Nat) (l0 : List Int) (a1 : Int) (a2 : Int) (r1 : Int) (r2 : Int) (w : World) (hr0 : Kd.C (Kd.int .u8) w A0 l0.length l0) (hc0 : l0.length ≤ c0) (h : mummerref03_At.f k l0 a1 a2 = some (r1, r2)) :
    Calls Tryd.prog 32 #[.slice A0 l0.length c0, .int .i64 a1, .int .i64 a2] w fun e w' => e = .returned (.tuple #[.int .i64 r1, .int .i64 r2]) ∧ Below w.heap.size w w' := by
  have HR0 := ak hr0
  have HC0 := ak hc0
  clear hr0 hc0
  have HB := ak (Below.refl w.heap.size w)
  have H : ((mummerref02_Starts.f k l0).bind fun bt545 => (if bt545.2 = 0 then (mummerref03_At.l0 k l0 a1 a2 bt545.1 0) else (some (0, bt545.2)))) = some (r1, r2) := h
  clear h
  replace H := Option.bind_eq_some_iff.mp H
  obtain ⟨⟨t545, t546⟩, A40, H⟩ := H
  replace H : (if t546 = 0 then (mummerref03_At.l0 k l0 a1 a2 t545 0) else (some (0, t546))) = some (r1, r2) := H
  have A4 := ak A40
  clear A40
  by_cases c5 : t546 = 0
  · rw [if_pos c5] at H
    have c5b0 : (t546 == 0) = true := beq_iff_eq.mpr c5
    have c5b1 : (t546 != 0) = false := bne_eq_false_iff_eq.mpr c5
    clear c5
    have H' := ak H
    clear H
    go_enter Tryd.func32, Tryd.ntmps32
    go_wp2_with (first | ((with_reducible refine gate_callee (f := 33) rfl ?_); refine goesL_ (some 16) rfl rfl Tryd.func33 (by kernel_rfl) rfl #[.slice A0 l0.length c0] rfl (by (try simp only [List.map_toArray, List.map_cons, List.map_nil]); first | done | rfl | (simp only [List.length_drop, List.length_take]; rfl)) ?_; (with_reducible refine (mummerref02_Starts.calls k _ _ l0 t545 t546 _ ?side1 ?side2 A4.out).mono ?_); (case side1 => repeat (first | exact HR0.out | (with_reducible refine Kd.C_alloc ?_ _) | (with_reducible refine Kd.C_drewN ?_ _) | (with_reducible refine Kd.C_drew ?_))); (case side2 => exact HC0.out); rintro e w6 ⟨v547, rfl, ho0, hb⟩; refine ⟨_, rfl, ?_⟩; have n0_ := ak (Kd.R_lower ho0 (below_size (by repeat (first | (with_reducible first | exact HB.out | apply wA | apply wN | apply wD) | exact HB.out)))); have n1_ := ak (below_step (by repeat (first | (with_reducible first | exact HB.out | apply wA | apply wN | apply wD) | exact HB.out)) hb); clear HB; have HO548 := n0_; have HB := n1_; clear n0_ n1_; (try clear hb); (try clear hb2); (try clear hk); (try clear hi); (try clear ho0)))
    go_loopg [10] k (fun kq v10 w' => ∃ (x10_1 : Int), v10 = .int .i64 x10_1 ∧ Aside0 (mummerref03_At.l0 kq l0 a1 a2 t545 x10_1 = some (r1, r2)) ∧ Aside0 (kq ≤ k) ∧ Aside0 (Kd.R (Kd.int .i64) 3 w' w.heap.size (fun _ => True) v547 t545) ∧ Aside0 (Below w.heap.size w w'))
    case atStart => exact ⟨(0), (by first | rfl | (simp; done) | (simp [*]; done)), H', ⟨Nat.le_refl _⟩, ⟨by (with_reducible repeat (first | apply Kd.R_alloc | apply Kd.R_drewN | apply Kd.R_drew)); exact HO548.out⟩, ⟨by repeat (first | (with_reducible first | exact HB.out | apply wA | apply wN | apply wD) | exact HB.out)⟩⟩
    case round =>
      clear H'
      try clear p2
      try clear c3
      try clear c5
      try clear c5b0
      try clear c5b1
      obtain ⟨x10_1, rfl, HA, HK1, HO_8, HB⟩ := hrel
      cases gk with
      | zero => exact absurd HA.out (by simp [mummerref03_At.l0])
      | succ k1 =>
        have H := HA.out
        clear HA
        simp only [mummerref03_At.l0] at H
        by_cases c7 : x10_1 < (t545.length : Int)
        · rw [if_pos c7] at H
          have c7b0 : decide (x10_1 < (t545.length : Int)) = true := decide_eq_true c7
          clear c7
          by_cases c8 : 0 ≤ x10_1
          · rw [if_pos c8] at H
            have c8b0 : decide (0 ≤ x10_1) = true := decide_eq_true c8
            clear c8
            replace H := Option.bind_eq_some_iff.mp H
            obtain ⟨⟨t550, t551, t552⟩, A90, H⟩ := H
            replace H : (if t550 = a1 then (if t551 = a2 then (some (rd t545 x10_1, 0)) else (mummerref03_At.l0 k1 l0 a1 a2 t545 (wrap64 (x10_1 + 1)))) else (mummerref03_At.l0 k1 l0 a1 a2 t545 (wrap64 (x10_1 + 1)))) = some (r1, r2) := H
            have A9 := ak A90
            clear A90
            by_cases c10 : t550 = a1
            · rw [if_pos c10] at H
              have c10b0 : (t550 == a1) = true := beq_iff_eq.mpr c10
              have c10b1 : (t550 != a1) = false := bne_eq_false_iff_eq.mpr c10
              clear c10
              by_cases c11 : t551 = a2
              · rw [if_pos c11] at H
                have c11b0 : (t551 == a2) = true := beq_iff_eq.mpr c11
                have c11b1 : (t551 != a2) = false := bne_eq_false_iff_eq.mpr c11
                clear c11
                simp only [Option.some.injEq, Prod.mk.injEq] at H
                obtain ⟨rfl, rfl⟩ := H
                obtain ⟨Ao12, co12, eo12⟩ := Kd.R_slice HO_8.out
                subst eo12
                have p549 : 0 ≤ (x10_1 : Int) := of_decide_eq_true (by first | (with_reducible assumption) | assumption)
                have q549 : x10_1 < (t545.length : Int) := of_decide_eq_true (by first | (with_reducible assumption) | assumption)
                obtain ⟨ad549, e549, hx549_0⟩ := Kd.at_int (Kd.R_reads' HO_8.out).2.2 x10_1 p549 q549
                cases e549
                replace p549 := eq_true p549
                replace q549 := eq_true q549
                go_wp2_with (first | ((with_reducible refine gate_callee (f := 30) rfl ?_); refine goesL_ (some 34) rfl rfl Tryd.func30 (by kernel_rfl) rfl #[.slice A0 l0.length c0, .int .i64 (rd t545 x10_1)] rfl (by (try simp only [List.map_toArray, List.map_cons, List.map_nil]); first | done | rfl | (simp only [List.length_drop, List.length_take]; rfl)) ?_; (with_reducible refine (mummerref03_Place.calls k1 _ _ l0 (rd t545 x10_1) t550 t551 t552 _ ?side1 ?side2 A9.out).mono ?_); (case side1 => repeat (first | exact (Kd.C_below HR0.out HB.out) | (with_reducible refine Kd.C_alloc ?_ _) | (with_reducible refine Kd.C_drewN ?_ _) | (with_reducible refine Kd.C_drew ?_))); (case side2 => exact HC0.out); rintro e w13 ⟨rfl, hb⟩; refine ⟨_, rfl, ?_⟩; have n0_ := ak (Kd.R_below (by (with_reducible repeat (first | apply Kd.R_alloc | apply Kd.R_drewN | apply Kd.R_drew)); exact HO_8.out) hb); have n1_ := ak (below_step (by repeat (first | (with_reducible first | exact HB.out | apply wA | apply wN | apply wD) | exact HB.out)) hb); clear HO_8; clear HB; have HO_8 := n0_; have HB := n1_; clear n0_ n1_; (try clear hb); (try clear hb2); (try clear hk); (try clear hi); have p553 : 0 ≤ (x10_1 : Int) := of_decide_eq_true (by first | (with_reducible assumption) | assumption); have q553 : x10_1 < (t545.length : Int) := of_decide_eq_true (by first | (with_reducible assumption) | assumption); obtain ⟨ad553, e553, hx553_0⟩ := Kd.at_int (Kd.R_reads' HO_8.out).2.2 x10_1 p553 q553; obtain rfl : ad549 = ad553 := (by injection e553); replace p553 := eq_true p553; replace q553 := eq_true q553))
                go_ret2
                exact ⟨by first | rfl | (simp [errW_none, errW_some] <;> rfl) | (simp [*, errW_none, errW_some] <;> rfl), by repeat (first | (with_reducible first | exact HB.out | apply wA | apply wN | apply wD) | exact HB.out)⟩
              · rw [if_neg c11] at H
                have c11b0 : (t551 == a2) = false := beq_eq_false_iff_ne.mpr c11
                have c11b1 : (t551 != a2) = true := bne_iff_ne.mpr c11
                have H' := ak H
                clear H
                obtain ⟨Ao14, co14, eo14⟩ := Kd.R_slice HO_8.out
                subst eo14
                have p549 : 0 ≤ (x10_1 : Int) := of_decide_eq_true (by first | (with_reducible assumption) | assumption)
                have q549 : x10_1 < (t545.length : Int) := of_decide_eq_true (by first | (with_reducible assumption) | assumption)
                obtain ⟨ad549, e549, hx549_0⟩ := Kd.at_int (Kd.R_reads' HO_8.out).2.2 x10_1 p549 q549
                cases e549
                replace p549 := eq_true p549
                replace q549 := eq_true q549
                go_wp2_with (first | ((with_reducible refine gate_callee (f := 30) rfl ?_); refine goesL_ (some 34) rfl rfl Tryd.func30 (by kernel_rfl) rfl #[.slice A0 l0.length c0, .int .i64 (rd t545 x10_1)] rfl (by (try simp only [List.map_toArray, List.map_cons, List.map_nil]); first | done | rfl | (simp only [List.length_drop, List.length_take]; rfl)) ?_; (with_reducible refine (mummerref03_Place.calls k1 _ _ l0 (rd t545 x10_1) t550 t551 t552 _ ?side1 ?side2 A9.out).mono ?_); (case side1 => repeat (first | exact (Kd.C_below HR0.out HB.out) | (with_reducible refine Kd.C_alloc ?_ _) | (with_reducible refine Kd.C_drewN ?_ _) | (with_reducible refine Kd.C_drew ?_))); (case side2 => exact HC0.out); rintro e w15 ⟨rfl, hb⟩; refine ⟨_, rfl, ?_⟩; have n0_ := ak (Kd.R_below (by (with_reducible repeat (first | apply Kd.R_alloc | apply Kd.R_drewN | apply Kd.R_drew)); exact HO_8.out) hb); have n1_ := ak (below_step (by repeat (first | (with_reducible first | exact HB.out | apply wA | apply wN | apply wD) | exact HB.out)) hb); clear HO_8; clear HB; have HO_8 := n0_; have HB := n1_; clear n0_ n1_; (try clear hb); (try clear hb2); (try clear hk); (try clear hi)))
                go_roundg k1
                case measure => have := HK1.out; omega
                case rel => exact ⟨(wrap64 (x10_1 + 1)), (by first | rfl | (simp; done) | (simp [*]; done)), H', ⟨by have := HK1.out; omega⟩, ⟨by (with_reducible repeat (first | apply Kd.R_alloc | apply Kd.R_drewN | apply Kd.R_drew)); exact HO_8.out⟩, ⟨by repeat (first | (with_reducible first | exact HB.out | apply wA | apply wN | apply wD) | exact HB.out)⟩⟩
            · rw [if_neg c10] at H
              have c10b0 : (t550 == a1) = false := beq_eq_false_iff_ne.mpr c10
              have c10b1 : (t550 != a1) = true := bne_iff_ne.mpr c10
              have H' := ak H
              clear H
              obtain ⟨Ao16, co16, eo16⟩ := Kd.R_slice HO_8.out
              subst eo16
              have p549 : 0 ≤ (x10_1 : Int) := of_decide_eq_true (by first | (with_reducible assumption) | assumption)
              have q549 : x10_1 < (t545.length : Int) := of_decide_eq_true (by first | (with_reducible assumption) | assumption)
              obtain ⟨ad549, e549, hx549_0⟩ := Kd.at_int (Kd.R_reads' HO_8.out).2.2 x10_1 p549 q549
              cases e549
              replace p549 := eq_true p549
              replace q549 := eq_true q549
              go_wp2_with (first | ((with_reducible refine gate_callee (f := 30) rfl ?_); refine goesL_ (some 34) rfl rfl Tryd.func30 (by kernel_rfl) rfl #[.slice A0 l0.length c0, .int .i64 (rd t545 x10_1)] rfl (by (try simp only [List.map_toArray, List.map_cons, List.map_nil]); first | done | rfl | (simp only [List.length_drop, List.length_take]; rfl)) ?_; (with_reducible refine (mummerref03_Place.calls k1 _ _ l0 (rd t545 x10_1) t550 t551 t552 _ ?side1 ?side2 A9.out).mono ?_); (case side1 => repeat (first | exact (Kd.C_below HR0.out HB.out) | (with_reducible refine Kd.C_alloc ?_ _) | (with_reducible refine Kd.C_drewN ?_ _) | (with_reducible refine Kd.C_drew ?_))); (case side2 => exact HC0.out); rintro e w17 ⟨rfl, hb⟩; refine ⟨_, rfl, ?_⟩; have n0_ := ak (Kd.R_below (by (with_reducible repeat (first | apply Kd.R_alloc | apply Kd.R_drewN | apply Kd.R_drew)); exact HO_8.out) hb); have n1_ := ak (below_step (by repeat (first | (with_reducible first | exact HB.out | apply wA | apply wN | apply wD) | exact HB.out)) hb); clear HO_8; clear HB; have HO_8 := n0_; have HB := n1_; clear n0_ n1_; (try clear hb); (try clear hb2); (try clear hk); (try clear hi)))
              go_roundg k1
              case measure => have := HK1.out; omega
              case rel => exact ⟨(wrap64 (x10_1 + 1)), (by first | rfl | (simp; done) | (simp [*]; done)), H', ⟨by have := HK1.out; omega⟩, ⟨by (with_reducible repeat (first | apply Kd.R_alloc | apply Kd.R_drewN | apply Kd.R_drew)); exact HO_8.out⟩, ⟨by repeat (first | (with_reducible first | exact HB.out | apply wA | apply wN | apply wD) | exact HB.out)⟩⟩
          · rw [if_neg c8] at H
            exact absurd H (by simp)
        · rw [if_neg c7] at H
          have c7b0 : decide (x10_1 < (t545.length : Int)) = false := decide_eq_false c7
          clear c7
          simp only [Option.some.injEq, Prod.mk.injEq] at H
          obtain ⟨rfl, rfl⟩ := H
          obtain ⟨Ao18, co18, eo18⟩ := Kd.R_slice HO_8.out
          subst eo18
          go_wp2
          go_ret2
          exact ⟨by first | rfl | (simp [errW_none, errW_some] <;> rfl) | (simp [*, errW_none, errW_some] <;> rfl), by repeat (first | (with_reducible first | exact HB.out | apply wA | apply wN | apply wD) | exact HB.out)⟩
  · rw [if_neg c5] at H
    have c5b0 : (t546 == 0) = false := beq_eq_false_iff_ne.mpr c5
    have c5b1 : (t546 != 0) = true := bne_iff_ne.mpr c5
    simp only [Option.some.injEq, Prod.mk.injEq] at H
    obtain ⟨rfl, rfl⟩ := H
    go_enter Tryd.func32, Tryd.ntmps32
    go_wp2_with (first | ((with_reducible refine gate_callee (f := 33) rfl ?_); refine goesL_ (some 16) rfl rfl Tryd.func33 (by kernel_rfl) rfl #[.slice A0 l0.length c0] rfl (by (try simp only [List.map_toArray, List.map_cons, List.map_nil]); first | done | rfl | (simp only [List.length_drop, List.length_take]; rfl)) ?_; (with_reducible refine (mummerref02_Starts.calls k _ _ l0 t545 t546 _ ?side1 ?side2 A4.out).mono ?_); (case side1 => repeat (first | exact HR0.out | (with_reducible refine Kd.C_alloc ?_ _) | (with_reducible refine Kd.C_drewN ?_ _) | (with_reducible refine Kd.C_drew ?_))); (case side2 => exact HC0.out); rintro e w19 ⟨v547, rfl, ho0, hb⟩; refine ⟨_, rfl, ?_⟩; have n0_ := ak (Kd.R_lower ho0 (below_size (by repeat (first | (with_reducible first | exact HB.out | apply wA | apply wN | apply wD) | exact HB.out)))); have n1_ := ak (below_step (by repeat (first | (with_reducible first | exact HB.out | apply wA | apply wN | apply wD) | exact HB.out)) hb); clear HB; have HO548 := n0_; have HB := n1_; clear n0_ n1_; (try clear hb); (try clear hb2); (try clear hk); (try clear hi); (try clear ho0)))
    go_ret2
    exact ⟨by first | rfl | (simp [errW_none, errW_some] <;> rfl) | (simp [*, errW_none, errW_some] <;> rfl), by repeat (first | (with_reducible first | exact HB.out | apply wA | apply wN | apply wD) | exact HB.out)⟩
end Go.Proofs.YtnkfdobcmfdhfaaDoor.P
namespace Go.Proofs.YtnkfdobcmfdhfaaDoor.P
open Go.RowKit Go.Proofs.YtnkfdobcmfdhfaaDoorW.PrintWords Go.Proofs.YtnkfdobcmfdhfaaDoorW.PrintLast Go.Proofs.YtnkfdobcmfdhfaaDoorW.PrintMore
attribute [local go_sem] max2_int min2_int max_two min_two max_three min_three max_four min_four   -- for this text's walks alone
set_option linter.unusedVariables false
set_option linter.unusedSimpArgs false
def mummerlaw03_SpansPlaces.j0 : Nat → List Int → Int → Bool → Int → Int → Option (Bool)
  | 0, _, _, _, _, _ => none
  | k + 1, x0, x2, x33, x555000, x555001 => if x33 = true then ((mummerlaw03_awake.f k).bind fun t555 => (some t555)) else ((spans_Lines.f x0).bind fun bt556 => ((mummerref03_Lines.f k x0).bind fun bt560 => ((spans_Cut.f k x0 x555000 x555001).bind fun bt564 => ((mummerref03_Cut.f k x0 x555000 x555001).bind fun bt566 => ((mummerref03_Same.f k bt556.1 bt560.1).bind fun t568 => (if t568 = true then (if bt556.2 = bt560.2 then (if bt564.1.toList = bt566.1.toList then (if bt564.2 = bt566.2 then ((spans_Place.f k x0 x555000).bind fun bt569 => ((mummerref03_Place.f k x0 x555000).bind fun bt572 => ((spans_At.f k x0 x555001 x2).bind fun bt575 => ((mummerref03_At.f k x0 x555001 x2).bind fun bt577 => (if bt569.1 = bt572.1 then (if bt569.2.1 = bt572.2.1 then (if bt569.2.2 = bt572.2.2 then (if bt575.1 = bt577.1 then (if bt575.2 = bt577.2 then ((mummerlaw03_awake.f k).bind fun t579 => (some t579)) else (some false)) else (some false)) else (some false)) else (some false)) else (some false)))))) else (some false)) else (some false)) else (some false)) else (some false)))))))
def mummerlaw03_SpansPlaces.f (k : Nat) (l0 : List Int) (a1_0 : Int) (a1_1 : Int) (a2 : Int) : Option (Bool) := if (l0.length : Int) > 100 then (if (l0.length : Int) ≤ 8000 then (mummerlaw03_SpansPlaces.j0 k l0 a2 true a1_0 a1_1) else (mummerlaw03_SpansPlaces.j0 k l0 a2 (decide ((l0.length : Int) > 8100)) a1_0 a1_1)) else (mummerlaw03_SpansPlaces.j0 k l0 a2 (decide ((l0.length : Int) > 8100)) a1_0 a1_1)
set_option maxHeartbeats 8000000 in
set_option maxRecDepth 100000 in
theorem mummerlaw03_SpansPlaces.calls (k : Nat) (A0 : Option Addr) (c0 : Nat) (l0 : List Int) (a1_0 : Int) (a1_1 : Int) (a2 : Int) (r : Bool) (w : World) (hr0 : Kd.C (Kd.int .u8) w A0 l0.length l0) (hc0 : l0.length ≤ c0) (hrt : Aside0 (r = true)) (h : mummerlaw03_SpansPlaces.f k l0 a1_0 a1_1 a2 = some r) (HT : Aside0 (Sc.Tab w)) :
    Calls Tryd.prog 8 #[.slice A0 l0.length c0, .agg #[.int .i64 a1_0, .int .i64 a1_1], .int .i64 a2] w fun e w' => e = .returned (.bool r) ∧ Below w.heap.size w w' := by
  have hu24 := Tryd.underlying24
  have HR0 := ak hr0
  have HC0 := ak hc0
  clear hr0 hc0
  have HB := ak (Below.refl w.heap.size w)
  have H : (if (l0.length : Int) > 100 then (if (l0.length : Int) ≤ 8000 then (mummerlaw03_SpansPlaces.j0 k l0 a2 true a1_0 a1_1) else (mummerlaw03_SpansPlaces.j0 k l0 a2 (decide ((l0.length : Int) > 8100)) a1_0 a1_1)) else (mummerlaw03_SpansPlaces.j0 k l0 a2 (decide ((l0.length : Int) > 8100)) a1_0 a1_1)) = some r := h
  clear h
  have HC4 := ak H
  clear H
  go_enter Tryd.func8, Tryd.ntmps8
  go_upto_region 1 with (first | ((with_reducible refine gate_dst (N := 4) rfl ?_); (try (refine gate_guard (by rfl) ?_; dsimp only)); refine box_event ?hg (N := 4) ?hd (cs := #[.int .i64 a1_0, .int .i64 a1_1]) (t := 24) ?hr ?_; (case hd => rfl); (case hg => rfl); (case hr => first | (go_simp; done) | (go_simp; rfl)); intro gb554 hg w5 hbox hb; have n0_ := ak (below_step (by repeat (first | (with_reducible first | exact HB.out | apply wA | apply wN | apply wD) | exact HB.out)) hb); have n1_ := ak (hbox); have n2_ := ak ((by rw [hg]; exact (below_size (by repeat (first | (with_reducible first | exact HB.out | apply wA | apply wN | apply wD) | exact HB.out))) : w.heap.size ≤ gb554)); have n3_ := ak ((by rw [hg]; exact (below_size (by repeat (first | (with_reducible first | exact HB.out | apply wA | apply wN | apply wD) | exact HB.out))) : w.heap.size ≤ gb554)); clear HB; have HB := n0_; have BK554 := n1_; have GW554 := n2_; have GE554 := n3_; clear n0_ n1_ n2_ n3_; clear hb hbox hg))
  (try simp only [Act.put, List.setIfInBounds_toArray, List.set_cons_zero, List.set_cons_succ])
  go_cut [33] (fun v33 wc => ∃ (kq : Nat) (x33_3 : Bool), v33 = .bool x33_3 ∧ Aside0 (mummerlaw03_SpansPlaces.j0 kq l0 a2 x33_3 a1_0 a1_1 = some r) ∧ Aside0 (kq ≤ k) ∧ Aside0 (wc.heap[gb554]? = some (.cells #[.int .i64 a1_0, .int .i64 a1_1] 24 (0, 0))) ∧ Aside0 (Below w.heap.size w wc))
  case first =>
    have H := HC4.out
    clear HC4
    by_cases c6 : (l0.length : Int) > 100
    · rw [if_pos c6] at H
      have c6b0 : decide (100 < (l0.length : Int)) = true := decide_eq_true c6
      have c6b1 : decide (100 < l0.length) = true := decide_eq_true (by omega)
      clear c6
      (first | rw [c6b0] | (simp only [i64_w, i32_w]; rw [c6b0]) | skip)
      by_cases c7 : (l0.length : Int) ≤ 8000
      · rw [if_pos c7] at H
        have c7b0 : decide ((l0.length : Int) ≤ 8000) = true := decide_eq_true c7
        have c7b1 : decide (l0.length ≤ 8000) = true := decide_eq_true (by omega)
        clear c7
        have H' := ak H
        clear H
        go_wp2
        go_meet
        case rel => exact ⟨_, (true), (by first | rfl | (simp; done) | (simp [*]; done)), H', ⟨by first | omega | exact Nat.le_refl _⟩, ⟨by (with_reducible repeat (first | refine bN ?_ _ | refine bD ?_ | refine bA ?_ _)); exact BK554.out⟩, ⟨by repeat (first | (with_reducible first | exact HB.out | apply wA | apply wN | apply wD | refine below_set ?_ GE554.out) | exact HB.out)⟩⟩
      · rw [if_neg c7] at H
        have c7b0 : decide ((l0.length : Int) ≤ 8000) = false := decide_eq_false c7
        have c7b1 : decide (l0.length ≤ 8000) = false := decide_eq_false (by omega)
        clear c7
        have H' := ak H
        clear H
        go_wp2
        go_meet
        case rel => exact ⟨_, (decide ((l0.length : Int) > 8100)), (by first | rfl | (simp; done) | (simp [*]; done)), H', ⟨by first | omega | exact Nat.le_refl _⟩, ⟨by (with_reducible repeat (first | refine bN ?_ _ | refine bD ?_ | refine bA ?_ _)); exact BK554.out⟩, ⟨by repeat (first | (with_reducible first | exact HB.out | apply wA | apply wN | apply wD | refine below_set ?_ GE554.out) | exact HB.out)⟩⟩
    · rw [if_neg c6] at H
      have c6b0 : decide (100 < (l0.length : Int)) = false := decide_eq_false c6
      have c6b1 : decide (100 < l0.length) = false := decide_eq_false (by omega)
      clear c6
      (first | rw [c6b0] | (simp only [i64_w, i32_w]; rw [c6b0]) | skip)
      have H' := ak H
      clear H
      go_wp2
      go_meet
      case rel => exact ⟨_, (decide ((l0.length : Int) > 8100)), (by first | rfl | (simp; done) | (simp [*]; done)), H', ⟨by first | omega | exact Nat.le_refl _⟩, ⟨by (with_reducible repeat (first | refine bN ?_ _ | refine bD ?_ | refine bA ?_ _)); exact BK554.out⟩, ⟨by repeat (first | (with_reducible first | exact HB.out | apply wA | apply wN | apply wD | refine below_set ?_ GE554.out) | exact HB.out)⟩⟩
  case rest =>
    clear HC4
    try clear p2
    try clear c6
    try clear c6b0
    try clear c6b1
    try clear c7
    try clear c7b0
    try clear c7b1
    obtain ⟨kq, x33_3, rfl, HA, HJ3, BK554, HB⟩ := hcut
    cases kq with
    | zero => exact absurd HA.out (by simp [mummerlaw03_SpansPlaces.j0])
    | succ kj3 =>
      have H := HA.out
      clear HA
      simp only [mummerlaw03_SpansPlaces.j0] at H
      by_cases c8 : x33_3 = true
      · subst c8
        have H1 : ((mummerlaw03_awake.f kj3).bind fun t555 => (some t555)) = some r := by rw [if_pos rfl] at H; exact H
        clear H
        have H := H1
        clear H1
        replace H := Option.bind_eq_some_iff.mp H
        obtain ⟨t555, A90, H⟩ := H
        replace H : (some t555) = some r := H
        have A9 := ak A90
        clear A90
        obtain rfl := Option.some.inj H
        go_wp2_with (first | ((with_reducible refine gate_callee (f := 12) rfl ?_); refine goesL_ (some 34) rfl rfl Tryd.func12 (by kernel_rfl) rfl #[] rfl (by (try simp only [List.map_toArray, List.map_cons, List.map_nil]); first | done | rfl | (simp only [List.length_drop, List.length_take]; rfl)) ?_; (with_reducible refine (mummerlaw03_awake.calls kj3  t555 _ hrt A9.out ⟨Sc.Tab.stay HT.out (by repeat (first | (with_reducible first | exact HB.out | apply wA | apply wN | apply wD) | exact HB.out | (refine below_set ?_ (by assumption)) | (refine below_set ?_ (Aside0.out (by assumption)))))⟩).mono ?_); rintro e w10 ⟨rfl, hb⟩; refine ⟨_, rfl, ?_⟩; have n0_ := ak (blk_below (g := gb554) (o := .cells #[.int .i64 a1_0, .int .i64 a1_1] 24 (0, 0)) (by (with_reducible repeat (first | refine bN ?_ _ | refine bD ?_ | refine bA ?_ _)); exact BK554.out) hb); have n1_ := ak (below_step (by repeat (first | (with_reducible first | exact HB.out | apply wA | apply wN | apply wD | refine below_set ?_ GE554.out) | exact HB.out)) hb); clear BK554; clear HB; have BK554 := n0_; have HB := n1_; clear n0_ n1_; (try clear hb); (try clear hb2); (try clear hk); (try clear hi)))
        go_ret
        exact ⟨by first | rfl | (simp [errW_none, errW_some] <;> rfl) | (simp [*, errW_none, errW_some] <;> rfl), by repeat (first | (with_reducible first | exact HB.out | apply wA | apply wN | apply wD | refine below_set ?_ GE554.out) | exact HB.out)⟩
      · replace c8 := Bool.eq_false_iff.mpr c8
        subst c8
        have H1 : ((spans_Lines.f l0).bind fun bt556 => ((mummerref03_Lines.f kj3 l0).bind fun bt560 => ((spans_Cut.f kj3 l0 a1_0 a1_1).bind fun bt564 => ((mummerref03_Cut.f kj3 l0 a1_0 a1_1).bind fun bt566 => ((mummerref03_Same.f kj3 bt556.1 bt560.1).bind fun t568 => (if t568 = true then (if bt556.2 = bt560.2 then (if bt564.1.toList = bt566.1.toList then (if bt564.2 = bt566.2 then ((spans_Place.f kj3 l0 a1_0).bind fun bt569 => ((mummerref03_Place.f kj3 l0 a1_0).bind fun bt572 => ((spans_At.f kj3 l0 a1_1 a2).bind fun bt575 => ((mummerref03_At.f kj3 l0 a1_1 a2).bind fun bt577 => (if bt569.1 = bt572.1 then (if bt569.2.1 = bt572.2.1 then (if bt569.2.2 = bt572.2.2 then (if bt575.1 = bt577.1 then (if bt575.2 = bt577.2 then ((mummerlaw03_awake.f kj3).bind fun t579 => (some t579)) else (some false)) else (some false)) else (some false)) else (some false)) else (some false)))))) else (some false)) else (some false)) else (some false)) else (some false))))))) = some r := by rw [if_neg (show ¬ (false = true) by decide)] at H; exact H
        clear H
        have H := H1
        clear H1
        replace H := Option.bind_eq_some_iff.mp H
        obtain ⟨⟨t556, t557⟩, A110, H⟩ := H
        replace H : ((mummerref03_Lines.f kj3 l0).bind fun bt560 => ((spans_Cut.f kj3 l0 a1_0 a1_1).bind fun bt564 => ((mummerref03_Cut.f kj3 l0 a1_0 a1_1).bind fun bt566 => ((mummerref03_Same.f kj3 t556 bt560.1).bind fun t568 => (if t568 = true then (if t557 = bt560.2 then (if bt564.1.toList = bt566.1.toList then (if bt564.2 = bt566.2 then ((spans_Place.f kj3 l0 a1_0).bind fun bt569 => ((mummerref03_Place.f kj3 l0 a1_0).bind fun bt572 => ((spans_At.f kj3 l0 a1_1 a2).bind fun bt575 => ((mummerref03_At.f kj3 l0 a1_1 a2).bind fun bt577 => (if bt569.1 = bt572.1 then (if bt569.2.1 = bt572.2.1 then (if bt569.2.2 = bt572.2.2 then (if bt575.1 = bt577.1 then (if bt575.2 = bt577.2 then ((mummerlaw03_awake.f kj3).bind fun t579 => (some t579)) else (some false)) else (some false)) else (some false)) else (some false)) else (some false)))))) else (some false)) else (some false)) else (some false)) else (some false)))))) = some r := H
        have A11 := ak A110
        clear A110
        replace H := Option.bind_eq_some_iff.mp H
        obtain ⟨⟨t560, t561⟩, A120, H⟩ := H
        replace H : ((spans_Cut.f kj3 l0 a1_0 a1_1).bind fun bt564 => ((mummerref03_Cut.f kj3 l0 a1_0 a1_1).bind fun bt566 => ((mummerref03_Same.f kj3 t556 t560).bind fun t568 => (if t568 = true then (if t557 = t561 then (if bt564.1.toList = bt566.1.toList then (if bt564.2 = bt566.2 then ((spans_Place.f kj3 l0 a1_0).bind fun bt569 => ((mummerref03_Place.f kj3 l0 a1_0).bind fun bt572 => ((spans_At.f kj3 l0 a1_1 a2).bind fun bt575 => ((mummerref03_At.f kj3 l0 a1_1 a2).bind fun bt577 => (if bt569.1 = bt572.1 then (if bt569.2.1 = bt572.2.1 then (if bt569.2.2 = bt572.2.2 then (if bt575.1 = bt577.1 then (if bt575.2 = bt577.2 then ((mummerlaw03_awake.f kj3).bind fun t579 => (some t579)) else (some false)) else (some false)) else (some false)) else (some false)) else (some false)))))) else (some false)) else (some false)) else (some false)) else (some false))))) = some r := H
        have A12 := ak A120
        clear A120
        replace H := Option.bind_eq_some_iff.mp H
        obtain ⟨⟨t564, t565⟩, A130, H⟩ := H
        replace H : ((mummerref03_Cut.f kj3 l0 a1_0 a1_1).bind fun bt566 => ((mummerref03_Same.f kj3 t556 t560).bind fun t568 => (if t568 = true then (if t557 = t561 then (if t564.toList = bt566.1.toList then (if t565 = bt566.2 then ((spans_Place.f kj3 l0 a1_0).bind fun bt569 => ((mummerref03_Place.f kj3 l0 a1_0).bind fun bt572 => ((spans_At.f kj3 l0 a1_1 a2).bind fun bt575 => ((mummerref03_At.f kj3 l0 a1_1 a2).bind fun bt577 => (if bt569.1 = bt572.1 then (if bt569.2.1 = bt572.2.1 then (if bt569.2.2 = bt572.2.2 then (if bt575.1 = bt577.1 then (if bt575.2 = bt577.2 then ((mummerlaw03_awake.f kj3).bind fun t579 => (some t579)) else (some false)) else (some false)) else (some false)) else (some false)) else (some false)))))) else (some false)) else (some false)) else (some false)) else (some false)))) = some r := H
        have A13 := ak A130
        clear A130
        replace H := Option.bind_eq_some_iff.mp H
        obtain ⟨⟨t566, t567⟩, A140, H⟩ := H
        replace H : ((mummerref03_Same.f kj3 t556 t560).bind fun t568 => (if t568 = true then (if t557 = t561 then (if t564.toList = t566.toList then (if t565 = t567 then ((spans_Place.f kj3 l0 a1_0).bind fun bt569 => ((mummerref03_Place.f kj3 l0 a1_0).bind fun bt572 => ((spans_At.f kj3 l0 a1_1 a2).bind fun bt575 => ((mummerref03_At.f kj3 l0 a1_1 a2).bind fun bt577 => (if bt569.1 = bt572.1 then (if bt569.2.1 = bt572.2.1 then (if bt569.2.2 = bt572.2.2 then (if bt575.1 = bt577.1 then (if bt575.2 = bt577.2 then ((mummerlaw03_awake.f kj3).bind fun t579 => (some t579)) else (some false)) else (some false)) else (some false)) else (some false)) else (some false)))))) else (some false)) else (some false)) else (some false)) else (some false))) = some r := H
        have A14 := ak A140
        clear A140
        replace H := Option.bind_eq_some_iff.mp H
        obtain ⟨t568, A150, H⟩ := H
        replace H : (if t568 = true then (if t557 = t561 then (if t564.toList = t566.toList then (if t565 = t567 then ((spans_Place.f kj3 l0 a1_0).bind fun bt569 => ((mummerref03_Place.f kj3 l0 a1_0).bind fun bt572 => ((spans_At.f kj3 l0 a1_1 a2).bind fun bt575 => ((mummerref03_At.f kj3 l0 a1_1 a2).bind fun bt577 => (if bt569.1 = bt572.1 then (if bt569.2.1 = bt572.2.1 then (if bt569.2.2 = bt572.2.2 then (if bt575.1 = bt577.1 then (if bt575.2 = bt577.2 then ((mummerlaw03_awake.f kj3).bind fun t579 => (some t579)) else (some false)) else (some false)) else (some false)) else (some false)) else (some false)))))) else (some false)) else (some false)) else (some false)) else (some false)) = some r := H
        have A15 := ak A150
        clear A150
        by_cases c16 : t568 = true
        · subst c16
          have H1 : (if t557 = t561 then (if t564.toList = t566.toList then (if t565 = t567 then ((spans_Place.f kj3 l0 a1_0).bind fun bt569 => ((mummerref03_Place.f kj3 l0 a1_0).bind fun bt572 => ((spans_At.f kj3 l0 a1_1 a2).bind fun bt575 => ((mummerref03_At.f kj3 l0 a1_1 a2).bind fun bt577 => (if bt569.1 = bt572.1 then (if bt569.2.1 = bt572.2.1 then (if bt569.2.2 = bt572.2.2 then (if bt575.1 = bt577.1 then (if bt575.2 = bt577.2 then ((mummerlaw03_awake.f kj3).bind fun t579 => (some t579)) else (some false)) else (some false)) else (some false)) else (some false)) else (some false)))))) else (some false)) else (some false)) else (some false)) = some r := by rw [if_pos rfl] at H; exact H
          clear H
          have H := H1
          clear H1
          by_cases c17 : t557 = t561
          · rw [if_pos c17] at H
            have c17b0 : (t557 == t561) = true := beq_iff_eq.mpr c17
            have c17b1 : (t557 != t561) = false := bne_eq_false_iff_eq.mpr c17
            clear c17
            by_cases c18 : t564.toList = t566.toList
            · rw [if_pos c18] at H
              have c18b0 : (t564.toList == t566.toList) = true := beq_iff_eq.mpr c18
              have c18b1 : (t564.toList != t566.toList) = false := bne_eq_false_iff_eq.mpr c18
              clear c18
              by_cases c19 : t565 = t567
              · rw [if_pos c19] at H
                have c19b0 : (t565 == t567) = true := beq_iff_eq.mpr c19
                have c19b1 : (t565 != t567) = false := bne_eq_false_iff_eq.mpr c19
                clear c19
                replace H := Option.bind_eq_some_iff.mp H
                obtain ⟨⟨t569, t570, t571⟩, A200, H⟩ := H
                replace H : ((mummerref03_Place.f kj3 l0 a1_0).bind fun bt572 => ((spans_At.f kj3 l0 a1_1 a2).bind fun bt575 => ((mummerref03_At.f kj3 l0 a1_1 a2).bind fun bt577 => (if t569 = bt572.1 then (if t570 = bt572.2.1 then (if t571 = bt572.2.2 then (if bt575.1 = bt577.1 then (if bt575.2 = bt577.2 then ((mummerlaw03_awake.f kj3).bind fun t579 => (some t579)) else (some false)) else (some false)) else (some false)) else (some false)) else (some false))))) = some r := H
                have A20 := ak A200
                clear A200
                replace H := Option.bind_eq_some_iff.mp H
                obtain ⟨⟨t572, t573, t574⟩, A210, H⟩ := H
                replace H : ((spans_At.f kj3 l0 a1_1 a2).bind fun bt575 => ((mummerref03_At.f kj3 l0 a1_1 a2).bind fun bt577 => (if t569 = t572 then (if t570 = t573 then (if t571 = t574 then (if bt575.1 = bt577.1 then (if bt575.2 = bt577.2 then ((mummerlaw03_awake.f kj3).bind fun t579 => (some t579)) else (some false)) else (some false)) else (some false)) else (some false)) else (some false)))) = some r := H
                have A21 := ak A210
                clear A210
                replace H := Option.bind_eq_some_iff.mp H
                obtain ⟨⟨t575, t576⟩, A220, H⟩ := H
                replace H : ((mummerref03_At.f kj3 l0 a1_1 a2).bind fun bt577 => (if t569 = t572 then (if t570 = t573 then (if t571 = t574 then (if t575 = bt577.1 then (if t576 = bt577.2 then ((mummerlaw03_awake.f kj3).bind fun t579 => (some t579)) else (some false)) else (some false)) else (some false)) else (some false)) else (some false))) = some r := H
                have A22 := ak A220
                clear A220
                replace H := Option.bind_eq_some_iff.mp H
                obtain ⟨⟨t577, t578⟩, A230, H⟩ := H
                replace H : (if t569 = t572 then (if t570 = t573 then (if t571 = t574 then (if t575 = t577 then (if t576 = t578 then ((mummerlaw03_awake.f kj3).bind fun t579 => (some t579)) else (some false)) else (some false)) else (some false)) else (some false)) else (some false)) = some r := H
                have A23 := ak A230
                clear A230
                by_cases c24 : t569 = t572
                · rw [if_pos c24] at H
                  have c24b0 : (t569 == t572) = true := beq_iff_eq.mpr c24
                  have c24b1 : (t569 != t572) = false := bne_eq_false_iff_eq.mpr c24
                  clear c24
                  by_cases c25 : t570 = t573
                  · rw [if_pos c25] at H
                    have c25b0 : (t570 == t573) = true := beq_iff_eq.mpr c25
                    have c25b1 : (t570 != t573) = false := bne_eq_false_iff_eq.mpr c25
                    clear c25
                    by_cases c26 : t571 = t574
                    · rw [if_pos c26] at H
                      have c26b0 : (t571 == t574) = true := beq_iff_eq.mpr c26
                      have c26b1 : (t571 != t574) = false := bne_eq_false_iff_eq.mpr c26
                      clear c26
                      by_cases c27 : t575 = t577
                      · rw [if_pos c27] at H
                        have c27b0 : (t575 == t577) = true := beq_iff_eq.mpr c27
                        have c27b1 : (t575 != t577) = false := bne_eq_false_iff_eq.mpr c27
                        clear c27
                        by_cases c28 : t576 = t578
                        · rw [if_pos c28] at H
                          have c28b0 : (t576 == t578) = true := beq_iff_eq.mpr c28
                          have c28b1 : (t576 != t578) = false := bne_eq_false_iff_eq.mpr c28
                          clear c28
                          replace H := Option.bind_eq_some_iff.mp H
                          obtain ⟨t579, A290, H⟩ := H
                          replace H : (some t579) = some r := H
                          have A29 := ak A290
                          clear A290
                          obtain rfl := Option.some.inj H
                          go_wp2_with (first | ((with_reducible refine gate_callee (f := 24) rfl ?_); refine goesL_ (some 37) rfl rfl Tryd.func24 (by kernel_rfl) rfl #[.slice A0 l0.length c0] rfl (by (try simp only [List.map_toArray, List.map_cons, List.map_nil]); first | done | rfl | (simp only [List.length_drop, List.length_take]; rfl)) ?_; (with_reducible refine (spans_Lines.calls _ _ l0 t556 t557 _ ?side1 ?side2 A11.out ⟨Sc.Tab.stay HT.out (by repeat (first | (with_reducible first | exact HB.out | apply wA | apply wN | apply wD) | exact HB.out | (refine below_set ?_ (by assumption)) | (refine below_set ?_ (Aside0.out (by assumption)))))⟩).mono ?_); (case side1 => repeat (first | exact (Kd.C_below HR0.out HB.out) | (with_reducible refine Kd.C_alloc ?_ _) | (with_reducible refine Kd.C_drewN ?_ _) | (with_reducible refine Kd.C_drew ?_))); (case side2 => exact HC0.out); rintro e w30 ⟨v558, rfl, ho0, hb⟩; refine ⟨_, rfl, ?_⟩; have n0_ := ak (Kd.R_lower (Kd.R_newB ho0 (g := gb554) (o := .cells #[.int .i64 a1_0, .int .i64 a1_1] 24 (0, 0)) (by (with_reducible repeat (first | refine bN ?_ _ | refine bD ?_ | refine bA ?_ _)); exact BK554.out)) (below_size (by repeat (first | (with_reducible first | exact HB.out | apply wA | apply wN | apply wD | refine below_set ?_ GE554.out) | exact HB.out)))); have n1_ := ak (blk_below (g := gb554) (o := .cells #[.int .i64 a1_0, .int .i64 a1_1] 24 (0, 0)) (by (with_reducible repeat (first | refine bN ?_ _ | refine bD ?_ | refine bA ?_ _)); exact BK554.out) hb); have n2_ := ak (below_step (by repeat (first | (with_reducible first | exact HB.out | apply wA | apply wN | apply wD | refine below_set ?_ GE554.out) | exact HB.out)) hb); clear BK554; clear HB; have HO559 := n0_; have BK554 := n1_; have HB := n2_; clear n0_ n1_ n2_; (try clear hb); (try clear hb2); (try clear hk); (try clear hi); (try clear ho0)) | ((with_reducible refine gate_callee (f := 25) rfl ?_); refine goesL_ (some 42) rfl rfl Tryd.func25 (by kernel_rfl) rfl #[.slice A0 l0.length c0] rfl (by (try simp only [List.map_toArray, List.map_cons, List.map_nil]); first | done | rfl | (simp only [List.length_drop, List.length_take]; rfl)) ?_; (with_reducible refine (mummerref03_Lines.calls kj3 _ _ l0 t560 t561 _ ?side1 ?side2 A12.out).mono ?_); (case side1 => repeat (first | exact (Kd.C_below HR0.out HB.out) | (with_reducible refine Kd.C_alloc ?_ _) | (with_reducible refine Kd.C_drewN ?_ _) | (with_reducible refine Kd.C_drew ?_))); (case side2 => exact HC0.out); rintro e w31 ⟨v562, rfl, ho0, hb⟩; refine ⟨_, rfl, ?_⟩; have n0_ := ak (Kd.R_elder' (by (with_reducible repeat (first | apply Kd.R_alloc | apply Kd.R_drewN | apply Kd.R_drew)); exact HO559.out) (Kd.R_base ho0) hb); have n1_ := ak (Kd.R_lower (Kd.R_newB (Kd.R_new' ho0 (Kd.R_lt (by (with_reducible repeat (first | apply Kd.R_alloc | apply Kd.R_drewN | apply Kd.R_drew)); exact HO559.out))) (g := gb554) (o := .cells #[.int .i64 a1_0, .int .i64 a1_1] 24 (0, 0)) (by (with_reducible repeat (first | refine bN ?_ _ | refine bD ?_ | refine bA ?_ _)); exact BK554.out)) (below_size (by repeat (first | (with_reducible first | exact HB.out | apply wA | apply wN | apply wD | refine below_set ?_ GE554.out) | exact HB.out)))); have n2_ := ak (blk_below (g := gb554) (o := .cells #[.int .i64 a1_0, .int .i64 a1_1] 24 (0, 0)) (by (with_reducible repeat (first | refine bN ?_ _ | refine bD ?_ | refine bA ?_ _)); exact BK554.out) hb); have n3_ := ak (below_step (by repeat (first | (with_reducible first | exact HB.out | apply wA | apply wN | apply wD | refine below_set ?_ GE554.out) | exact HB.out)) hb); clear HO559; clear BK554; clear HB; have HO559 := n0_; have HO563 := n1_; have BK554 := n2_; have HB := n3_; clear n0_ n1_ n2_ n3_; (try clear hb); (try clear hb2); (try clear hk); (try clear hi); (try clear ho0); have hcz32_0 : w31.cell? ⟨gb554, 0, none⟩ = some (.int .i64 a1_0) := (blk_cell BK554.out 0).trans rfl; have hcz32_1 : w31.cell? ⟨gb554, 1, none⟩ = some (.int .i64 a1_1) := (blk_cell BK554.out 1).trans rfl; have hfz32_0 := blk_frozen BK554.out 0; have hfz32_1 := blk_frozen BK554.out 1) | ((with_reducible refine gate_callee (f := 26) rfl ?_); refine goesL_ (some 48) rfl rfl Tryd.func26 (by kernel_rfl) rfl #[.slice A0 l0.length c0, .agg #[.int .i64 a1_0, .int .i64 a1_1]] rfl (by (try simp only [List.map_toArray, List.map_cons, List.map_nil]); first | done | rfl | (simp only [List.length_drop, List.length_take]; rfl)) ?_; (with_reducible refine (spans_Cut.calls kj3 _ _ l0 a1_0 a1_1 t564 t565 _ ?side1 ?side2 A13.out ⟨Sc.Tab.stay HT.out (by repeat (first | (with_reducible first | exact HB.out | apply wA | apply wN | apply wD) | exact HB.out | (refine below_set ?_ (by assumption)) | (refine below_set ?_ (Aside0.out (by assumption)))))⟩).mono ?_); (case side1 => repeat (first | exact (Kd.C_below HR0.out HB.out) | (with_reducible refine Kd.C_alloc ?_ _) | (with_reducible refine Kd.C_drewN ?_ _) | (with_reducible refine Kd.C_drew ?_))); (case side2 => exact HC0.out); rintro e w33 ⟨rfl, hb⟩; refine ⟨_, rfl, ?_⟩; have n0_ := ak (Kd.R_below (by (with_reducible repeat (first | apply Kd.R_alloc | apply Kd.R_drewN | apply Kd.R_drew)); exact HO559.out) hb); have n1_ := ak (Kd.R_below (by (with_reducible repeat (first | apply Kd.R_alloc | apply Kd.R_drewN | apply Kd.R_drew)); exact HO563.out) hb); have n2_ := ak (blk_below (g := gb554) (o := .cells #[.int .i64 a1_0, .int .i64 a1_1] 24 (0, 0)) (by (with_reducible repeat (first | refine bN ?_ _ | refine bD ?_ | refine bA ?_ _)); exact BK554.out) hb); have n3_ := ak (below_step (by repeat (first | (with_reducible first | exact HB.out | apply wA | apply wN | apply wD | refine below_set ?_ GE554.out) | exact HB.out)) hb); clear HO559; clear HO563; clear BK554; clear HB; have HO559 := n0_; have HO563 := n1_; have BK554 := n2_; have HB := n3_; clear n0_ n1_ n2_ n3_; (try clear hb); (try clear hb2); (try clear hk); (try clear hi); have hcz34_0 : w33.cell? ⟨gb554, 0, none⟩ = some (.int .i64 a1_0) := (blk_cell BK554.out 0).trans rfl; have hcz34_1 : w33.cell? ⟨gb554, 1, none⟩ = some (.int .i64 a1_1) := (blk_cell BK554.out 1).trans rfl; have hfz34_0 := blk_frozen BK554.out 0; have hfz34_1 := blk_frozen BK554.out 1) | ((with_reducible refine gate_callee (f := 27) rfl ?_); refine goesL_ (some 54) rfl rfl Tryd.func27 (by kernel_rfl) rfl #[.slice A0 l0.length c0, .agg #[.int .i64 a1_0, .int .i64 a1_1]] rfl (by (try simp only [List.map_toArray, List.map_cons, List.map_nil]); first | done | rfl | (simp only [List.length_drop, List.length_take]; rfl)) ?_; (with_reducible refine (mummerref03_Cut.calls kj3 _ _ l0 a1_0 a1_1 t566 t567 _ ?side1 ?side2 A14.out).mono ?_); (case side1 => repeat (first | exact (Kd.C_below HR0.out HB.out) | (with_reducible refine Kd.C_alloc ?_ _) | (with_reducible refine Kd.C_drewN ?_ _) | (with_reducible refine Kd.C_drew ?_))); (case side2 => exact HC0.out); rintro e w35 ⟨rfl, hb⟩; refine ⟨_, rfl, ?_⟩; have n0_ := ak (Kd.R_below (by (with_reducible repeat (first | apply Kd.R_alloc | apply Kd.R_drewN | apply Kd.R_drew)); exact HO559.out) hb); have n1_ := ak (Kd.R_below (by (with_reducible repeat (first | apply Kd.R_alloc | apply Kd.R_drewN | apply Kd.R_drew)); exact HO563.out) hb); have n2_ := ak (blk_below (g := gb554) (o := .cells #[.int .i64 a1_0, .int .i64 a1_1] 24 (0, 0)) (by (with_reducible repeat (first | refine bN ?_ _ | refine bD ?_ | refine bA ?_ _)); exact BK554.out) hb); have n3_ := ak (below_step (by repeat (first | (with_reducible first | exact HB.out | apply wA | apply wN | apply wD | refine below_set ?_ GE554.out) | exact HB.out)) hb); clear HO559; clear HO563; clear BK554; clear HB; have HO559 := n0_; have HO563 := n1_; have BK554 := n2_; have HB := n3_; clear n0_ n1_ n2_ n3_; (try clear hb); (try clear hb2); (try clear hk); (try clear hi); obtain ⟨Ao36, co36, eo36⟩ := Kd.R_slice HO559.out; subst eo36; obtain ⟨Ao37, co37, eo37⟩ := Kd.R_slice HO563.out; subst eo37) | ((with_reducible refine gate_callee (f := 28) rfl ?_); refine goesL_ (some 59) rfl rfl Tryd.func28 (by kernel_rfl) rfl #[.slice Ao36 t556.length co36, .slice Ao37 t560.length co37] rfl (by (try simp only [List.map_toArray, List.map_cons, List.map_nil]); first | done | rfl | (simp only [List.length_drop, List.length_take]; rfl)) ?_; (with_reducible refine (mummerref03_Same.calls kj3 _ _ t556 _ _ t560 true _ ?side1 ?side2 ?side3 ?side4 A15.out).mono ?_); (case side1 => repeat (first | exact (Kd.R_reads' HO559.out).2.2 | (with_reducible refine Kd.C_alloc ?_ _) | (with_reducible refine Kd.C_drewN ?_ _) | (with_reducible refine Kd.C_drew ?_))); (case side2 => exact (Kd.R_reads' HO559.out).2.1); (case side3 => repeat (first | exact (Kd.R_reads' HO563.out).2.2 | (with_reducible refine Kd.C_alloc ?_ _) | (with_reducible refine Kd.C_drewN ?_ _) | (with_reducible refine Kd.C_drew ?_))); (case side4 => exact (Kd.R_reads' HO563.out).2.1); rintro e w' ⟨rfl, ⟨nd, rfl⟩⟩; refine ⟨_, rfl, ?_⟩; have hcz38_0 : w35.cell? ⟨gb554, 0, none⟩ = some (.int .i64 a1_0) := (blk_cell BK554.out 0).trans rfl; have hcz38_1 : w35.cell? ⟨gb554, 1, none⟩ = some (.int .i64 a1_1) := (blk_cell BK554.out 1).trans rfl; have hfz38_0 := blk_frozen BK554.out 0; have hfz38_1 := blk_frozen BK554.out 1) | ((with_reducible refine gate_callee (f := 29) rfl ?_); refine goesL_ (some 80) rfl rfl Tryd.func29 (by kernel_rfl) rfl #[.slice A0 l0.length c0, .int .i64 a1_0] rfl (by (try simp only [List.map_toArray, List.map_cons, List.map_nil]); first | done | rfl | (simp only [List.length_drop, List.length_take]; rfl)) ?_; (with_reducible refine (spans_Place.calls kj3 _ _ l0 a1_0 t569 t570 t571 _ ?side1 ?side2 A20.out ⟨Sc.Tab.stay HT.out (by repeat (first | (with_reducible first | exact HB.out | apply wA | apply wN | apply wD) | exact HB.out | (refine below_set ?_ (by assumption)) | (refine below_set ?_ (Aside0.out (by assumption)))))⟩).mono ?_); (case side1 => repeat (first | exact (Kd.C_below HR0.out (by repeat (first | (with_reducible first | exact HB.out | apply wA | apply wN | apply wD | refine below_set ?_ GE554.out) | exact HB.out))) | (with_reducible refine Kd.C_alloc ?_ _) | (with_reducible refine Kd.C_drewN ?_ _) | (with_reducible refine Kd.C_drew ?_))); (case side2 => exact HC0.out); rintro e w39 ⟨rfl, hb⟩; refine ⟨_, rfl, ?_⟩; have n0_ := ak (Kd.R_below (by (with_reducible repeat (first | apply Kd.R_alloc | apply Kd.R_drewN | apply Kd.R_drew)); exact HO559.out) hb); have n1_ := ak (Kd.R_below (by (with_reducible repeat (first | apply Kd.R_alloc | apply Kd.R_drewN | apply Kd.R_drew)); exact HO563.out) hb); have n2_ := ak (blk_below (g := gb554) (o := .cells #[.int .i64 a1_0, .int .i64 a1_1] 24 (0, 0)) (by (with_reducible repeat (first | refine bN ?_ _ | refine bD ?_ | refine bA ?_ _)); exact BK554.out) hb); have n3_ := ak (below_step (by repeat (first | (with_reducible first | exact HB.out | apply wA | apply wN | apply wD | refine below_set ?_ GE554.out) | exact HB.out)) hb); clear HO559; clear HO563; clear BK554; clear HB; have HO559 := n0_; have HO563 := n1_; have BK554 := n2_; have HB := n3_; clear n0_ n1_ n2_ n3_; (try clear hb); (try clear hb2); (try clear hk); (try clear hi); have hcz40_0 : w39.cell? ⟨gb554, 0, none⟩ = some (.int .i64 a1_0) := (blk_cell BK554.out 0).trans rfl; have hcz40_1 : w39.cell? ⟨gb554, 1, none⟩ = some (.int .i64 a1_1) := (blk_cell BK554.out 1).trans rfl; have hfz40_0 := blk_frozen BK554.out 0; have hfz40_1 := blk_frozen BK554.out 1) | ((with_reducible refine gate_callee (f := 30) rfl ?_); refine goesL_ (some 88) rfl rfl Tryd.func30 (by kernel_rfl) rfl #[.slice A0 l0.length c0, .int .i64 a1_0] rfl (by (try simp only [List.map_toArray, List.map_cons, List.map_nil]); first | done | rfl | (simp only [List.length_drop, List.length_take]; rfl)) ?_; (with_reducible refine (mummerref03_Place.calls kj3 _ _ l0 a1_0 t572 t573 t574 _ ?side1 ?side2 A21.out).mono ?_); (case side1 => repeat (first | exact (Kd.C_below HR0.out HB.out) | (with_reducible refine Kd.C_alloc ?_ _) | (with_reducible refine Kd.C_drewN ?_ _) | (with_reducible refine Kd.C_drew ?_))); (case side2 => exact HC0.out); rintro e w41 ⟨rfl, hb⟩; refine ⟨_, rfl, ?_⟩; have n0_ := ak (Kd.R_below (by (with_reducible repeat (first | apply Kd.R_alloc | apply Kd.R_drewN | apply Kd.R_drew)); exact HO559.out) hb); have n1_ := ak (Kd.R_below (by (with_reducible repeat (first | apply Kd.R_alloc | apply Kd.R_drewN | apply Kd.R_drew)); exact HO563.out) hb); have n2_ := ak (blk_below (g := gb554) (o := .cells #[.int .i64 a1_0, .int .i64 a1_1] 24 (0, 0)) (by (with_reducible repeat (first | refine bN ?_ _ | refine bD ?_ | refine bA ?_ _)); exact BK554.out) hb); have n3_ := ak (below_step (by repeat (first | (with_reducible first | exact HB.out | apply wA | apply wN | apply wD | refine below_set ?_ GE554.out) | exact HB.out)) hb); clear HO559; clear HO563; clear BK554; clear HB; have HO559 := n0_; have HO563 := n1_; have BK554 := n2_; have HB := n3_; clear n0_ n1_ n2_ n3_; (try clear hb); (try clear hb2); (try clear hk); (try clear hi); have hcz42_0 : w41.cell? ⟨gb554, 0, none⟩ = some (.int .i64 a1_0) := (blk_cell BK554.out 0).trans rfl; have hcz42_1 : w41.cell? ⟨gb554, 1, none⟩ = some (.int .i64 a1_1) := (blk_cell BK554.out 1).trans rfl; have hfz42_0 := blk_frozen BK554.out 0; have hfz42_1 := blk_frozen BK554.out 1) | ((with_reducible refine gate_callee (f := 31) rfl ?_); refine goesL_ (some 97) rfl rfl Tryd.func31 (by kernel_rfl) rfl #[.slice A0 l0.length c0, .int .i64 a1_1, .int .i64 a2] rfl (by (try simp only [List.map_toArray, List.map_cons, List.map_nil]); first | done | rfl | (simp only [List.length_drop, List.length_take]; rfl)) ?_; (with_reducible refine (spans_At.calls kj3 _ _ l0 a1_1 a2 t575 t576 _ ?side1 ?side2 A22.out ⟨Sc.Tab.stay HT.out (by repeat (first | (with_reducible first | exact HB.out | apply wA | apply wN | apply wD) | exact HB.out | (refine below_set ?_ (by assumption)) | (refine below_set ?_ (Aside0.out (by assumption)))))⟩).mono ?_); (case side1 => repeat (first | exact (Kd.C_below HR0.out HB.out) | (with_reducible refine Kd.C_alloc ?_ _) | (with_reducible refine Kd.C_drewN ?_ _) | (with_reducible refine Kd.C_drew ?_))); (case side2 => exact HC0.out); rintro e w43 ⟨rfl, hb⟩; refine ⟨_, rfl, ?_⟩; have n0_ := ak (Kd.R_below (by (with_reducible repeat (first | apply Kd.R_alloc | apply Kd.R_drewN | apply Kd.R_drew)); exact HO559.out) hb); have n1_ := ak (Kd.R_below (by (with_reducible repeat (first | apply Kd.R_alloc | apply Kd.R_drewN | apply Kd.R_drew)); exact HO563.out) hb); have n2_ := ak (blk_below (g := gb554) (o := .cells #[.int .i64 a1_0, .int .i64 a1_1] 24 (0, 0)) (by (with_reducible repeat (first | refine bN ?_ _ | refine bD ?_ | refine bA ?_ _)); exact BK554.out) hb); have n3_ := ak (below_step (by repeat (first | (with_reducible first | exact HB.out | apply wA | apply wN | apply wD | refine below_set ?_ GE554.out) | exact HB.out)) hb); clear HO559; clear HO563; clear BK554; clear HB; have HO559 := n0_; have HO563 := n1_; have BK554 := n2_; have HB := n3_; clear n0_ n1_ n2_ n3_; (try clear hb); (try clear hb2); (try clear hk); (try clear hi); have hcz44_0 : w43.cell? ⟨gb554, 0, none⟩ = some (.int .i64 a1_0) := (blk_cell BK554.out 0).trans rfl; have hcz44_1 : w43.cell? ⟨gb554, 1, none⟩ = some (.int .i64 a1_1) := (blk_cell BK554.out 1).trans rfl; have hfz44_0 := blk_frozen BK554.out 0; have hfz44_1 := blk_frozen BK554.out 1) | ((with_reducible refine gate_callee (f := 32) rfl ?_); refine goesL_ (some 105) rfl rfl Tryd.func32 (by kernel_rfl) rfl #[.slice A0 l0.length c0, .int .i64 a1_1, .int .i64 a2] rfl (by (try simp only [List.map_toArray, List.map_cons, List.map_nil]); first | done | rfl | (simp only [List.length_drop, List.length_take]; rfl)) ?_; (with_reducible refine (mummerref03_At.calls kj3 _ _ l0 a1_1 a2 t577 t578 _ ?side1 ?side2 A23.out).mono ?_); (case side1 => repeat (first | exact (Kd.C_below HR0.out HB.out) | (with_reducible refine Kd.C_alloc ?_ _) | (with_reducible refine Kd.C_drewN ?_ _) | (with_reducible refine Kd.C_drew ?_))); (case side2 => exact HC0.out); rintro e w45 ⟨rfl, hb⟩; refine ⟨_, rfl, ?_⟩; have n0_ := ak (Kd.R_below (by (with_reducible repeat (first | apply Kd.R_alloc | apply Kd.R_drewN | apply Kd.R_drew)); exact HO559.out) hb); have n1_ := ak (Kd.R_below (by (with_reducible repeat (first | apply Kd.R_alloc | apply Kd.R_drewN | apply Kd.R_drew)); exact HO563.out) hb); have n2_ := ak (blk_below (g := gb554) (o := .cells #[.int .i64 a1_0, .int .i64 a1_1] 24 (0, 0)) (by (with_reducible repeat (first | refine bN ?_ _ | refine bD ?_ | refine bA ?_ _)); exact BK554.out) hb); have n3_ := ak (below_step (by repeat (first | (with_reducible first | exact HB.out | apply wA | apply wN | apply wD | refine below_set ?_ GE554.out) | exact HB.out)) hb); clear HO559; clear HO563; clear BK554; clear HB; have HO559 := n0_; have HO563 := n1_; have BK554 := n2_; have HB := n3_; clear n0_ n1_ n2_ n3_; (try clear hb); (try clear hb2); (try clear hk); (try clear hi)) | (go_at_call 12; (with_reducible refine (mummerlaw03_awake.calls kj3  t579 _ hrt A29.out ⟨Sc.Tab.stay HT.out (by repeat (first | (with_reducible first | exact HB.out | apply wA | apply wN | apply wD) | exact HB.out | (refine below_set ?_ (by assumption)) | (refine below_set ?_ (Aside0.out (by assumption)))))⟩).mono ?_); rintro e w46 ⟨rfl, hb⟩; have n0_ := ak (Kd.R_below (by (with_reducible repeat (first | apply Kd.R_alloc | apply Kd.R_drewN | apply Kd.R_drew)); exact HO559.out) hb); have n1_ := ak (Kd.R_below (by (with_reducible repeat (first | apply Kd.R_alloc | apply Kd.R_drewN | apply Kd.R_drew)); exact HO563.out) hb); have n2_ := ak (blk_below (g := gb554) (o := .cells #[.int .i64 a1_0, .int .i64 a1_1] 24 (0, 0)) (by (with_reducible repeat (first | refine bN ?_ _ | refine bD ?_ | refine bA ?_ _)); exact BK554.out) hb); have n3_ := ak (below_step (by repeat (first | (with_reducible first | exact HB.out | apply wA | apply wN | apply wD | refine below_set ?_ GE554.out) | exact HB.out)) hb); clear HO559; clear HO563; clear BK554; clear HB; have HO559 := n0_; have HO563 := n1_; have BK554 := n2_; have HB := n3_; clear n0_ n1_ n2_ n3_; (try clear hb); (try clear hb2); (try clear hk); (try clear hi)))
                          go_ret
                          exact ⟨by first | rfl | (simp [errW_none, errW_some] <;> rfl) | (simp [*, errW_none, errW_some] <;> rfl), by repeat (first | (with_reducible first | exact HB.out | apply wA | apply wN | apply wD | refine below_set ?_ GE554.out) | exact HB.out)⟩
                        · rw [if_neg c28] at H
                          have c28b0 : (t576 == t578) = false := beq_eq_false_iff_ne.mpr c28
                          have c28b1 : (t576 != t578) = true := bne_iff_ne.mpr c28
                          exact absurd ((Option.some.inj H).trans hrt.out) (by decide)
                      · rw [if_neg c27] at H
                        have c27b0 : (t575 == t577) = false := beq_eq_false_iff_ne.mpr c27
                        have c27b1 : (t575 != t577) = true := bne_iff_ne.mpr c27
                        exact absurd ((Option.some.inj H).trans hrt.out) (by decide)
                    · rw [if_neg c26] at H
                      have c26b0 : (t571 == t574) = false := beq_eq_false_iff_ne.mpr c26
                      have c26b1 : (t571 != t574) = true := bne_iff_ne.mpr c26
                      exact absurd ((Option.some.inj H).trans hrt.out) (by decide)
                  · rw [if_neg c25] at H
                    have c25b0 : (t570 == t573) = false := beq_eq_false_iff_ne.mpr c25
                    have c25b1 : (t570 != t573) = true := bne_iff_ne.mpr c25
                    exact absurd ((Option.some.inj H).trans hrt.out) (by decide)
                · rw [if_neg c24] at H
                  have c24b0 : (t569 == t572) = false := beq_eq_false_iff_ne.mpr c24
                  have c24b1 : (t569 != t572) = true := bne_iff_ne.mpr c24
                  exact absurd ((Option.some.inj H).trans hrt.out) (by decide)
              · rw [if_neg c19] at H
                have c19b0 : (t565 == t567) = false := beq_eq_false_iff_ne.mpr c19
                have c19b1 : (t565 != t567) = true := bne_iff_ne.mpr c19
                exact absurd ((Option.some.inj H).trans hrt.out) (by decide)
            · rw [if_neg c18] at H
              have c18b0 : (t564.toList == t566.toList) = false := beq_eq_false_iff_ne.mpr c18
              have c18b1 : (t564.toList != t566.toList) = true := bne_iff_ne.mpr c18
              exact absurd ((Option.some.inj H).trans hrt.out) (by decide)
          · rw [if_neg c17] at H
            have c17b0 : (t557 == t561) = false := beq_eq_false_iff_ne.mpr c17
            have c17b1 : (t557 != t561) = true := bne_iff_ne.mpr c17
            exact absurd ((Option.some.inj H).trans hrt.out) (by decide)
        · replace c16 := Bool.eq_false_iff.mpr c16
          subst c16
          have H1 : (some false) = some r := by rw [if_neg (show ¬ (false = true) by decide)] at H; exact H
          clear H
          have H := H1
          clear H1
          exact absurd ((Option.some.inj H).trans hrt.out) (by decide)
end Go.Proofs.YtnkfdobcmfdhfaaDoor.P
namespace Go.Proofs.YtnkfdobcmfdhfaaDoor.P
open Go.RowKit Go.Proofs.YtnkfdobcmfdhfaaDoorW.PrintWords Go.Proofs.YtnkfdobcmfdhfaaDoorW.PrintLast Sc
set_option linter.unusedVariables false
set_option linter.unusedSimpArgs false
set_option maxRecDepth 20000
theorem awake60 : mummerlaw03_awake.f 60 = some true := by decide +kernel
theorem awake_f (k : Nat) (h : 60 ≤ k) : mummerlaw03_awake.f k = some true := by
  induction h with
  | refl => exact awake60
  | step _ ih => exact mummerlaw03_awake.mono _ _ ih
end Go.Proofs.YtnkfdobcmfdhfaaDoor.P
