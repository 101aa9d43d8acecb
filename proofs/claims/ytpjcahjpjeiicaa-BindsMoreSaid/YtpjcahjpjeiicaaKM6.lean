import Derived.Test.YtpjcahjpjeiicaaPx0
import Derived.Test.YtpjcahjpjeiicaaPx2
import Derived.Test.YtpjcahjpjeiicaaPx10
import Derived.Test.YtpjcahjpjeiicaaPx12
import Derived.Test.YtpjcahjpjeiicaaPx18
import Derived.Test.YtpjcahjpjeiicaaKM4
import Derived.Test.YtpjcahjpjeiicaaKM5
namespace Go.Proofs.Ytpjcahjpjeiicaa.P
open Go.RowKit Go.Proofs.YtpjcahjpjeiicaaW.PrintWords Go.Proofs.YtpjcahjpjeiicaaW.PrintLast Go.Proofs.YtpjcahjpjeiicaaW.PrintMore
attribute [local go_sem] max2_int min2_int max_two min_two max_three min_three max_four min_four   -- for this text's walks alone
set_option linter.unusedVariables false
set_option linter.unusedSimpArgs false
abbrev q6_0 : Array Bool := #[Z,Z,Z,Z,Z,Z,Z,Z,Z,Z,Z,Z,Z]
abbrev q6_1 : Array Bool := #[Y,Z,Z,Z,Z,Z,Z,Z,Z,Z,Z,Z,Z]
abbrev q6_2 : Array Bool := #[Y,Y,Z,Z,Z,Z,Z,Z,Z,Z,Z,Z,Z]
abbrev q6_3 : Array Bool := #[Y,Y,Y,Z,Z,Z,Z,Z,Z,Z,Z,Z,Z]
abbrev q6_4 : Array Bool := #[Y,Y,Y,Y,Z,Z,Z,Z,Z,Z,Z,Z,Z]
abbrev q6_5 : Array Bool := #[Y,Y,Y,Y,Y,Z,Z,Z,Z,Z,Z,Z,Z]
abbrev q6_6 : Array Bool := #[Y,Y,Y,Y,Y,Y,Y,Y,Y,Z,Z,Z,Z]
abbrev q6_7 : Array Bool := #[Y,Y,Y,Y,Y,Y,Y,Y,Y,Y,Z,Z,Z]
abbrev q6_8 : Array Bool := #[Y,Y,Y,Y,Y,Y,Y,Y,Y,Y,Y,Z,Z]
abbrev q6_9 : Array Bool := #[Y,Y,Y,Y,Y,Y,Y,Y,Y,Y,Y,Y,Z]
abbrev q6_10 : Array Bool := #[Y,Y,Y,Y,Y,Y,Y,Y,Y,Y,Y,Y,Y]
abbrev q6_11 : Array Bool := #[Z,Z,Z,Z,Z,Z,Z,Z,Z,Z,Z,Z,Z,Z,Z,Z,Z,Z,Z,Z,Z,Z,Z,Z,Z,Z,Z,Z,Z,Z,Z,Z,Z,Z,Z,Z,Z,Z,Z,Z]
abbrev q6_12 : Array Bool := #[Y,Z,Z,Z,Z,Z,Z,Z,Z,Z,Z,Z,Z,Z,Z,Z,Z,Z,Z,Z,Z,Z,Z,Z,Z,Z,Z,Z,Z,Z,Z,Z,Z,Z,Z,Z,Z,Z,Z,Z]
abbrev q6_13 : Array Bool := #[Y,Y,Z,Z,Z,Z,Z,Z,Z,Z,Z,Z,Z,Z,Z,Z,Z,Z,Z,Z,Z,Z,Z,Z,Z,Z,Z,Z,Z,Z,Z,Z,Z,Z,Z,Z,Z,Z,Z,Z]
abbrev q6_14 : Array Bool := #[Y,Y,Y,Z,Z,Z,Z,Z,Z,Z,Z,Z,Z,Z,Z,Z,Z,Z,Z,Z,Z,Z,Z,Z,Z,Z,Z,Z,Z,Z,Z,Z,Z,Z,Z,Z,Z,Z,Z,Z]
abbrev q6_15 : Array Bool := #[Y,Y,Y,Y,Z,Z,Z,Z,Z,Z,Z,Z,Z,Z,Z,Z,Z,Z,Z,Z,Z,Z,Z,Z,Z,Z,Z,Z,Z,Z,Z,Z,Z,Z,Z,Z,Z,Z,Z,Z]
abbrev q6_16 : Array Bool := #[Y,Y,Y,Y,Y,Z,Z,Z,Z,Z,Z,Z,Z,Z,Z,Z,Z,Z,Z,Z,Z,Z,Z,Z,Z,Z,Z,Z,Z,Z,Z,Z,Z,Z,Z,Z,Z,Z,Z,Z]
abbrev q6_17 : Array Bool := #[Y,Y,Y,Y,Y,Y,Z,Z,Z,Z,Z,Z,Z,Z,Z,Z,Z,Z,Z,Z,Z,Z,Z,Z,Z,Z,Z,Z,Z,Z,Z,Z,Z,Z,Z,Z,Z,Z,Z,Z]
abbrev q6_18 : Array Bool := #[Y,Y,Y,Y,Y,Y,Z,Z,Z,Z,Y,Z,Z,Z,Z,Z,Z,Z,Z,Z,Z,Z,Z,Z,Z,Z,Z,Z,Z,Z,Z,Z,Z,Z,Z,Z,Z,Z,Z,Z]
abbrev q6_19 : Array Bool := #[Y,Y,Y,Y,Y,Y,Z,Z,Z,Z,Y,Y,Z,Z,Z,Z,Z,Z,Z,Z,Z,Z,Z,Z,Z,Z,Z,Z,Z,Z,Z,Z,Z,Z,Z,Z,Z,Z,Z,Z]
abbrev q6_20 : Array Bool := #[Y,Y,Y,Y,Y,Y,Z,Z,Z,Z,Y,Y,Y,Z,Z,Z,Z,Z,Z,Z,Z,Z,Z,Z,Z,Z,Z,Z,Z,Z,Z,Z,Z,Z,Z,Z,Z,Z,Z,Z]
abbrev q6_21 : Array Bool := #[Y,Y,Y,Y,Y,Y,Z,Z,Z,Z,Y,Y,Y,Y,Z,Z,Z,Z,Z,Z,Z,Z,Z,Z,Z,Z,Z,Z,Z,Z,Z,Z,Z,Z,Z,Z,Z,Z,Z,Z]
abbrev q6_22 : Array Bool := #[Y,Y,Y,Y,Y,Y,Y,Z,Z,Z,Y,Y,Y,Y,Z,Z,Z,Z,Z,Z,Z,Z,Z,Z,Z,Z,Z,Z,Z,Z,Z,Z,Z,Z,Z,Z,Z,Z,Z,Z]
abbrev q6_23 : Array Bool := #[Y,Y,Y,Y,Y,Y,Y,Y,Z,Z,Y,Y,Y,Y,Z,Z,Z,Z,Z,Z,Z,Z,Z,Z,Z,Z,Z,Z,Z,Z,Z,Z,Z,Z,Z,Z,Z,Z,Z,Z]
abbrev q6_24 : Array Bool := #[Y,Y,Y,Y,Y,Y,Y,Y,Y,Z,Y,Y,Y,Y,Z,Z,Z,Z,Z,Z,Z,Z,Z,Z,Z,Z,Z,Z,Z,Z,Z,Z,Z,Z,Z,Z,Z,Z,Z,Z]
abbrev q6_25 : Array Bool := #[Y,Y,Y,Y,Y,Y,Y,Y,Y,Y,Y,Y,Y,Y,Z,Z,Z,Z,Z,Z,Z,Z,Z,Z,Z,Z,Z,Z,Z,Z,Z,Z,Z,Z,Z,Z,Z,Z,Z,Z]
abbrev q6_26 : Array Bool := #[Y,Y,Y,Y,Y,Y,Y,Y,Y,Y,Y,Y,Y,Y,Y,Z,Z,Z,Z,Z,Z,Z,Z,Z,Z,Z,Z,Z,Z,Z,Z,Z,Z,Z,Z,Z,Z,Z,Z,Z]
abbrev q6_27 : Array Bool := #[Y,Y,Y,Y,Y,Y,Y,Y,Y,Y,Y,Y,Y,Y,Y,Y,Z,Z,Z,Z,Z,Z,Z,Z,Z,Z,Z,Z,Z,Z,Z,Z,Z,Z,Z,Z,Z,Z,Z,Z]
abbrev q6_28 : Array Bool := #[Y,Y,Y,Y,Y,Y,Y,Y,Y,Y,Y,Y,Y,Y,Y,Y,Y,Z,Z,Z,Z,Z,Z,Z,Z,Z,Z,Z,Z,Z,Z,Z,Z,Z,Z,Z,Z,Z,Z,Z]
abbrev q6_29 : Array Bool := #[Y,Y,Y,Y,Y,Y,Y,Y,Y,Y,Y,Y,Y,Y,Y,Y,Y,Y,Z,Z,Z,Z,Z,Z,Z,Z,Z,Z,Z,Z,Z,Z,Z,Z,Z,Z,Z,Z,Z,Z]
abbrev q6_30 : Array Bool := #[Y,Y,Y,Y,Y,Y,Y,Y,Y,Y,Y,Y,Y,Y,Y,Y,Y,Y,Y,Z,Z,Z,Z,Z,Z,Z,Z,Z,Z,Z,Z,Z,Z,Z,Z,Z,Z,Z,Z,Z]
abbrev q6_31 : Array Bool := #[Y,Y,Y,Y,Y,Y,Y,Y,Y,Y,Y,Y,Y,Y,Y,Y,Y,Y,Y,Y,Z,Z,Z,Z,Z,Z,Z,Z,Z,Z,Z,Z,Z,Z,Z,Z,Z,Z,Z,Z]
abbrev q6_32 : Array Bool := #[Y,Y,Y,Y,Y,Y,Y,Y,Y,Y,Y,Y,Y,Y,Y,Y,Y,Y,Y,Y,Y,Z,Z,Z,Z,Z,Z,Z,Z,Z,Z,Z,Z,Z,Z,Z,Z,Z,Z,Z]
abbrev q6_33 : Array Bool := #[Y,Y,Y,Y,Y,Y,Y,Y,Y,Y,Y,Y,Y,Y,Y,Y,Y,Y,Y,Y,Y,Y,Z,Z,Z,Z,Z,Z,Z,Z,Z,Z,Z,Z,Z,Z,Z,Z,Z,Z]
abbrev q6_34 : Array Bool := #[Y,Y,Y,Y,Y,Y,Y,Y,Y,Y,Y,Y,Y,Y,Y,Y,Y,Y,Y,Y,Y,Y,Y,Z,Z,Z,Z,Z,Z,Z,Z,Z,Z,Z,Z,Z,Z,Z,Z,Z]
abbrev q6_35 : Array Bool := #[Y,Y,Y,Y,Y,Y,Y,Y,Y,Y,Y,Y,Y,Y,Y,Y,Y,Y,Y,Y,Y,Y,Y,Y,Z,Z,Z,Z,Z,Z,Z,Z,Z,Z,Z,Z,Z,Z,Z,Z]
abbrev q6_36 : Array Bool := #[Y,Y,Y,Y,Y,Y,Y,Y,Y,Y,Y,Y,Y,Y,Y,Y,Y,Y,Y,Y,Y,Y,Y,Y,Y,Z,Z,Z,Z,Z,Z,Z,Z,Z,Z,Z,Z,Z,Z,Z]
abbrev q6_37 : Array Bool := #[Y,Y,Y,Y,Y,Y,Y,Y,Y,Y,Y,Y,Y,Y,Y,Y,Y,Y,Y,Y,Y,Y,Y,Y,Y,Y,Z,Z,Z,Z,Z,Z,Z,Z,Z,Z,Z,Z,Z,Z]
abbrev q6_38 : Array Bool := #[Y,Y,Y,Y,Y,Y,Y,Y,Y,Y,Y,Y,Y,Y,Y,Y,Y,Y,Y,Y,Y,Y,Y,Y,Y,Y,Y,Z,Z,Z,Z,Z,Z,Z,Z,Z,Z,Z,Z,Z]
abbrev q6_39 : Array Bool := #[Y,Y,Y,Y,Y,Y,Y,Y,Y,Y,Y,Y,Y,Y,Y,Y,Y,Y,Y,Y,Y,Y,Y,Y,Y,Y,Y,Y,Z,Z,Z,Z,Z,Z,Z,Z,Z,Z,Z,Z]
abbrev q6_40 : Array Bool := #[Y,Y,Y,Y,Y,Y,Y,Y,Y,Y,Y,Y,Y,Y,Y,Y,Y,Y,Y,Y,Y,Y,Y,Y,Y,Y,Y,Y,Y,Z,Z,Z,Z,Z,Z,Z,Z,Z,Z,Z]
abbrev q6_41 : Array Bool := #[Y,Y,Y,Y,Y,Y,Y,Y,Y,Y,Y,Y,Y,Y,Y,Y,Y,Y,Y,Y,Y,Y,Y,Y,Y,Y,Y,Y,Y,Y,Z,Z,Z,Z,Z,Z,Z,Z,Z,Z]
abbrev q6_42 : Array Bool := #[Y,Y,Y,Y,Y,Y,Y,Y,Y,Y,Y,Y,Y,Y,Y,Y,Y,Y,Y,Y,Y,Y,Y,Y,Y,Y,Y,Y,Y,Y,Y,Z,Z,Z,Z,Z,Z,Z,Z,Z]
abbrev q6_43 : Array Bool := #[Y,Y,Y,Y,Y,Y,Y,Y,Y,Y,Y,Y,Y,Y,Y,Y,Y,Y,Y,Y,Y,Y,Y,Y,Y,Y,Y,Y,Y,Y,Y,Y,Z,Z,Z,Z,Z,Z,Z,Z]
abbrev q6_44 : Array Bool := #[Y,Y,Y,Y,Y,Y,Y,Y,Y,Y,Y,Y,Y,Y,Y,Y,Y,Y,Y,Y,Y,Y,Y,Y,Y,Y,Y,Y,Y,Y,Y,Y,Y,Z,Z,Z,Z,Z,Z,Z]
abbrev q6_45 : Array Bool := #[Y,Y,Y,Y,Y,Y,Y,Y,Y,Y,Y,Y,Y,Y,Y,Y,Y,Y,Y,Y,Y,Y,Y,Y,Y,Y,Y,Y,Y,Y,Y,Y,Y,Y,Z,Z,Z,Z,Z,Z]
abbrev q6_46 : Array Bool := #[Y,Y,Y,Y,Y,Y,Y,Y,Y,Y,Y,Y,Y,Y,Y,Y,Y,Y,Y,Y,Y,Y,Y,Y,Y,Y,Y,Y,Y,Y,Y,Y,Y,Y,Y,Z,Z,Z,Z,Z]
abbrev q6_47 : Array Bool := #[Y,Y,Y,Y,Y,Y,Y,Y,Y,Y,Y,Y,Y,Y,Y,Y,Y,Y,Y,Y,Y,Y,Y,Y,Y,Y,Y,Y,Y,Y,Y,Y,Y,Y,Y,Y,Z,Z,Z,Z]
abbrev q6_48 : Array Bool := #[Y,Y,Y,Y,Y,Y,Y,Y,Y,Y,Y,Y,Y,Y,Y,Y,Y,Y,Y,Y,Y,Y,Y,Y,Y,Y,Y,Y,Y,Y,Y,Y,Y,Y,Y,Y,Y,Z,Z,Z]
abbrev q6_49 : Array Bool := #[Y,Y,Y,Y,Y,Y,Y,Y,Y,Y,Y,Y,Y,Y,Y,Y,Y,Y,Y,Y,Y,Y,Y,Y,Y,Y,Y,Y,Y,Y,Y,Y,Y,Y,Y,Y,Y,Y,Z,Z]
abbrev q6_50 : Array Bool := #[Y,Y,Y,Y,Y,Y,Y,Y,Y,Y,Y,Y,Y,Y,Y,Y,Y,Y,Y,Y,Y,Y,Y,Y,Y,Y,Y,Y,Y,Y,Y,Y,Y,Y,Y,Y,Y,Y,Y,Z]
abbrev q6_51 : Array Bool := #[Y,Y,Y,Y,Y,Y,Y,Y,Y,Y,Y,Y,Y,Y,Y,Y,Y,Y,Y,Y,Y,Y,Y,Y,Y,Y,Y,Y,Y,Y,Y,Y,Y,Y,Y,Y,Y,Y,Y,Y]
mutual
def mummerlaw11_BindsMore.j0 : Nat → List (S24) → ByteArray → ByteArray → Int → List Int → List Int → Int → Bool → Option (Bool)
 | 0, _, _, _, _, _, _, _, _ => none
 | k + 1, x0, x1, x7, x8, x9, x10, x11, x60 => if x60 = true then (if x8 = x11 then ((mummerlaw11_awake.f k).bind fun t465 => (some t465)) else (some false)) else (mummerlaw11_BindsMore.l0 k x0 x1 x7 x9 x10 0)
def mummerlaw11_BindsMore.l0 : Nat → List (S24) → ByteArray → ByteArray → List Int → List Int → Int → Option (Bool)
 | 0, _, _, _, _, _, _ => none
 | k + 1, x0, x1, x7, x9, x10, x12 => if x12 < (x9.length : Int) then (mummerlaw11_BindsMore.l1 k x0 x1 x7 x9 x10 x12 false 0) else (mummerlaw11_BindsMore.l2 k x0 x1 x7 x10 true 0)
def mummerlaw11_BindsMore.l1 : Nat → List (S24) → ByteArray → ByteArray → List Int → List Int → Int → Bool → Int → Option (Bool)
 | 0, _, _, _, _, _, _, _, _ => none
 | k + 1, x0, x1, x7, x9, x10, x12, x13, x14 => if x14 < (x10.length : Int) then (if x13 = true then (mummerlaw11_BindsMore.l1 k x0 x1 x7 x9 x10 x12 true (wrap64 (x14 + 1))) else (if 0 ≤ x12 then (if x12 < (x9.length : Int) then (if 0 ≤ x14 then (mummerlaw11_BindsMore.l1 k x0 x1 x7 x9 x10 x12 ((rd x9 x12) == (rd x10 x14)) (wrap64 (x14 + 1))) else (none)) else (none)) else (none))) else (if x13 = true then (mummerlaw11_BindsMore.l0 k x0 x1 x7 x9 x10 (wrap64 (x12 + 1))) else (some false))
def mummerlaw11_BindsMore.l2 : Nat → List (S24) → ByteArray → ByteArray → List Int → Bool → Int → Option (Bool)
 | 0, _, _, _, _, _, _ => none
 | k + 1, x0, x1, x7, x10, x15, x16 => if x16 < (x10.length : Int) then (mummerlaw11_BindsMore.l3 k x0 x1 x7 x10 x15 x16 0) else ((binds_Resolve.f k x0 x1 x7).bind fun bt468 => (if x15 = true then (if bt468.2 = 0 then (if (x10.length : Int) > 0 then ((mummerlaw11_awake.f k).bind fun t470 => (some t470)) else (if bt468.2 = 10 then (if (x10.length : Int) = 0 then ((mummerlaw11_awake.f k).bind fun t471 => (some t471)) else (some false)) else (some false))) else (if bt468.2 = 10 then (if (x10.length : Int) = 0 then ((mummerlaw11_awake.f k).bind fun t472 => (some t472)) else (some false)) else (some false))) else ((mummerlaw11_awake.f k).bind fun t473 => (some t473))))
def mummerlaw11_BindsMore.l3 : Nat → List (S24) → ByteArray → ByteArray → List Int → Bool → Int → Int → Option (Bool)
 | 0, _, _, _, _, _, _, _ => none
 | k + 1, x0, x1, x7, x10, x15, x16, x17 => if x17 < x16 then (if 0 ≤ x16 then (if x16 < (x10.length : Int) then (if (rd x10 x16) < 0 then (some false) else (if (rd x10 x16) ≥ (x0.length : Int) then (some false) else (if 0 ≤ x17 then (if x17 < (x10.length : Int) then (if (rd x10 x17) < 0 then (some false) else (if (rd x10 x17) ≥ (x0.length : Int) then (some false) else (if x15 = true then (if 0 ≤ (rd x10 x16) then (if (rd x10 x16) < (x0.length : Int) then (if 0 ≤ (rd x10 x17) then (if (rd x10 x17) < (x0.length : Int) then ((mummerlaw11_sub.f k ((rd_T24 x0 (rd x10 x16)).f1) ((rd_T24 x0 (rd x10 x17)).f1)).bind fun t482 => (if t482 = true then (mummerlaw11_BindsMore.l3 k x0 x1 x7 x10 true x16 (wrap64 (x17 + 1))) else ((mummerlaw11_sub.f k ((rd_T24 x0 (rd x10 x17)).f1) ((rd_T24 x0 (rd x10 x16)).f1)).bind fun t487 => (mummerlaw11_BindsMore.l3 k x0 x1 x7 x10 t487 x16 (wrap64 (x17 + 1)))))) else (none)) else (none)) else (none)) else (none)) else (mummerlaw11_BindsMore.l3 k x0 x1 x7 x10 false x16 (wrap64 (x17 + 1)))))) else (none)) else (none)))) else (none)) else (none)) else (mummerlaw11_BindsMore.l2 k x0 x1 x7 x10 x15 (wrap64 (x16 + 1)))
end
def mummerlaw11_BindsMore.f (k : Nat) (l0 : List (S24)) (a1 : ByteArray) (a2_0 : ByteArray) (a2_1 : ByteArray) : Option (Bool) := (mummerlaw11_far.f k l0 (([a1, a2_0, a2_1] : List ByteArray))).bind fun t452 => (if t452 = true then ((mummerlaw11_awake.f k).bind fun t453 => (some t453)) else ((mummerref09_Union.f k a2_0 a2_1).bind fun bt454 => (if bt454.2 = 0 then ((binds_Candidates.f k l0 a1 a2_0).bind fun bt457 => ((binds_Candidates.f k l0 a1 bt454.1).bind fun bt461 => (if bt457.2 = 0 then (mummerlaw11_BindsMore.j0 k l0 a1 bt454.1 bt457.2 bt457.1 bt461.1 bt461.2 (bt461.2 != 0)) else (mummerlaw11_BindsMore.j0 k l0 a1 bt454.1 bt457.2 bt457.1 bt461.1 bt461.2 true)))) else ((mummerlaw11_awake.f k).bind fun t456 => (some t456)))))
theorem mummerlaw11_BindsMore.mono_l : ∀ k, (∀ y0 y1 y2 y3 y4 y5 y6 y7, LeO (mummerlaw11_BindsMore.j0 k y0 y1 y2 y3 y4 y5 y6 y7) (mummerlaw11_BindsMore.j0 (k + 1) y0 y1 y2 y3 y4 y5 y6 y7)) ∧ (∀ y0 y1 y2 y3 y4 y5, LeO (mummerlaw11_BindsMore.l0 k y0 y1 y2 y3 y4 y5) (mummerlaw11_BindsMore.l0 (k + 1) y0 y1 y2 y3 y4 y5)) ∧ (∀ y0 y1 y2 y3 y4 y5 y6 y7, LeO (mummerlaw11_BindsMore.l1 k y0 y1 y2 y3 y4 y5 y6 y7) (mummerlaw11_BindsMore.l1 (k + 1) y0 y1 y2 y3 y4 y5 y6 y7)) ∧ (∀ y0 y1 y2 y3 y4 y5, LeO (mummerlaw11_BindsMore.l2 k y0 y1 y2 y3 y4 y5) (mummerlaw11_BindsMore.l2 (k + 1) y0 y1 y2 y3 y4 y5)) ∧ (∀ y0 y1 y2 y3 y4 y5 y6, LeO (mummerlaw11_BindsMore.l3 k y0 y1 y2 y3 y4 y5 y6) (mummerlaw11_BindsMore.l3 (k + 1) y0 y1 y2 y3 y4 y5 y6))
 | 0 => ⟨fun _ _ _ _ _ _ _ _ r h => by simp [mummerlaw11_BindsMore.j0] at h, fun _ _ _ _ _ _ r h => by simp [mummerlaw11_BindsMore.l0] at h, fun _ _ _ _ _ _ _ _ r h => by simp [mummerlaw11_BindsMore.l1] at h, fun _ _ _ _ _ _ r h => by simp [mummerlaw11_BindsMore.l2] at h, fun _ _ _ _ _ _ _ r h => by simp [mummerlaw11_BindsMore.l3] at h⟩
 | k + 1 => by
  obtain ⟨ih0, ih1, ih2, ih3, ih4⟩ := mummerlaw11_BindsMore.mono_l k
  refine ⟨?_, ?_, ?_, ?_, ?_⟩
  ·intro y0 y1 y2 y3 y4 y5 y6 y7
   unfold mummerlaw11_BindsMore.j0
   repeat' first
   | (with_reducible exact ih0 _ _ _ _ _ _ _ _)
   | (with_reducible exact ih1 _ _ _ _ _ _)
   | (with_reducible exact ih2 _ _ _ _ _ _ _ _)
   | (with_reducible exact ih3 _ _ _ _ _ _)
   | (with_reducible exact ih4 _ _ _ _ _ _ _)
   | (with_reducible exact binds_Candidates.mono _ _ _ _)
   | (with_reducible exact binds_Resolve.mono _ _ _ _)
   | (with_reducible exact mummerlaw11_awake.mono _)
   | (with_reducible exact mummerlaw11_far.mono _ _ _)
   | (with_reducible exact mummerlaw11_sub.mono _ _ _)
   | (with_reducible exact mummerref09_Union.mono _ _ _)
   | (with_reducible exact LeO.refl _)
   | (with_reducible exact LeO.none _)
   | (with_reducible refine LeO.ite ?_ ?_)
   | (with_reducible refine LeO.bind ?_ (fun _ => ?_))
   | exact ih0 _ _ _ _ _ _ _ _
   | exact ih1 _ _ _ _ _ _
   | exact ih2 _ _ _ _ _ _ _ _
   | exact ih3 _ _ _ _ _ _
   | exact ih4 _ _ _ _ _ _ _
   | exact binds_Candidates.mono _ _ _ _
   | exact binds_Resolve.mono _ _ _ _
   | exact mummerlaw11_awake.mono _
   | exact mummerlaw11_far.mono _ _ _
   | exact mummerlaw11_sub.mono _ _ _
   | exact mummerref09_Union.mono _ _ _
   | exact LeO.none _
   | refine LeO.ite ?_ ?_
   | refine LeO.bind ?_ (fun _ => ?_)
  ·intro y0 y1 y2 y3 y4 y5
   unfold mummerlaw11_BindsMore.l0
   repeat' first
   | (with_reducible exact ih0 _ _ _ _ _ _ _ _)
   | (with_reducible exact ih1 _ _ _ _ _ _)
   | (with_reducible exact ih2 _ _ _ _ _ _ _ _)
   | (with_reducible exact ih3 _ _ _ _ _ _)
   | (with_reducible exact ih4 _ _ _ _ _ _ _)
   | (with_reducible exact binds_Candidates.mono _ _ _ _)
   | (with_reducible exact binds_Resolve.mono _ _ _ _)
   | (with_reducible exact mummerlaw11_awake.mono _)
   | (with_reducible exact mummerlaw11_far.mono _ _ _)
   | (with_reducible exact mummerlaw11_sub.mono _ _ _)
   | (with_reducible exact mummerref09_Union.mono _ _ _)
   | (with_reducible exact LeO.refl _)
   | (with_reducible exact LeO.none _)
   | (with_reducible refine LeO.ite ?_ ?_)
   | (with_reducible refine LeO.bind ?_ (fun _ => ?_))
   | exact ih0 _ _ _ _ _ _ _ _
   | exact ih1 _ _ _ _ _ _
   | exact ih2 _ _ _ _ _ _ _ _
   | exact ih3 _ _ _ _ _ _
   | exact ih4 _ _ _ _ _ _ _
   | exact binds_Candidates.mono _ _ _ _
   | exact binds_Resolve.mono _ _ _ _
   | exact mummerlaw11_awake.mono _
   | exact mummerlaw11_far.mono _ _ _
   | exact mummerlaw11_sub.mono _ _ _
   | exact mummerref09_Union.mono _ _ _
   | exact LeO.none _
   | refine LeO.ite ?_ ?_
   | refine LeO.bind ?_ (fun _ => ?_)
  ·intro y0 y1 y2 y3 y4 y5 y6 y7
   unfold mummerlaw11_BindsMore.l1
   repeat' first
   | (with_reducible exact ih0 _ _ _ _ _ _ _ _)
   | (with_reducible exact ih1 _ _ _ _ _ _)
   | (with_reducible exact ih2 _ _ _ _ _ _ _ _)
   | (with_reducible exact ih3 _ _ _ _ _ _)
   | (with_reducible exact ih4 _ _ _ _ _ _ _)
   | (with_reducible exact binds_Candidates.mono _ _ _ _)
   | (with_reducible exact binds_Resolve.mono _ _ _ _)
   | (with_reducible exact mummerlaw11_awake.mono _)
   | (with_reducible exact mummerlaw11_far.mono _ _ _)
   | (with_reducible exact mummerlaw11_sub.mono _ _ _)
   | (with_reducible exact mummerref09_Union.mono _ _ _)
   | (with_reducible exact LeO.refl _)
   | (with_reducible exact LeO.none _)
   | (with_reducible refine LeO.ite ?_ ?_)
   | (with_reducible refine LeO.bind ?_ (fun _ => ?_))
   | exact ih0 _ _ _ _ _ _ _ _
   | exact ih1 _ _ _ _ _ _
   | exact ih2 _ _ _ _ _ _ _ _
   | exact ih3 _ _ _ _ _ _
   | exact ih4 _ _ _ _ _ _ _
   | exact binds_Candidates.mono _ _ _ _
   | exact binds_Resolve.mono _ _ _ _
   | exact mummerlaw11_awake.mono _
   | exact mummerlaw11_far.mono _ _ _
   | exact mummerlaw11_sub.mono _ _ _
   | exact mummerref09_Union.mono _ _ _
   | exact LeO.none _
   | refine LeO.ite ?_ ?_
   | refine LeO.bind ?_ (fun _ => ?_)
  ·intro y0 y1 y2 y3 y4 y5
   unfold mummerlaw11_BindsMore.l2
   repeat' first
   | (with_reducible exact ih0 _ _ _ _ _ _ _ _)
   | (with_reducible exact ih1 _ _ _ _ _ _)
   | (with_reducible exact ih2 _ _ _ _ _ _ _ _)
   | (with_reducible exact ih3 _ _ _ _ _ _)
   | (with_reducible exact ih4 _ _ _ _ _ _ _)
   | (with_reducible exact binds_Candidates.mono _ _ _ _)
   | (with_reducible exact binds_Resolve.mono _ _ _ _)
   | (with_reducible exact mummerlaw11_awake.mono _)
   | (with_reducible exact mummerlaw11_far.mono _ _ _)
   | (with_reducible exact mummerlaw11_sub.mono _ _ _)
   | (with_reducible exact mummerref09_Union.mono _ _ _)
   | (with_reducible exact LeO.refl _)
   | (with_reducible exact LeO.none _)
   | (with_reducible refine LeO.ite ?_ ?_)
   | (with_reducible refine LeO.bind ?_ (fun _ => ?_))
   | exact ih0 _ _ _ _ _ _ _ _
   | exact ih1 _ _ _ _ _ _
   | exact ih2 _ _ _ _ _ _ _ _
   | exact ih3 _ _ _ _ _ _
   | exact ih4 _ _ _ _ _ _ _
   | exact binds_Candidates.mono _ _ _ _
   | exact binds_Resolve.mono _ _ _ _
   | exact mummerlaw11_awake.mono _
   | exact mummerlaw11_far.mono _ _ _
   | exact mummerlaw11_sub.mono _ _ _
   | exact mummerref09_Union.mono _ _ _
   | exact LeO.none _
   | refine LeO.ite ?_ ?_
   | refine LeO.bind ?_ (fun _ => ?_)
  ·intro y0 y1 y2 y3 y4 y5 y6
   unfold mummerlaw11_BindsMore.l3
   repeat' first
   | (with_reducible exact ih0 _ _ _ _ _ _ _ _)
   | (with_reducible exact ih1 _ _ _ _ _ _)
   | (with_reducible exact ih2 _ _ _ _ _ _ _ _)
   | (with_reducible exact ih3 _ _ _ _ _ _)
   | (with_reducible exact ih4 _ _ _ _ _ _ _)
   | (with_reducible exact binds_Candidates.mono _ _ _ _)
   | (with_reducible exact binds_Resolve.mono _ _ _ _)
   | (with_reducible exact mummerlaw11_awake.mono _)
   | (with_reducible exact mummerlaw11_far.mono _ _ _)
   | (with_reducible exact mummerlaw11_sub.mono _ _ _)
   | (with_reducible exact mummerref09_Union.mono _ _ _)
   | (with_reducible exact LeO.refl _)
   | (with_reducible exact LeO.none _)
   | (with_reducible refine LeO.ite ?_ ?_)
   | (with_reducible refine LeO.bind ?_ (fun _ => ?_))
   | exact ih0 _ _ _ _ _ _ _ _
   | exact ih1 _ _ _ _ _ _
   | exact ih2 _ _ _ _ _ _ _ _
   | exact ih3 _ _ _ _ _ _
   | exact ih4 _ _ _ _ _ _ _
   | exact binds_Candidates.mono _ _ _ _
   | exact binds_Resolve.mono _ _ _ _
   | exact mummerlaw11_awake.mono _
   | exact mummerlaw11_far.mono _ _ _
   | exact mummerlaw11_sub.mono _ _ _
   | exact mummerref09_Union.mono _ _ _
   | exact LeO.none _
   | refine LeO.ite ?_ ?_
   | refine LeO.bind ?_ (fun _ => ?_)
theorem mummerlaw11_BindsMore.mono : ∀ a0 a1 a2 a3 k, LeO (mummerlaw11_BindsMore.f k a0 a1 a2 a3) (mummerlaw11_BindsMore.f (k + 1) a0 a1 a2 a3) := by
 intro a0 a1 a2 a3 k
 obtain ⟨ih0, ih1, ih2, ih3, ih4⟩ := mummerlaw11_BindsMore.mono_l k
 unfold mummerlaw11_BindsMore.f
 repeat' first
   | (with_reducible exact ih0 _ _ _ _ _ _ _ _)
   | (with_reducible exact ih1 _ _ _ _ _ _)
   | (with_reducible exact ih2 _ _ _ _ _ _ _ _)
   | (with_reducible exact ih3 _ _ _ _ _ _)
   | (with_reducible exact ih4 _ _ _ _ _ _ _)
   | (with_reducible exact binds_Candidates.mono _ _ _ _)
   | (with_reducible exact binds_Resolve.mono _ _ _ _)
   | (with_reducible exact mummerlaw11_awake.mono _)
   | (with_reducible exact mummerlaw11_far.mono _ _ _)
   | (with_reducible exact mummerlaw11_sub.mono _ _ _)
   | (with_reducible exact mummerref09_Union.mono _ _ _)
   | (with_reducible exact LeO.refl _)
   | (with_reducible exact LeO.none _)
   | (with_reducible refine LeO.ite ?_ ?_)
   | (with_reducible refine LeO.bind ?_ (fun _ => ?_))
   | exact ih0 _ _ _ _ _ _ _ _
   | exact ih1 _ _ _ _ _ _
   | exact ih2 _ _ _ _ _ _ _ _
   | exact ih3 _ _ _ _ _ _
   | exact ih4 _ _ _ _ _ _ _
   | exact binds_Candidates.mono _ _ _ _
   | exact binds_Resolve.mono _ _ _ _
   | exact mummerlaw11_awake.mono _
   | exact mummerlaw11_far.mono _ _ _
   | exact mummerlaw11_sub.mono _ _ _
   | exact mummerref09_Union.mono _ _ _
   | exact LeO.none _
   | refine LeO.ite ?_ ?_
   | refine LeO.bind ?_ (fun _ => ?_)
def mummerlaw11_BindsMore.T17 : Bool × List (List Nat × List Nat) := (true, [([], []), ([0], [0]), ([1], [1]), ([1], [1]), ([2, 3, 1], [1, 2, 3]), ([4, 1], [1, 4]), ([1], [1]), ([1], [1]), ([6, 7, 1], [1, 6, 7]), ([8, 1], [1, 8]), ([5, 9, 1], [1, 5, 9]), ([1, 10], [1, 10]), ([11, 1, 0, 1, 2, 3, 4, 5, 6, 7, 8, 9, 10, 11], [0, 11])])
def mummerlaw11_BindsMore.B17 : List Nat := [0, 1, 3, 3, 15, 31, 3, 3, 195, 451, 1023, 2047, 4095]
theorem mummerlaw11_BindsMore.tab17 : rtab .any (opsOf Try.f6 17) = mummerlaw11_BindsMore.T17 := by kernel_rfl
theorem mummerlaw11_BindsMore.bits17 : waitsOk mummerlaw11_BindsMore.T17.2 mummerlaw11_BindsMore.B17 = true := by kernel_rfl
def mummerlaw11_BindsMore.T29 : Bool × List (List Nat × List Nat) := (true, [([], []), ([0], [0]), ([1], [1]), ([1], [1]), ([1], [1]), ([3, 4, 1], [1, 3, 4]), ([5, 1], [1, 5]), ([2, 6, 1], [1, 2, 6]), ([7, 1], [1, 7]), ([8, 1], [1, 8]), ([1], [1]), ([1], [1]), ([1], [1]), ([11, 12, 1], [1, 11, 12]), ([13, 1], [1, 13]), ([10, 14, 1], [1, 10, 14]), ([15, 1], [1, 15]), ([16, 1], [1, 16]), ([9, 17, 1, 1], [1, 9, 17]), ([18, 18, 1], [1, 18]), ([19], [19]), ([19], [19]), ([19], [19]), ([21, 22, 19], [19, 21, 22]), ([23, 19], [19, 23]), ([20, 24, 19], [19, 20, 24]), ([25, 19], [19, 25]), ([26, 19], [19, 26]), ([19], [19]), ([19], [19]), ([19], [19]), ([29, 30, 19], [19, 29, 30]), ([31, 19], [19, 31]), ([28, 32, 19], [19, 28, 32]), ([33, 19], [19, 33]), ([34, 19], [19, 34]), ([27, 35, 19, 19], [19, 27, 35]), ([19, 36, 1], [1, 19, 36]), ([1, 37], [1, 37]), ([38, 36, 0, 1, 2, 3, 4, 5, 6, 7, 8, 9, 10, 11, 12, 13, 14, 15, 16, 17, 18, 19, 20, 21, 22, 23, 24, 25, 26, 27, 28, 29, 30, 31, 32, 33, 34, 35, 36, 37, 38], [0, 38])])
def mummerlaw11_BindsMore.B29 : List Nat := [0, 1, 3, 3, 3, 27, 59, 127, 255, 511, 3, 3, 3, 6147, 14339, 31747, 64515, 130051, 262143, 524287, 1048575, 1048575, 1048575, 7340031, 15728639, 33554431, 67108863, 134217727, 1048575, 1048575, 1048575, 1611661311, 3759144959, 8322547711, 16912482303, 34092351487, 68719476735, 137438953471, 274877906943, 549755813887]
theorem mummerlaw11_BindsMore.tab29 : rtab .any (opsOf Try.f6 29) = mummerlaw11_BindsMore.T29 := by kernel_rfl
theorem mummerlaw11_BindsMore.bits29 : waitsOk mummerlaw11_BindsMore.T29.2 mummerlaw11_BindsMore.B29 = true := by kernel_rfl
set_option maxHeartbeats 8000000 in
set_option maxRecDepth 100000 in
theorem mummerlaw11_BindsMore.calls (k : Nat) (A0 : Option Addr) (c0 : Nat) (l0 : List (S24)) (a1 : ByteArray) (a2_0 : ByteArray) (a2_1 : ByteArray) (r : Bool) (w : World) (hr0 : Kd.C k24 w A0 l0.length l0) (hc0 : l0.length ≤ c0) (hrt : Aside0 (r = true)) (h : mummerlaw11_BindsMore.f k l0 a1 a2_0 a2_1 = some r) :
  Calls Try.prog 6 #[.slice A0 l0.length c0, .string a1, .agg #[.string a2_0, .string a2_1]] w fun e w' => e = .returned (.bool r) ∧ Below w.heap.size w w' := by
 have hu41 := Try.underlying41
 have HR0 := ak hr0
 have HC0 := ak hc0
 clear hr0 hc0
 have HB := ak (Below.refl w.heap.size w)
 have H : ((mummerlaw11_far.f k l0 (([a1, a2_0, a2_1] : List ByteArray))).bind fun t452 => (if t452 = true then ((mummerlaw11_awake.f k).bind fun t453 => (some t453)) else ((mummerref09_Union.f k a2_0 a2_1).bind fun bt454 => (if bt454.2 = 0 then ((binds_Candidates.f k l0 a1 a2_0).bind fun bt457 => ((binds_Candidates.f k l0 a1 bt454.1).bind fun bt461 => (if bt457.2 = 0 then (mummerlaw11_BindsMore.j0 k l0 a1 bt454.1 bt457.2 bt457.1 bt461.1 bt461.2 (bt461.2 != 0)) else (mummerlaw11_BindsMore.j0 k l0 a1 bt454.1 bt457.2 bt457.1 bt461.1 bt461.2 true)))) else ((mummerlaw11_awake.f k).bind fun t456 => (some t456)))))) = some r := h
 clear h
 obtain ⟨y449, hy449⟩ : ∃ y_ : List ByteArray, y_ = (([a1, a2_0, a2_1] : List ByteArray)) := ⟨_, rfl⟩
 replace H : ((mummerlaw11_far.f k l0 y449).bind fun t452 => (if t452 = true then ((mummerlaw11_awake.f k).bind fun t453 => (some t453)) else ((mummerref09_Union.f k a2_0 a2_1).bind fun bt454 => (if bt454.2 = 0 then ((binds_Candidates.f k l0 a1 a2_0).bind fun bt457 => ((binds_Candidates.f k l0 a1 bt454.1).bind fun bt461 => (if bt457.2 = 0 then (mummerlaw11_BindsMore.j0 k l0 a1 bt454.1 bt457.2 bt457.1 bt461.1 bt461.2 (bt461.2 != 0)) else (mummerlaw11_BindsMore.j0 k l0 a1 bt454.1 bt457.2 bt457.1 bt461.1 bt461.2 true)))) else ((mummerlaw11_awake.f k).bind fun t456 => (some t456)))))) = some r := by first | (rw [hy449]; with_reducible exact H) | (have H2_ := (Option.bind_some _ _).symm.trans H; rw [hy449]; with_reducible exact H2_) | (have H2_ := (Option.bind_some _ _).symm.trans H; with_reducible exact H2_) | with_reducible exact H | (rw [hy449]; exact H) | exact H
 have Ny449 := ak hy449
 clear hy449
 replace H := Option.bind_eq_some_iff.mp H
 obtain ⟨t452, A40, H⟩ := H
 replace H : (if t452 = true then ((mummerlaw11_awake.f k).bind fun t453 => (some t453)) else ((mummerref09_Union.f k a2_0 a2_1).bind fun bt454 => (if bt454.2 = 0 then ((binds_Candidates.f k l0 a1 a2_0).bind fun bt457 => ((binds_Candidates.f k l0 a1 bt454.1).bind fun bt461 => (if bt457.2 = 0 then (mummerlaw11_BindsMore.j0 k l0 a1 bt454.1 bt457.2 bt457.1 bt461.1 bt461.2 (bt461.2 != 0)) else (mummerlaw11_BindsMore.j0 k l0 a1 bt454.1 bt457.2 bt457.1 bt461.1 bt461.2 true)))) else ((mummerlaw11_awake.f k).bind fun t456 => (some t456))))) = some r := H
 have A4 := ak A40
 clear A40
 by_cases c5 : t452 = true
 ·subst c5
  have H1 : ((mummerlaw11_awake.f k).bind fun t453 => (some t453)) = some r := by rw [if_pos rfl] at H; exact H
  clear H
  have H := H1
  clear H1
  replace H := Option.bind_eq_some_iff.mp H
  obtain ⟨t453, A60, H⟩ := H
  replace H : (some t453) = some r := H
  have A6 := ak A60
  clear A60
  obtain rfl := Option.some.inj H
  go_enter Try.func6, Try.ntmps6
  go_wp2_with (first | ((with_reducible refine gate_dst (N := 5) rfl ?_); (try (refine gate_guard (by rfl) ?_; dsimp only)); refine box_event ?hg (N := 5) ?hd (cs := #[.string a2_0, .string a2_1]) (t := 41) ?hr ?_; (case hd => rfl); (case hg => rfl); (case hr => first | (go_simp; done) | (go_simp; rfl)); intro gb448 hg w7 hbox hb; have n0_ := ak (below_step (by repeat (first | (with_reducible first | exact HB.out | apply wA | apply wN | apply wD) | exact HB.out)) hb); have n1_ := ak (hbox); have n2_ := ak ((by rw [hg]; exact (below_size (by repeat (first | (with_reducible first | exact HB.out | apply wA | apply wN | apply wD) | exact HB.out))) : w.heap.size ≤ gb448)); have n3_ := ak ((by rw [hg]; exact (below_size (by repeat (first | (with_reducible first | exact HB.out | apply wA | apply wN | apply wD) | exact HB.out))) : w.heap.size ≤ gb448)); clear HB; have HB := n0_; have BK448 := n1_; have GW448 := n2_; have GE448 := n3_; clear n0_ n1_ n2_ n3_; clear hb hbox hg; have hcz8_0 : w7.cell? ⟨gb448, 0, none⟩ = some (.string a2_0) := (blk_cell BK448.out 0).trans rfl; have hcz8_1 : w7.cell? ⟨gb448, 1, none⟩ = some (.string a2_1) := (blk_cell BK448.out 1).trans rfl; have hfz8_0 := blk_frozen BK448.out 0; have hfz8_1 := blk_frozen BK448.out 1) | ((with_reducible refine gate_dst (N := 26) rfl ?_); (try (refine gate_guard (by rfl) ?_; dsimp only)); refine Kd.R_lit Kd.string _ 9 ?hg (N := 26) ?hd (xs := ([a1, a2_0, a2_1] : List ByteArray)) (inner := [.string a1, .string a2_0, .string a2_1]) (ok := fun _ => True) (okp := fun _ => True) ?hr ?hp (fun _ hk => hk) trivial (Below.refl _ _) (Nat.le_refl _) (by simp) ?_; (case hd => rfl); (case hg => rfl); (case hr => first | (go_simp; done) | (go_simp; rfl)); (case hp => exact (Reps.one (show Kd.M Kd.string _ _ _ a1 [.string a1] from rfl) (Reps.one (show Kd.M Kd.string _ _ _ a2_0 [.string a2_0] from rfl) (Reps.one (show Kd.M Kd.string _ _ _ a2_1 [.string a2_1] from rfl) (Reps.none _ _))))); intro v450 w9 ho10 hb hg_ hnew_; clear hg_ hnew_; (first | rw [← Ny449.out] at ho10 | (simp only [Int.reduceToNat] at ho10; rw [← Ny449.out] at ho10)); have n0_ := ak (Kd.R_lower ho10 (below_size (by repeat (first | (with_reducible first | exact HB.out | apply wA | apply wN | apply wD | refine below_set ?_ GE448.out) | exact HB.out)))); have n1_ := ak (blk_below (g := gb448) (o := .cells #[.string a2_0, .string a2_1] 41 (0, 0)) (by (with_reducible repeat (first | refine bN ?_ _ | refine bD ?_ | refine bA ?_ _)); exact BK448.out) hb); have n2_ := ak (below_step (by repeat (first | (with_reducible first | exact HB.out | apply wA | apply wN | apply wD | refine below_set ?_ GE448.out) | exact HB.out)) hb); clear BK448; clear HB; have HO451 := n0_; have BK448 := n1_; have HB := n2_; clear n0_ n1_ n2_; clear hb ho10; obtain ⟨Ao11, co11, eo11⟩ := Kd.R_slice HO451.out; subst eo11) | ((with_reducible refine gate_callee (f := 10) rfl ?_); refine goesL_ (some 27) rfl rfl Try.func10 (by kernel_rfl) rfl #[.slice A0 l0.length c0, .slice Ao11 y449.length co11] rfl (by (try simp only [List.map_toArray, List.map_cons, List.map_nil]); first | done | rfl | (simp only [List.length_drop, List.length_take]; rfl)) ?_; (with_reducible refine (mummerlaw11_far.calls k _ _ l0 _ _ y449 true _ ?side1 ?side2 ?side3 ?side4 A4.out).mono ?_); (case side1 => repeat (first | exact (Kd.C_below HR0.out HB.out) | (with_reducible refine Kd.C_alloc ?_ _) | (with_reducible refine Kd.C_drewN ?_ _) | (with_reducible refine Kd.C_drew ?_))); (case side2 => exact HC0.out); (case side3 => repeat (first | exact (Kd.R_reads' HO451.out).2.2 | (with_reducible refine Kd.C_alloc ?_ _) | (with_reducible refine Kd.C_drewN ?_ _) | (with_reducible refine Kd.C_drew ?_))); (case side4 => exact (Kd.R_reads' HO451.out).2.1); rintro e w' ⟨rfl, ⟨nd, rfl⟩⟩; refine ⟨_, rfl, ?_⟩) | ((with_reducible refine gate_callee (f := 11) rfl ?_); refine goesL_ (some 28) rfl rfl Try.func11 (by kernel_rfl) rfl #[] rfl (by (try simp only [List.map_toArray, List.map_cons, List.map_nil]); first | done | rfl | (simp only [List.length_drop, List.length_take]; rfl)) ?_; (with_reducible refine (mummerlaw11_awake.calls k  t453 _ hrt A6.out).mono ?_); rintro e w12 ⟨rfl, hb⟩; refine ⟨_, rfl, ?_⟩; have n0_ := ak (Kd.R_below (by (with_reducible repeat (first | apply Kd.R_alloc | apply Kd.R_drewN | apply Kd.R_drew)); exact HO451.out) hb); have n1_ := ak (blk_below (g := gb448) (o := .cells #[.string a2_0, .string a2_1] 41 (0, 0)) (by (with_reducible repeat (first | refine bN ?_ _ | refine bD ?_ | refine bA ?_ _)); exact BK448.out) hb); have n2_ := ak (below_step (by repeat (first | (with_reducible first | exact HB.out | apply wA | apply wN | apply wD | refine below_set ?_ GE448.out) | exact HB.out)) hb); clear HO451; clear BK448; clear HB; have HO451 := n0_; have BK448 := n1_; have HB := n2_; clear n0_ n1_ n2_; (try clear hb); (try clear hb2); (try clear hk); (try clear hi)))
  go_ret
  exact ⟨by first | rfl | (simp [errW_none, errW_some] <;> rfl) | (simp [*, errW_none, errW_some] <;> rfl), by repeat (first | (with_reducible first | exact HB.out | apply wA | apply wN | apply wD | refine below_set ?_ GE448.out) | exact HB.out)⟩
 ·replace c5 := Bool.eq_false_iff.mpr c5
  subst c5
  have H1 : ((mummerref09_Union.f k a2_0 a2_1).bind fun bt454 => (if bt454.2 = 0 then ((binds_Candidates.f k l0 a1 a2_0).bind fun bt457 => ((binds_Candidates.f k l0 a1 bt454.1).bind fun bt461 => (if bt457.2 = 0 then (mummerlaw11_BindsMore.j0 k l0 a1 bt454.1 bt457.2 bt457.1 bt461.1 bt461.2 (bt461.2 != 0)) else (mummerlaw11_BindsMore.j0 k l0 a1 bt454.1 bt457.2 bt457.1 bt461.1 bt461.2 true)))) else ((mummerlaw11_awake.f k).bind fun t456 => (some t456)))) = some r := by rw [if_neg (show ¬ (false = true) by decide)] at H; exact H
  clear H
  have H := H1
  clear H1
  replace H := Option.bind_eq_some_iff.mp H
  obtain ⟨⟨t454, t455⟩, A130, H⟩ := H
  replace H : (if t455 = 0 then ((binds_Candidates.f k l0 a1 a2_0).bind fun bt457 => ((binds_Candidates.f k l0 a1 t454).bind fun bt461 => (if bt457.2 = 0 then (mummerlaw11_BindsMore.j0 k l0 a1 t454 bt457.2 bt457.1 bt461.1 bt461.2 (bt461.2 != 0)) else (mummerlaw11_BindsMore.j0 k l0 a1 t454 bt457.2 bt457.1 bt461.1 bt461.2 true)))) else ((mummerlaw11_awake.f k).bind fun t456 => (some t456))) = some r := H
  have A13 := ak A130
  clear A130
  by_cases c14 : t455 = 0
  ·rw [if_pos c14] at H
   have c14b0 : (t455 == 0) = true := beq_iff_eq.mpr c14
   have c14b1 : (t455 != 0) = false := bne_eq_false_iff_eq.mpr c14
   clear c14
   replace H := Option.bind_eq_some_iff.mp H
   obtain ⟨⟨t457, t458⟩, A150, H⟩ := H
   replace H : ((binds_Candidates.f k l0 a1 t454).bind fun bt461 => (if t458 = 0 then (mummerlaw11_BindsMore.j0 k l0 a1 t454 t458 t457 bt461.1 bt461.2 (bt461.2 != 0)) else (mummerlaw11_BindsMore.j0 k l0 a1 t454 t458 t457 bt461.1 bt461.2 true))) = some r := H
   have A15 := ak A150
   clear A150
   replace H := Option.bind_eq_some_iff.mp H
   obtain ⟨⟨t461, t462⟩, A160, H⟩ := H
   replace H : (if t458 = 0 then (mummerlaw11_BindsMore.j0 k l0 a1 t454 t458 t457 t461 t462 (t462 != 0)) else (mummerlaw11_BindsMore.j0 k l0 a1 t454 t458 t457 t461 t462 true)) = some r := H
   have A16 := ak A160
   clear A160
   have HC17 := ak H
   clear H
   go_enter Try.func6, Try.ntmps6
   go_upto_region 8 with (first | ((with_reducible refine gate_dst (N := 5) rfl ?_); (try (refine gate_guard (by rfl) ?_; dsimp only)); refine box_event ?hg (N := 5) ?hd (cs := #[.string a2_0, .string a2_1]) (t := 41) ?hr ?_; (case hd => rfl); (case hg => rfl); (case hr => first | (go_simp; done) | (go_simp; rfl)); intro gb448 hg w18 hbox hb; have n0_ := ak (below_step (by repeat (first | (with_reducible first | exact HB.out | apply wA | apply wN | apply wD) | exact HB.out)) hb); have n1_ := ak (hbox); have n2_ := ak ((by rw [hg]; exact (below_size (by repeat (first | (with_reducible first | exact HB.out | apply wA | apply wN | apply wD) | exact HB.out))) : w.heap.size ≤ gb448)); have n3_ := ak ((by rw [hg]; exact (below_size (by repeat (first | (with_reducible first | exact HB.out | apply wA | apply wN | apply wD) | exact HB.out))) : w.heap.size ≤ gb448)); clear HB; have HB := n0_; have BK448 := n1_; have GW448 := n2_; have GE448 := n3_; clear n0_ n1_ n2_ n3_; clear hb hbox hg; have hcz19_0 : w18.cell? ⟨gb448, 0, none⟩ = some (.string a2_0) := (blk_cell BK448.out 0).trans rfl; have hcz19_1 : w18.cell? ⟨gb448, 1, none⟩ = some (.string a2_1) := (blk_cell BK448.out 1).trans rfl; have hfz19_0 := blk_frozen BK448.out 0; have hfz19_1 := blk_frozen BK448.out 1) | ((with_reducible refine gate_dst (N := 26) rfl ?_); (try (refine gate_guard (by rfl) ?_; dsimp only)); refine Kd.R_lit Kd.string _ 9 ?hg (N := 26) ?hd (xs := ([a1, a2_0, a2_1] : List ByteArray)) (inner := [.string a1, .string a2_0, .string a2_1]) (ok := fun _ => True) (okp := fun _ => True) ?hr ?hp (fun _ hk => hk) trivial (Below.refl _ _) (Nat.le_refl _) (by simp) ?_; (case hd => rfl); (case hg => rfl); (case hr => first | (go_simp; done) | (go_simp; rfl)); (case hp => exact (Reps.one (show Kd.M Kd.string _ _ _ a1 [.string a1] from rfl) (Reps.one (show Kd.M Kd.string _ _ _ a2_0 [.string a2_0] from rfl) (Reps.one (show Kd.M Kd.string _ _ _ a2_1 [.string a2_1] from rfl) (Reps.none _ _))))); intro v450 w20 ho21 hb hg_ hnew_; clear hg_ hnew_; (first | rw [← Ny449.out] at ho21 | (simp only [Int.reduceToNat] at ho21; rw [← Ny449.out] at ho21)); have n0_ := ak (Kd.R_lower ho21 (below_size (by repeat (first | (with_reducible first | exact HB.out | apply wA | apply wN | apply wD | refine below_set ?_ GE448.out) | exact HB.out)))); have n1_ := ak (blk_below (g := gb448) (o := .cells #[.string a2_0, .string a2_1] 41 (0, 0)) (by (with_reducible repeat (first | refine bN ?_ _ | refine bD ?_ | refine bA ?_ _)); exact BK448.out) hb); have n2_ := ak (below_step (by repeat (first | (with_reducible first | exact HB.out | apply wA | apply wN | apply wD | refine below_set ?_ GE448.out) | exact HB.out)) hb); clear BK448; clear HB; have HO451 := n0_; have BK448 := n1_; have HB := n2_; clear n0_ n1_ n2_; clear hb ho21; obtain ⟨Ao22, co22, eo22⟩ := Kd.R_slice HO451.out; subst eo22) | ((with_reducible refine gate_callee (f := 10) rfl ?_); refine goesL_ (some 27) rfl rfl Try.func10 (by kernel_rfl) rfl #[.slice A0 l0.length c0, .slice Ao22 y449.length co22] rfl (by (try simp only [List.map_toArray, List.map_cons, List.map_nil]); first | done | rfl | (simp only [List.length_drop, List.length_take]; rfl)) ?_; (with_reducible refine (mummerlaw11_far.calls k _ _ l0 _ _ y449 false _ ?side1 ?side2 ?side3 ?side4 A4.out).mono ?_); (case side1 => repeat (first | exact (Kd.C_below HR0.out HB.out) | (with_reducible refine Kd.C_alloc ?_ _) | (with_reducible refine Kd.C_drewN ?_ _) | (with_reducible refine Kd.C_drew ?_))); (case side2 => exact HC0.out); (case side3 => repeat (first | exact (Kd.R_reads' HO451.out).2.2 | (with_reducible refine Kd.C_alloc ?_ _) | (with_reducible refine Kd.C_drewN ?_ _) | (with_reducible refine Kd.C_drew ?_))); (case side4 => exact (Kd.R_reads' HO451.out).2.1); rintro e w' ⟨rfl, ⟨nd, rfl⟩⟩; refine ⟨_, rfl, ?_⟩; have hcz23_0 : w20.cell? ⟨gb448, 0, none⟩ = some (.string a2_0) := (blk_cell BK448.out 0).trans rfl; have hcz23_1 : w20.cell? ⟨gb448, 1, none⟩ = some (.string a2_1) := (blk_cell BK448.out 1).trans rfl; have hfz23_0 := blk_frozen BK448.out 0; have hfz23_1 := blk_frozen BK448.out 1) | ((with_reducible refine gate_callee (f := 23) rfl ?_); refine goesL_ (some 34) rfl rfl Try.func23 (by kernel_rfl) rfl #[.string a2_0, .string a2_1] rfl (by (try simp only [List.map_toArray, List.map_cons, List.map_nil]); first | done | rfl | (simp only [List.length_drop, List.length_take]; rfl)) ?_; (with_reducible refine (mummerref09_Union.calls k a2_0 a2_1 t454 t455 _ A13.out).mono ?_); rintro e w24 ⟨rfl, hb⟩; refine ⟨_, rfl, ?_⟩; have n0_ := ak (Kd.R_below (by (with_reducible repeat (first | apply Kd.R_alloc | apply Kd.R_drewN | apply Kd.R_drew)); exact HO451.out) hb); have n1_ := ak (blk_below (g := gb448) (o := .cells #[.string a2_0, .string a2_1] 41 (0, 0)) (by (with_reducible repeat (first | refine bN ?_ _ | refine bD ?_ | refine bA ?_ _)); exact BK448.out) hb); have n2_ := ak (below_step (by repeat (first | (with_reducible first | exact HB.out | apply wA | apply wN | apply wD | refine below_set ?_ GE448.out) | exact HB.out)) hb); clear HO451; clear BK448; clear HB; have HO451 := n0_; have BK448 := n1_; have HB := n2_; clear n0_ n1_ n2_; (try clear hb); (try clear hb2); (try clear hk); (try clear hi); have hcz25_0 : w24.cell? ⟨gb448, 0, none⟩ = some (.string a2_0) := (blk_cell BK448.out 0).trans rfl; have hcz25_1 : w24.cell? ⟨gb448, 1, none⟩ = some (.string a2_1) := (blk_cell BK448.out 1).trans rfl; have hfz25_0 := blk_frozen BK448.out 0; have hfz25_1 := blk_frozen BK448.out 1) | ((with_reducible refine gate_callee (f := 17) rfl ?_); refine goesL_ (some 45) rfl rfl Try.func17 (by kernel_rfl) rfl #[.slice A0 l0.length c0, .string a1, .string a2_0] rfl (by (try simp only [List.map_toArray, List.map_cons, List.map_nil]); first | done | rfl | (simp only [List.length_drop, List.length_take]; rfl)) ?_; (with_reducible refine (binds_Candidates.calls k _ _ l0 a1 a2_0 t457 t458 _ ?side1 ?side2 A15.out).mono ?_); (case side1 => repeat (first | exact (Kd.C_below HR0.out HB.out) | (with_reducible refine Kd.C_alloc ?_ _) | (with_reducible refine Kd.C_drewN ?_ _) | (with_reducible refine Kd.C_drew ?_))); (case side2 => exact HC0.out); rintro e w26 ⟨v459, rfl, ho0, hb⟩; refine ⟨_, rfl, ?_⟩; have n0_ := ak (Kd.R_below (by (with_reducible repeat (first | apply Kd.R_alloc | apply Kd.R_drewN | apply Kd.R_drew)); exact HO451.out) hb); have n1_ := ak (Kd.R_lower ho0 (below_size (by repeat (first | (with_reducible first | exact HB.out | apply wA | apply wN | apply wD | refine below_set ?_ GE448.out) | exact HB.out)))); have n2_ := ak (blk_below (g := gb448) (o := .cells #[.string a2_0, .string a2_1] 41 (0, 0)) (by (with_reducible repeat (first | refine bN ?_ _ | refine bD ?_ | refine bA ?_ _)); exact BK448.out) hb); have n3_ := ak (below_step (by repeat (first | (with_reducible first | exact HB.out | apply wA | apply wN | apply wD | refine below_set ?_ GE448.out) | exact HB.out)) hb); clear HO451; clear BK448; clear HB; have HO451 := n0_; have HO460 := n1_; have BK448 := n2_; have HB := n3_; clear n0_ n1_ n2_ n3_; (try clear hb); (try clear hb2); (try clear hk); (try clear hi); (try clear ho0)) | ((with_reducible refine gate_callee (f := 17) rfl ?_); refine goesL_ (some 52) rfl rfl Try.func17 (by kernel_rfl) rfl #[.slice A0 l0.length c0, .string a1, .string t454] rfl (by (try simp only [List.map_toArray, List.map_cons, List.map_nil]); first | done | rfl | (simp only [List.length_drop, List.length_take]; rfl)) ?_; (with_reducible refine (binds_Candidates.calls k _ _ l0 a1 t454 t461 t462 _ ?side1 ?side2 A16.out).mono ?_); (case side1 => repeat (first | exact (Kd.C_below HR0.out HB.out) | (with_reducible refine Kd.C_alloc ?_ _) | (with_reducible refine Kd.C_drewN ?_ _) | (with_reducible refine Kd.C_drew ?_))); (case side2 => exact HC0.out); rintro e w27 ⟨v463, rfl, ho0, hb⟩; refine ⟨_, rfl, ?_⟩; have n0_ := ak (Kd.R_below (by (with_reducible repeat (first | apply Kd.R_alloc | apply Kd.R_drewN | apply Kd.R_drew)); exact HO451.out) hb); have n1_ := ak (Kd.R_elder' (by (with_reducible repeat (first | apply Kd.R_alloc | apply Kd.R_drewN | apply Kd.R_drew)); exact HO460.out) (Kd.R_base ho0) hb); have n2_ := ak (Kd.R_lower (Kd.R_new' ho0 (Kd.R_lt (by (with_reducible repeat (first | apply Kd.R_alloc | apply Kd.R_drewN | apply Kd.R_drew)); exact HO460.out))) (below_size (by repeat (first | (with_reducible first | exact HB.out | apply wA | apply wN | apply wD | refine below_set ?_ GE448.out) | exact HB.out)))); have n3_ := ak (blk_below (g := gb448) (o := .cells #[.string a2_0, .string a2_1] 41 (0, 0)) (by (with_reducible repeat (first | refine bN ?_ _ | refine bD ?_ | refine bA ?_ _)); exact BK448.out) hb); have n4_ := ak (below_step (by repeat (first | (with_reducible first | exact HB.out | apply wA | apply wN | apply wD | refine below_set ?_ GE448.out) | exact HB.out)) hb); clear HO451; clear HO460; clear BK448; clear HB; have HO451 := n0_; have HO460 := n1_; have HO464 := n2_; have BK448 := n3_; have HB := n4_; clear n0_ n1_ n2_ n3_ n4_; (try clear hb); (try clear hb2); (try clear hk); (try clear hi); (try clear ho0)))
   (try simp only [Act.put, sA_, s0_, s1_])
   go_cut [60] (fun v60 wc => ∃ (kq : Nat) (x60_16 : Bool), v60 = .bool x60_16 ∧ Aside0 (mummerlaw11_BindsMore.j0 kq l0 a1 t454 t458 t457 t461 t462 x60_16 = some r) ∧ Aside0 (kq ≤ k) ∧ Aside0 (Kd.R (Kd.int .i64) 3 wc w.heap.size (fun k_ => some k_ ≠ (v463 : Value).ownBlock) v459 t457) ∧ Aside0 (Kd.R (Kd.int .i64) 3 wc w.heap.size (fun k_ => some k_ ≠ (v459 : Value).ownBlock) v463 t461) ∧ Aside0 (wc.heap[gb448]? = some (.cells #[.string a2_0, .string a2_1] 41 (0, 0))) ∧ Aside0 (Below w.heap.size w wc))
   case first =>
    have H := HC17.out
    clear HC17
    by_cases c28 : t458 = 0
    ·rw [if_pos c28] at H
     have c28b0 : (t458 == 0) = true := beq_iff_eq.mpr c28
     have c28b1 : (t458 != 0) = false := bne_eq_false_iff_eq.mpr c28
     clear c28
     (first | rw [c28b0] | (simp only [i64_w, i32_w]; rw [c28b0]) | skip)
     have H' := ak H
     clear H
     go_wp2
     go_meet
     case rel => exact ⟨_, ((t462 != 0)), (by first | rfl | (simp; done) | (simp [*]; done)), H', ⟨by first | omega | exact Nat.le_refl _⟩, ⟨by (with_reducible repeat (first | apply Kd.R_alloc | apply Kd.R_drewN | apply Kd.R_drew)); exact Kd.R_mono HO460.out (fun _ hk => hk.2)⟩, ⟨by (with_reducible repeat (first | apply Kd.R_alloc | apply Kd.R_drewN | apply Kd.R_drew)); exact Kd.R_mono HO464.out (fun _ hk => hk.2)⟩, ⟨by (with_reducible repeat (first | refine bN ?_ _ | refine bD ?_ | refine bA ?_ _)); exact BK448.out⟩, ⟨by repeat (first | (with_reducible first | exact HB.out | apply wA | apply wN | apply wD | refine below_set ?_ GE448.out) | exact HB.out)⟩⟩
    ·rw [if_neg c28] at H
     have c28b0 : (t458 == 0) = false := beq_eq_false_iff_ne.mpr c28
     have c28b1 : (t458 != 0) = true := bne_iff_ne.mpr c28
     (first | rw [c28b0] | (simp only [i64_w, i32_w]; rw [c28b0]) | skip)
     have H' := ak H
     clear H
     go_wp2
     go_meet
     case rel => exact ⟨_, (true), (by first | rfl | (simp; done) | (simp [*]; done)), H', ⟨by first | omega | exact Nat.le_refl _⟩, ⟨by (with_reducible repeat (first | apply Kd.R_alloc | apply Kd.R_drewN | apply Kd.R_drew)); exact Kd.R_mono HO460.out (fun _ hk => hk.2)⟩, ⟨by (with_reducible repeat (first | apply Kd.R_alloc | apply Kd.R_drewN | apply Kd.R_drew)); exact Kd.R_mono HO464.out (fun _ hk => hk.2)⟩, ⟨by (with_reducible repeat (first | refine bN ?_ _ | refine bD ?_ | refine bA ?_ _)); exact BK448.out⟩, ⟨by repeat (first | (with_reducible first | exact HB.out | apply wA | apply wN | apply wD | refine below_set ?_ GE448.out) | exact HB.out)⟩⟩
   case rest =>
    clear HC17
    try clear c1
    try clear c2
    try clear p2
    try clear c5
    try clear c6
    try clear c10
    try clear c11
    try clear c14
    try clear c14b0
    try clear c14b1
    try clear c17
    try clear c23
    try clear c28
    try clear c28b0
    try clear c28b1
    try clear hcz19_0
    try clear hcz19_1
    try clear hcz23_0
    try clear hcz23_1
    try clear hcz25_0
    try clear hcz25_1
    try clear hcz8_0
    try clear hcz8_1
    try clear hfz19_0
    try clear hfz19_1
    try clear hfz23_0
    try clear hfz23_1
    try clear hfz25_0
    try clear hfz25_1
    try clear hfz8_0
    try clear hfz8_1
    obtain ⟨kq, x60_16, rfl, HA, HJ16, HO_9, HO_10, BK448, HB⟩ := hcut
    cases kq with
    | zero => exact absurd HA.out (by simp [mummerlaw11_BindsMore.j0])
    | succ kj16 =>
     have H := HA.out
     clear HA
     simp only [mummerlaw11_BindsMore.j0] at H
     by_cases c29 : x60_16 = true
     ·subst c29
      have H1 : (if t458 = t462 then ((mummerlaw11_awake.f kj16).bind fun t465 => (some t465)) else (some false)) = some r := by rw [if_pos rfl] at H; exact H
      clear H
      have H := H1
      clear H1
      by_cases c30 : t458 = t462
      ·rw [if_pos c30] at H
       have c30b0 : (t458 == t462) = true := beq_iff_eq.mpr c30
       have c30b1 : (t458 != t462) = false := bne_eq_false_iff_eq.mpr c30
       clear c30
       replace H := Option.bind_eq_some_iff.mp H
       obtain ⟨t465, A310, H⟩ := H
       replace H : (some t465) = some r := H
       have A31 := ak A310
       clear A310
       obtain rfl := Option.some.inj H
       go_wp2_with (first | (go_at_call 11; (with_reducible refine (mummerlaw11_awake.calls kj16  t465 _ hrt A31.out).mono ?_); rintro e w32 ⟨rfl, hb⟩; have n0_ := ak (Kd.R_below (by (with_reducible repeat (first | apply Kd.R_alloc | apply Kd.R_drewN | apply Kd.R_drew)); exact HO_9.out) hb); have n1_ := ak (Kd.R_below (by (with_reducible repeat (first | apply Kd.R_alloc | apply Kd.R_drewN | apply Kd.R_drew)); exact HO_10.out) hb); have n2_ := ak (blk_below (g := gb448) (o := .cells #[.string a2_0, .string a2_1] 41 (0, 0)) (by (with_reducible repeat (first | refine bN ?_ _ | refine bD ?_ | refine bA ?_ _)); exact BK448.out) hb); have n3_ := ak (below_step (by repeat (first | (with_reducible first | exact HB.out | apply wA | apply wN | apply wD | refine below_set ?_ GE448.out) | exact HB.out)) hb); clear HO_9; clear HO_10; clear BK448; clear HB; have HO_9 := n0_; have HO_10 := n1_; have BK448 := n2_; have HB := n3_; clear n0_ n1_ n2_ n3_; (try clear hb); (try clear hb2); (try clear hk); (try clear hi)))
       go_ret
       exact ⟨by first | rfl | (simp [errW_none, errW_some] <;> rfl) | (simp [*, errW_none, errW_some] <;> rfl), by repeat (first | (with_reducible first | exact HB.out | apply wA | apply wN | apply wD | refine below_set ?_ GE448.out) | exact HB.out)⟩
      ·rw [if_neg c30] at H
       have c30b0 : (t458 == t462) = false := beq_eq_false_iff_ne.mpr c30
       have c30b1 : (t458 != t462) = true := bne_iff_ne.mpr c30
       exact absurd ((Option.some.inj H).trans hrt.out) (by decide)
     ·replace c29 := Bool.eq_false_iff.mpr c29
      subst c29
      have H1 : (mummerlaw11_BindsMore.l0 kj16 l0 a1 t454 t457 t461 0) = some r := by rw [if_neg (show ¬ (false = true) by decide)] at H; exact H
      clear H
      have H := H1
      clear H1
      have H' := ak H
      clear H
      go_wp2
      go_loopg [12] kj16 (fun kq v12 w' => ∃ (x12_2 : Int), v12 = .int .i64 x12_2 ∧ Aside0 (mummerlaw11_BindsMore.l0 kq l0 a1 t454 t457 t461 x12_2 = some r) ∧ Aside0 (kq ≤ kj16) ∧ Aside0 (Kd.R (Kd.int .i64) 3 w' w.heap.size (fun k_ => some k_ ≠ (v463 : Value).ownBlock) v459 t457) ∧ Aside0 (Kd.R (Kd.int .i64) 3 w' w.heap.size (fun k_ => some k_ ≠ (v459 : Value).ownBlock) v463 t461) ∧ Aside0 (w'.heap[gb448]? = some (.cells #[.string a2_0, .string a2_1] 41 (0, 0))) ∧ Aside0 (Below w.heap.size w w'))
      case atStart => exact ⟨(0), (by first | rfl | (simp; done) | (simp [*]; done)), H', ⟨Nat.le_refl _⟩, ⟨by (with_reducible repeat (first | apply Kd.R_alloc | apply Kd.R_drewN | apply Kd.R_drew)); exact HO_9.out⟩, ⟨by (with_reducible repeat (first | apply Kd.R_alloc | apply Kd.R_drewN | apply Kd.R_drew)); exact HO_10.out⟩, ⟨by (with_reducible repeat (first | refine bN ?_ _ | refine bD ?_ | refine bA ?_ _)); exact BK448.out⟩, ⟨by repeat (first | (with_reducible first | exact HB.out | apply wA | apply wN | apply wD | refine below_set ?_ GE448.out) | exact HB.out)⟩⟩
      case round =>
       clear H'
       try clear c1
       try clear c2
       try clear p2
       try clear c3
       try clear c5
       try clear c6
       try clear c10
       try clear c11
       try clear c14
       try clear c14b0
       try clear c14b1
       try clear c17
       try clear c23
       try clear c28
       try clear c28b0
       try clear c28b1
       try clear c29
       try clear c30
       try clear c30b0
       try clear c30b1
       try clear hcz19_0
       try clear hcz19_1
       try clear hcz23_0
       try clear hcz23_1
       try clear hcz25_0
       try clear hcz25_1
       try clear hcz8_0
       try clear hcz8_1
       try clear hfz19_0
       try clear hfz19_1
       try clear hfz23_0
       try clear hfz23_1
       try clear hfz25_0
       try clear hfz25_1
       try clear hfz8_0
       try clear hfz8_1
       try clear p2
       obtain ⟨x12_2, rfl, HA, HK2, HO_9, HO_10, BK448, HB⟩ := hrel
       cases gk with
       | zero => exact absurd HA.out (by simp [mummerlaw11_BindsMore.l0])
       | succ k2 =>
        have H := HA.out
        clear HA
        simp only [mummerlaw11_BindsMore.l0] at H
        by_cases c33 : x12_2 < (t457.length : Int)
        ·rw [if_pos c33] at H
         have c33b0 : decide (x12_2 < (t457.length : Int)) = true := decide_eq_true c33
         clear c33
         have H' := ak H
         clear H
         obtain ⟨Ao34, co34, eo34⟩ := Kd.R_slice HO_9.out
         subst eo34
         go_wp2
         go_loopg [13, 14] k2 (fun kq v13 v14 w' => ∃ (x13_3 : Bool) (x14_3 : Int), v13 = .bool x13_3 ∧ v14 = .int .i64 x14_3 ∧ Aside0 (mummerlaw11_BindsMore.l1 kq l0 a1 t454 t457 t461 x12_2 x13_3 x14_3 = some r) ∧ Aside0 (kq ≤ k2) ∧ Aside0 (Kd.R (Kd.int .i64) 3 w' w.heap.size (fun k_ => some k_ ≠ (v463 : Value).ownBlock) (.slice Ao34 t457.length co34) t457) ∧ Aside0 (Kd.R (Kd.int .i64) 3 w' w.heap.size (fun k_ => some k_ ≠ ((.slice Ao34 t457.length co34) : Value).ownBlock) v463 t461) ∧ Aside0 (w'.heap[gb448]? = some (.cells #[.string a2_0, .string a2_1] 41 (0, 0))) ∧ Aside0 (Below w.heap.size w w'))
         case atStart => exact ⟨(false), (0), (by first | rfl | (simp; done) | (simp [*]; done)), (by first | rfl | (simp; done) | (simp [*]; done)), H', ⟨Nat.le_refl _⟩, ⟨by (with_reducible repeat (first | apply Kd.R_alloc | apply Kd.R_drewN | apply Kd.R_drew)); exact HO_9.out⟩, ⟨by (with_reducible repeat (first | apply Kd.R_alloc | apply Kd.R_drewN | apply Kd.R_drew)); exact HO_10.out⟩, ⟨by (with_reducible repeat (first | refine bN ?_ _ | refine bD ?_ | refine bA ?_ _)); exact BK448.out⟩, ⟨by repeat (first | (with_reducible first | exact HB.out | apply wA | apply wN | apply wD | refine below_set ?_ GE448.out) | exact HB.out)⟩⟩
         case round =>
          clear H'
          try clear c1
          try clear c2
          try clear p2
          try clear c3
          try clear c5
          try clear c6
          try clear c10
          try clear c11
          try clear c14
          try clear c14b0
          try clear c14b1
          try clear c17
          try clear c23
          try clear c28
          try clear c28b0
          try clear c28b1
          try clear c29
          try clear c30
          try clear c30b0
          try clear c30b1
          try clear c33
          try clear c33b0
          try clear hcz19_0
          try clear hcz19_1
          try clear hcz23_0
          try clear hcz23_1
          try clear hcz25_0
          try clear hcz25_1
          try clear hcz8_0
          try clear hcz8_1
          try clear hfz19_0
          try clear hfz19_1
          try clear hfz23_0
          try clear hfz23_1
          try clear hfz25_0
          try clear hfz25_1
          try clear hfz8_0
          try clear hfz8_1
          try clear p2
          obtain ⟨x13_3, x14_3, rfl, rfl, HA, HK3, HO_9, HO_10, BK448, HB⟩ := hrel
          cases gk with
          | zero => exact absurd HA.out (by simp [mummerlaw11_BindsMore.l1])
          | succ k3 =>
           have H := HA.out
           clear HA
           simp only [mummerlaw11_BindsMore.l1] at H
           by_cases c35 : x14_3 < (t461.length : Int)
           ·rw [if_pos c35] at H
            have c35b0 : decide (x14_3 < (t461.length : Int)) = true := decide_eq_true c35
            clear c35
            by_cases c36 : x13_3 = true
            ·subst c36
             have H1 : (mummerlaw11_BindsMore.l1 k3 l0 a1 t454 t457 t461 x12_2 true (wrap64 (x14_3 + 1))) = some r := by rw [if_pos rfl] at H; exact H
             clear H
             have H := H1
             clear H1
             have H' := ak H
             clear H
             obtain ⟨Ao37, co37, eo37⟩ := Kd.R_slice HO_10.out
             subst eo37
             try go_wp2
             have n0_ := ak (Kd.R_drew HO_9.out)
             have n1_ := ak (Kd.R_drew HO_10.out)
             have n2_ := ak (bD BK448.out)
             have n3_ := ak (wD HB.out)
             clear HO_9 HO_10 BK448 HB
             have HO_9 := n0_
             have HO_10 := n1_
             have BK448 := n2_
             have HB := n3_
             clear n0_ n1_ n2_ n3_
             refine start_ (n := 13) (S := fun w' => True) (ds := []) q6_0 (by kernel_rfl) rfl rfl trivial (fun hHeld => ?_); refine with_tabW mummerlaw11_BindsMore.tab17 mummerlaw11_BindsMore.bits17 (fun HT_ HW_ => ?_)
             generalize wr.drew = w38 at HO_9 HO_10 BK448 HB hHeld ⊢
             refine pure_ (i := 0) (N := some 79) (v := ?_) (a' := ?_) q6_1 rfl rfl (any_of HT_.out (by kernel_rfl)) (fun _ _ _ h => h) (Or.inl ⟨by rfl, ?_⟩) ?_ ?_; rotate_left; ·(intro w'; go_simp; with_reducible rfl)
             rotate_left; ·(simp only [Act.put, sA_, s0_, s1_, i64_w, i32_w]; rfl)
             refine pure_ (i := 1) (N := some 80) (v := ?_) (a' := ?_) q6_2 rfl rfl (any_of HT_.out (by kernel_rfl)) (fun _ _ _ h => h) (Or.inl ⟨by rfl, ?_⟩) ?_ ?_; rotate_left; ·(intro w'; go_simp; with_reducible rfl)
             rotate_left; ·(simp only [Act.put, sA_, s0_, s1_, i64_w, i32_w]; rfl)
             refine pure_ (i := 2) (N := some 81) (v := undef) (a' := ?_) q6_3 rfl rfl (any_of HT_.out (by kernel_rfl)) (fun _ _ _ h => h) (Or.inr ⟨by rfl, rfl⟩) ?_ ?_
             rotate_left
             ·simp only [Act.put, sA_, s0_, s1_, i64_w, i32_w]
              rfl
             refine pure_ (i := 3) (N := some 82) (v := undef) (a' := ?_) q6_4 rfl rfl (any_of HT_.out (by kernel_rfl)) (fun _ _ _ h => h) (Or.inr ⟨by rfl, rfl⟩) ?_ ?_
             rotate_left
             ·simp only [Act.put, sA_, s0_, s1_, i64_w, i32_w]
              rfl
             refine pure_ (i := 4) (N := some 83) (v := undef) (a' := ?_) q6_5 rfl rfl (any_of HT_.out (by kernel_rfl)) (fun _ _ _ h => h) (Or.inr ⟨by rfl, rfl⟩) ?_ ?_
             rotate_left
             ·simp only [Act.put, sA_, s0_, s1_, i64_w, i32_w]
              rfl
             refine pure_ (i := 5) (N := some 84) (v := undef) (a' := ?_) #[Y,Y,Y,Y,Y,Y,Z,Z,Z,Z,Z,Z,Z] rfl rfl (any_of HT_.out (by kernel_rfl)) (fun _ _ _ h => h) (Or.inr ⟨by rfl, rfl⟩) ?_ ?_
             rotate_left
             ·simp only [Act.put, sA_, s0_, s1_, i64_w, i32_w]
              rfl
             refine pure_ (i := 6) (N := some 85) (v := undef) (a' := ?_) #[Y,Y,Y,Y,Y,Y,Y,Z,Z,Z,Z,Z,Z] rfl rfl (any_of HT_.out (by kernel_rfl)) (fun _ _ _ h => h) (Or.inr ⟨by rfl, rfl⟩) ?_ ?_
             rotate_left
             ·simp only [Act.put, sA_, s0_, s1_, i64_w, i32_w]
              rfl
             refine pure_ (i := 7) (N := some 86) (v := undef) (a' := ?_) #[Y,Y,Y,Y,Y,Y,Y,Y,Z,Z,Z,Z,Z] rfl rfl (any_of HT_.out (by kernel_rfl)) (fun _ _ _ h => h) (Or.inr ⟨by rfl, rfl⟩) ?_ ?_
             rotate_left
             ·simp only [Act.put, sA_, s0_, s1_, i64_w, i32_w]
              rfl
             refine pure_ (i := 8) (N := some 87) (v := undef) (a' := ?_) q6_6 rfl rfl (any_of HT_.out (by kernel_rfl)) (fun _ _ _ h => h) (Or.inr ⟨by rfl, rfl⟩) ?_ ?_
             rotate_left
             ·simp only [Act.put, sA_, s0_, s1_, i64_w, i32_w]
              rfl
             refine pure_ (i := 9) (N := some 88) (v := undef) (a' := ?_) q6_7 rfl rfl (any_of HT_.out (by kernel_rfl)) (fun _ _ _ h => h) (Or.inr ⟨by rfl, rfl⟩) ?_ ?_
             rotate_left
             ·simp only [Act.put, sA_, s0_, s1_, i64_w, i32_w]
              rfl
             refine pure_ (i := 10) (N := some 89) (v := undef) (a' := ?_) q6_8 rfl rfl (any_of HT_.out (by kernel_rfl)) (fun _ _ _ h => h) (Or.inr ⟨by rfl, rfl⟩) ?_ ?_
             rotate_left
             ·simp only [Act.put, sA_, s0_, s1_, i64_w, i32_w]
              rfl
             refine pure_ (i := 11) (N := some 90) (v := ?_) (a' := ?_) q6_9 rfl rfl (any_of HT_.out (by kernel_rfl)) (fun _ _ _ h => h) (Or.inl ⟨by rfl, ?_⟩) ?_ ?_; rotate_left; ·(intro w'; go_simp; with_reducible rfl)
             rotate_left; ·(simp only [Act.put, sA_, s0_, s1_, i64_w, i32_w]; rfl)
             refine pure_ (i := 12) (N := some 13) (v := ?_) (a' := ?_) q6_10 rfl rfl (any_of HT_.out (by kernel_rfl)) (fun _ _ _ h => h) (Or.inl ⟨by rfl, ?_⟩) ?_ ?_; rotate_left; ·(intro w'; go_simp; with_reducible rfl)
             rotate_left; ·(simp only [Act.put, sA_, s0_, s1_, i64_w, i32_w]; rfl)
             refine done_ (done_of HT_.out (by kernel_rfl)) ?_
             try go_wp2
             go_roundg k3
             case measure => have := HJ16.out; have := HK2.out; have := HK3.out; omega
             case rel => exact ⟨(true), (wrap64 (x14_3 + 1)), (by first | rfl | (simp; done) | (simp [*]; done)), (by first | rfl | (simp; done) | (simp [*]; done)), H', ⟨by have := HJ16.out; have := HK2.out; have := HK3.out; omega⟩, ⟨by (with_reducible repeat (first | apply Kd.R_alloc | apply Kd.R_drewN | apply Kd.R_drew)); exact HO_9.out⟩, ⟨by (with_reducible repeat (first | apply Kd.R_alloc | apply Kd.R_drewN | apply Kd.R_drew)); exact HO_10.out⟩, ⟨by (with_reducible repeat (first | refine bN ?_ _ | refine bD ?_ | refine bA ?_ _)); exact BK448.out⟩, ⟨by repeat (first | (with_reducible first | exact HB.out | apply wA | apply wN | apply wD | refine below_set ?_ GE448.out) | exact HB.out)⟩⟩
            ·replace c36 := Bool.eq_false_iff.mpr c36
             subst c36
             have H1 : (if 0 ≤ x12_2 then (if x12_2 < (t457.length : Int) then (if 0 ≤ x14_3 then (mummerlaw11_BindsMore.l1 k3 l0 a1 t454 t457 t461 x12_2 ((rd t457 x12_2) == (rd t461 x14_3)) (wrap64 (x14_3 + 1))) else (none)) else (none)) else (none)) = some r := by rw [if_neg (show ¬ (false = true) by decide)] at H; exact H
             clear H
             have H := H1
             clear H1
             by_cases c39 : 0 ≤ x12_2
             ·rw [if_pos c39] at H
              have c39b0 : decide (0 ≤ x12_2) = true := decide_eq_true c39
              clear c39
              by_cases c40 : x12_2 < (t457.length : Int)
              ·rw [if_pos c40] at H
               have c40b0 : decide (x12_2 < (t457.length : Int)) = true := decide_eq_true c40
               clear c40
               by_cases c41 : 0 ≤ x14_3
               ·rw [if_pos c41] at H
                have c41b0 : decide (0 ≤ x14_3) = true := decide_eq_true c41
                clear c41
                have H' := ak H
                clear H
                obtain ⟨Ao42, co42, eo42⟩ := Kd.R_slice HO_10.out
                subst eo42
                try go_wp2
                have n0_ := ak (Kd.R_drew HO_9.out)
                have n1_ := ak (Kd.R_drew HO_10.out)
                have n2_ := ak (bD BK448.out)
                have n3_ := ak (wD HB.out)
                clear HO_9 HO_10 BK448 HB
                have HO_9 := n0_
                have HO_10 := n1_
                have BK448 := n2_
                have HB := n3_
                clear n0_ n1_ n2_ n3_
                have p466 : 0 ≤ (x12_2 : Int) := of_decide_eq_true (by first | (with_reducible assumption) | assumption)
                have q466 : x12_2 < (t457.length : Int) := of_decide_eq_true (by first | (with_reducible assumption) | assumption)
                obtain ⟨ad466, e466, hx466_0⟩ := Kd.at_int (Kd.R_reads' HO_9.out).2.2 x12_2 p466 q466
                cases e466
                replace p466 := eq_true p466
                replace q466 := eq_true q466
                have p467 : 0 ≤ (x14_3 : Int) := of_decide_eq_true (by first | (with_reducible assumption) | assumption)
                have q467 : x14_3 < (t461.length : Int) := of_decide_eq_true (by first | (with_reducible assumption) | assumption)
                obtain ⟨ad467, e467, hx467_0⟩ := Kd.at_int (Kd.R_reads' HO_10.out).2.2 x14_3 p467 q467
                cases e467
                replace p467 := eq_true p467
                replace q467 := eq_true q467
                refine start_ (n := 13) (S := fun w' => w'.cell? (ad466.add (x12_2).toNat) = some (.int .i64 (rd t457 x12_2)) ∧ w'.cell? (ad467.add (x14_3).toNat) = some (.int .i64 (rd t461 x14_3))) (ds := []) q6_0 (by kernel_rfl) rfl rfl ⟨hx466_0, hx467_0⟩ (fun hHeld => ?_); refine with_tabW mummerlaw11_BindsMore.tab17 mummerlaw11_BindsMore.bits17 (fun HT_ HW_ => ?_)
                generalize wr.drew = w43 at HO_9 HO_10 BK448 HB hx466_0 hx467_0 hHeld ⊢
                refine pure_ (i := 0) (N := some 79) (v := ?_) (a' := ?_) q6_1 rfl rfl (any_of HT_.out (by kernel_rfl)) (fun _ _ _ h => h) (Or.inl ⟨by rfl, ?_⟩) ?_ ?_; rotate_left; ·(intro w'; go_simp; with_reducible rfl)
                rotate_left; ·(simp only [Act.put, sA_, s0_, s1_, i64_w, i32_w]; rfl)
                refine pure_ (i := 1) (N := some 80) (v := ?_) (a' := ?_) q6_2 rfl rfl (any_of HT_.out (by kernel_rfl)) (fun _ _ _ h => h) (Or.inl ⟨by rfl, ?_⟩) ?_ ?_; rotate_left; ·(intro w'; go_simp; with_reducible rfl)
                rotate_left; ·(simp only [Act.put, sA_, s0_, s1_, i64_w, i32_w]; rfl)
                refine pure_ (i := 2) (N := some 81) (v := ?_) (a' := ?_) q6_3 rfl rfl (any_of HT_.out (by kernel_rfl)) (fun _ _ _ h => h) (Or.inl ⟨by rfl, ?_⟩) ?_ ?_; rotate_left; ·(intro w'; go_simp; with_reducible rfl)
                rotate_left; ·(simp only [Act.put, sA_, s0_, s1_, i64_w, i32_w]; rfl)
                refine pure_ (i := 3) (N := some 82) (v := ?_) (a' := ?_) q6_4 rfl rfl (any_of HT_.out (by kernel_rfl)) (fun _ _ _ h => h) (Or.inl ⟨by rfl, ?_⟩) ?_ ?_; rotate_left; ·(intro w'; go_simp; with_reducible rfl)
                rotate_left; ·(simp only [Act.put, sA_, s0_, s1_, i64_w, i32_w]; rfl)
                refine pure_ (i := 4) (N := some 83) (v := ?_) (a' := ?_) q6_5 rfl rfl (any_of HT_.out (by kernel_rfl)) (fun _ _ _ h => h) (Or.inl ⟨by rfl, ?_⟩) ?_ ?_; rotate_left; ·(intro w'; go_simp; with_reducible rfl)
                rotate_left; ·(simp only [Act.put, sA_, s0_, s1_, i64_w, i32_w]; rfl)
                refine pure_ (i := 6) (N := some 85) (v := ?_) (a' := ?_) #[Y,Y,Y,Y,Y,Z,Y,Z,Z,Z,Z,Z,Z] rfl rfl (any_of HT_.out (by kernel_rfl)) (fun _ _ _ h => h) (Or.inl ⟨by rfl, ?_⟩) ?_ ?_; rotate_left; ·(intro w'; go_simp; with_reducible rfl)
                rotate_left; ·(simp only [Act.put, sA_, s0_, s1_, i64_w, i32_w]; rfl)
                refine pure_ (i := 7) (N := some 86) (v := ?_) (a' := ?_) #[Y,Y,Y,Y,Y,Z,Y,Y,Z,Z,Z,Z,Z] rfl rfl (any_of HT_.out (by kernel_rfl)) (fun _ _ _ h => h) (Or.inl ⟨by rfl, ?_⟩) ?_ ?_; rotate_left; ·(intro w'; go_simp; with_reducible rfl)
                rotate_left; ·(simp only [Act.put, sA_, s0_, s1_, i64_w, i32_w]; rfl)
                refine pure_ (i := 8) (N := some 87) (v := ?_) (a' := ?_) #[Y,Y,Y,Y,Y,Z,Y,Y,Y,Z,Z,Z,Z] rfl rfl (any_of HT_.out (by kernel_rfl)) (fun _ _ _ h => h) (Or.inl ⟨by rfl, ?_⟩) ?_ ?_; rotate_left; ·(intro w'; go_simp; with_reducible rfl)
                rotate_left; ·(simp only [Act.put, sA_, s0_, s1_, i64_w, i32_w]; rfl)
                refine take_ (i := 5) (N := some 84) (v := ?_) (a' := ?_) q6_6 rfl rfl (take_ofW HT_.out HW_.out (by kernel_rfl)) (fun _ _ _ h => h) (Or.inl ⟨by rfl, ?_⟩) hHeld ?_ ?_; rotate_left; ·(rintro w' ⟨s0, s1⟩; go_simp; with_reducible rfl)
                rotate_left; ·(simp only [Act.put, sA_, s0_, s1_, i64_w, i32_w]; rfl)
                refine take_ (i := 9) (N := some 88) (v := ?_) (a' := ?_) q6_7 rfl rfl (take_ofW HT_.out HW_.out (by kernel_rfl)) (fun _ _ _ h => h) (Or.inl ⟨by rfl, ?_⟩) hHeld ?_ ?_; rotate_left; ·(rintro w' ⟨s0, s1⟩; go_simp; with_reducible rfl)
                rotate_left; ·(simp only [Act.put, sA_, s0_, s1_, i64_w, i32_w]; rfl)
                refine pure_ (i := 10) (N := some 89) (v := ?_) (a' := ?_) q6_8 rfl rfl (any_of HT_.out (by kernel_rfl)) (fun _ _ _ h => h) (Or.inl ⟨by rfl, ?_⟩) ?_ ?_; rotate_left; ·(intro w'; go_simp; with_reducible rfl)
                rotate_left; ·(simp only [Act.put, sA_, s0_, s1_, i64_w, i32_w]; rfl)
                refine pure_ (i := 11) (N := some 90) (v := ?_) (a' := ?_) q6_9 rfl rfl (any_of HT_.out (by kernel_rfl)) (fun _ _ _ h => h) (Or.inl ⟨by rfl, ?_⟩) ?_ ?_; rotate_left; ·(intro w'; go_simp; with_reducible rfl)
                rotate_left; ·(simp only [Act.put, sA_, s0_, s1_, i64_w, i32_w]; rfl)
                refine pure_ (i := 12) (N := some 13) (v := ?_) (a' := ?_) q6_10 rfl rfl (any_of HT_.out (by kernel_rfl)) (fun _ _ _ h => h) (Or.inl ⟨by rfl, ?_⟩) ?_ ?_; rotate_left; ·(intro w'; go_simp; with_reducible rfl)
                rotate_left; ·(simp only [Act.put, sA_, s0_, s1_, i64_w, i32_w]; rfl)
                refine done_ (done_of HT_.out (by kernel_rfl)) ?_
                try go_wp2
                go_roundg k3
                case measure => have := HJ16.out; have := HK2.out; have := HK3.out; omega
                case rel => exact ⟨(((rd t457 x12_2) == (rd t461 x14_3))), (wrap64 (x14_3 + 1)), (by first | rfl | (simp; done) | (simp [*]; done)), (by first | rfl | (simp; done) | (simp [*]; done)), H', ⟨by have := HJ16.out; have := HK2.out; have := HK3.out; omega⟩, ⟨by (with_reducible repeat (first | apply Kd.R_alloc | apply Kd.R_drewN | apply Kd.R_drew)); exact HO_9.out⟩, ⟨by (with_reducible repeat (first | apply Kd.R_alloc | apply Kd.R_drewN | apply Kd.R_drew)); exact HO_10.out⟩, ⟨by (with_reducible repeat (first | refine bN ?_ _ | refine bD ?_ | refine bA ?_ _)); exact BK448.out⟩, ⟨by repeat (first | (with_reducible first | exact HB.out | apply wA | apply wN | apply wD | refine below_set ?_ GE448.out) | exact HB.out)⟩⟩
               ·rw [if_neg c41] at H
                exact absurd H (by simp)
              ·rw [if_neg c40] at H
               exact absurd H (by simp)
             ·rw [if_neg c39] at H
              exact absurd H (by simp)
           ·rw [if_neg c35] at H
            have c35b0 : decide (x14_3 < (t461.length : Int)) = false := decide_eq_false c35
            clear c35
            by_cases c44 : x13_3 = true
            ·subst c44
             have H1 : (mummerlaw11_BindsMore.l0 k3 l0 a1 t454 t457 t461 (wrap64 (x12_2 + 1))) = some r := by rw [if_pos rfl] at H; exact H
             clear H
             have H := H1
             clear H1
             have H' := ak H
             clear H
             obtain ⟨Ao45, co45, eo45⟩ := Kd.R_slice HO_10.out
             subst eo45
             go_wp2
             go_roundg k3
             case measure => have := HJ16.out; have := HK2.out; have := HK3.out; omega
             case rel => exact ⟨(wrap64 (x12_2 + 1)), (by first | rfl | (simp; done) | (simp [*]; done)), H', ⟨by have := HJ16.out; have := HK2.out; have := HK3.out; omega⟩, ⟨by (with_reducible repeat (first | apply Kd.R_alloc | apply Kd.R_drewN | apply Kd.R_drew)); exact HO_9.out⟩, ⟨by (with_reducible repeat (first | apply Kd.R_alloc | apply Kd.R_drewN | apply Kd.R_drew)); exact HO_10.out⟩, ⟨by (with_reducible repeat (first | refine bN ?_ _ | refine bD ?_ | refine bA ?_ _)); exact BK448.out⟩, ⟨by repeat (first | (with_reducible first | exact HB.out | apply wA | apply wN | apply wD | refine below_set ?_ GE448.out) | exact HB.out)⟩⟩
            ·replace c44 := Bool.eq_false_iff.mpr c44
             subst c44
             have H1 : (some false) = some r := by rw [if_neg (show ¬ (false = true) by decide)] at H; exact H
             clear H
             have H := H1
             clear H1
             exact absurd ((Option.some.inj H).trans hrt.out) (by decide)
        ·rw [if_neg c33] at H
         have c33b0 : decide (x12_2 < (t457.length : Int)) = false := decide_eq_false c33
         clear c33
         have H' := ak H
         clear H
         obtain ⟨Ao46, co46, eo46⟩ := Kd.R_slice HO_9.out
         subst eo46
         go_wp2
         go_loopg [15, 16] k2 (fun kq v15 v16 w' => ∃ (x15_3 : Bool) (x16_3 : Int), v15 = .bool x15_3 ∧ v16 = .int .i64 x16_3 ∧ Aside0 (mummerlaw11_BindsMore.l2 kq l0 a1 t454 t461 x15_3 x16_3 = some r) ∧ Aside0 (kq ≤ k2) ∧ Aside0 (Kd.R (Kd.int .i64) 3 w' w.heap.size (fun _ => True) v463 t461) ∧ Aside0 (w'.heap[gb448]? = some (.cells #[.string a2_0, .string a2_1] 41 (0, 0))) ∧ Aside0 (Below w.heap.size w w'))
         case atStart => exact ⟨(true), (0), (by first | rfl | (simp; done) | (simp [*]; done)), (by first | rfl | (simp; done) | (simp [*]; done)), H', ⟨Nat.le_refl _⟩, ⟨by (with_reducible repeat (first | apply Kd.R_alloc | apply Kd.R_drewN | apply Kd.R_drew)); exact Kd.R_mono HO_10.out (fun _ hk => trivial)⟩, ⟨by (with_reducible repeat (first | refine bN ?_ _ | refine bD ?_ | refine bA ?_ _)); exact BK448.out⟩, ⟨by repeat (first | (with_reducible first | exact HB.out | apply wA | apply wN | apply wD | refine below_set ?_ GE448.out) | exact HB.out)⟩⟩
         case round =>
          clear H'
          try clear c1
          try clear c2
          try clear p2
          try clear c3
          try clear c4
          try clear p4
          try clear q4
          try clear hx4
          try clear c5
          try clear c6
          try clear p6
          try clear c10
          try clear c11
          try clear c14
          try clear c14b0
          try clear c14b1
          try clear c17
          try clear c23
          try clear c28
          try clear c28b0
          try clear c28b1
          try clear c29
          try clear c30
          try clear c30b0
          try clear c30b1
          try clear c33
          try clear c33b0
          try clear c35
          try clear c35b0
          try clear c36
          try clear c39
          try clear c39b0
          try clear c40
          try clear c40b0
          try clear c41
          try clear c41b0
          try clear c44
          try clear p46
          try clear q46
          try clear hx46
          try clear hcz19_0
          try clear hcz19_1
          try clear hcz23_0
          try clear hcz23_1
          try clear hcz25_0
          try clear hcz25_1
          try clear hcz8_0
          try clear hcz8_1
          try clear hfz19_0
          try clear hfz19_1
          try clear hfz23_0
          try clear hfz23_1
          try clear hfz25_0
          try clear hfz25_1
          try clear hfz8_0
          try clear hfz8_1
          try clear hx466_0
          try clear hx467_0
          try clear p2
          try clear p466
          try clear p467
          try clear q466
          try clear q467
          obtain ⟨x15_3, x16_3, rfl, rfl, HA, HK3, HO_10, BK448, HB⟩ := hrel
          cases gk with
          | zero => exact absurd HA.out (by simp [mummerlaw11_BindsMore.l2])
          | succ k3 =>
           have H := HA.out
           clear HA
           simp only [mummerlaw11_BindsMore.l2] at H
           by_cases c47 : x16_3 < (t461.length : Int)
           ·rw [if_pos c47] at H
            have c47b0 : decide (x16_3 < (t461.length : Int)) = true := decide_eq_true c47
            clear c47
            have H' := ak H
            clear H
            obtain ⟨Ao48, co48, eo48⟩ := Kd.R_slice HO_10.out
            subst eo48
            go_wp2
            go_loopg [15, 17] k3 (fun kq v15 v17 w' => ∃ (x15_4 : Bool) (x17_4 : Int), v15 = .bool x15_4 ∧ v17 = .int .i64 x17_4 ∧ Aside0 (mummerlaw11_BindsMore.l3 kq l0 a1 t454 t461 x15_4 x16_3 x17_4 = some r) ∧ Aside0 (kq ≤ k3) ∧ Aside0 (Kd.R (Kd.int .i64) 3 w' w.heap.size (fun _ => True) (.slice Ao48 t461.length co48) t461) ∧ Aside0 (w'.heap[gb448]? = some (.cells #[.string a2_0, .string a2_1] 41 (0, 0))) ∧ Aside0 (Below w.heap.size w w'))
            case atStart => exact ⟨(x15_3), (0), (by first | rfl | (simp; done) | (simp [*]; done)), (by first | rfl | (simp; done) | (simp [*]; done)), H', ⟨Nat.le_refl _⟩, ⟨by (with_reducible repeat (first | apply Kd.R_alloc | apply Kd.R_drewN | apply Kd.R_drew)); exact HO_10.out⟩, ⟨by (with_reducible repeat (first | refine bN ?_ _ | refine bD ?_ | refine bA ?_ _)); exact BK448.out⟩, ⟨by repeat (first | (with_reducible first | exact HB.out | apply wA | apply wN | apply wD | refine below_set ?_ GE448.out) | exact HB.out)⟩⟩
            case round =>
             clear H'
             try clear c1
             try clear c2
             try clear p2
             try clear c3
             try clear c4
             try clear p4
             try clear q4
             try clear hx4
             try clear c5
             try clear c6
             try clear p6
             try clear c10
             try clear c11
             try clear c14
             try clear c14b0
             try clear c14b1
             try clear c17
             try clear c23
             try clear c28
             try clear c28b0
             try clear c28b1
             try clear c29
             try clear c30
             try clear c30b0
             try clear c30b1
             try clear c33
             try clear c33b0
             try clear c35
             try clear c35b0
             try clear c36
             try clear c39
             try clear c39b0
             try clear c40
             try clear c40b0
             try clear c41
             try clear c41b0
             try clear c44
             try clear p46
             try clear q46
             try clear hx46
             try clear c47
             try clear c47b0
             try clear hcz19_0
             try clear hcz19_1
             try clear hcz23_0
             try clear hcz23_1
             try clear hcz25_0
             try clear hcz25_1
             try clear hcz8_0
             try clear hcz8_1
             try clear hfz19_0
             try clear hfz19_1
             try clear hfz23_0
             try clear hfz23_1
             try clear hfz25_0
             try clear hfz25_1
             try clear hfz8_0
             try clear hfz8_1
             try clear hx466_0
             try clear hx467_0
             try clear p2
             try clear p4
             try clear p46
             try clear p466
             try clear p467
             try clear p6
             try clear q4
             try clear q46
             try clear q466
             try clear q467
             obtain ⟨x15_4, x17_4, rfl, rfl, HA, HK4, HO_10, BK448, HB⟩ := hrel
             cases gk with
             | zero => exact absurd HA.out (by simp [mummerlaw11_BindsMore.l3])
             | succ k4 =>
              have H := HA.out
              clear HA
              simp only [mummerlaw11_BindsMore.l3] at H
              by_cases c49 : x17_4 < x16_3
              ·rw [if_pos c49] at H
               have c49b0 : decide (x17_4 < x16_3) = true := decide_eq_true c49
               clear c49
               by_cases c50 : 0 ≤ x16_3
               ·rw [if_pos c50] at H
                have c50b0 : decide (0 ≤ x16_3) = true := decide_eq_true c50
                clear c50
                by_cases c51 : x16_3 < (t461.length : Int)
                ·rw [if_pos c51] at H
                 have c51b0 : decide (x16_3 < (t461.length : Int)) = true := decide_eq_true c51
                 clear c51
                 by_cases c52 : (rd t461 x16_3) < 0
                 ·rw [if_pos c52] at H
                  have c52b0 : decide ((rd t461 x16_3) < 0) = true := decide_eq_true c52
                  clear c52
                  exact absurd ((Option.some.inj H).trans hrt.out) (by decide)
                 ·rw [if_neg c52] at H
                  have c52b0 : decide ((rd t461 x16_3) < 0) = false := decide_eq_false c52
                  clear c52
                  by_cases c53 : (rd t461 x16_3) ≥ (l0.length : Int)
                  ·rw [if_pos c53] at H
                   have c53b0 : decide ((l0.length : Int) ≤ (rd t461 x16_3)) = true := decide_eq_true c53
                   clear c53
                   exact absurd ((Option.some.inj H).trans hrt.out) (by decide)
                  ·rw [if_neg c53] at H
                   have c53b0 : decide ((l0.length : Int) ≤ (rd t461 x16_3)) = false := decide_eq_false c53
                   clear c53
                   by_cases c54 : 0 ≤ x17_4
                   ·rw [if_pos c54] at H
                    have c54b0 : decide (0 ≤ x17_4) = true := decide_eq_true c54
                    clear c54
                    by_cases c55 : x17_4 < (t461.length : Int)
                    ·rw [if_pos c55] at H
                     have c55b0 : decide (x17_4 < (t461.length : Int)) = true := decide_eq_true c55
                     clear c55
                     by_cases c56 : (rd t461 x17_4) < 0
                     ·rw [if_pos c56] at H
                      have c56b0 : decide ((rd t461 x17_4) < 0) = true := decide_eq_true c56
                      clear c56
                      exact absurd ((Option.some.inj H).trans hrt.out) (by decide)
                     ·rw [if_neg c56] at H
                      have c56b0 : decide ((rd t461 x17_4) < 0) = false := decide_eq_false c56
                      clear c56
                      by_cases c57 : (rd t461 x17_4) ≥ (l0.length : Int)
                      ·rw [if_pos c57] at H
                       have c57b0 : decide ((l0.length : Int) ≤ (rd t461 x17_4)) = true := decide_eq_true c57
                       clear c57
                       exact absurd ((Option.some.inj H).trans hrt.out) (by decide)
                      ·rw [if_neg c57] at H
                       have c57b0 : decide ((l0.length : Int) ≤ (rd t461 x17_4)) = false := decide_eq_false c57
                       clear c57
                       by_cases c58 : x15_4 = true
                       ·subst c58
                        have H1 : (if 0 ≤ (rd t461 x16_3) then (if (rd t461 x16_3) < (l0.length : Int) then (if 0 ≤ (rd t461 x17_4) then (if (rd t461 x17_4) < (l0.length : Int) then ((mummerlaw11_sub.f k4 ((rd_T24 l0 (rd t461 x16_3)).f1) ((rd_T24 l0 (rd t461 x17_4)).f1)).bind fun t482 => (if t482 = true then (mummerlaw11_BindsMore.l3 k4 l0 a1 t454 t461 true x16_3 (wrap64 (x17_4 + 1))) else ((mummerlaw11_sub.f k4 ((rd_T24 l0 (rd t461 x17_4)).f1) ((rd_T24 l0 (rd t461 x16_3)).f1)).bind fun t487 => (mummerlaw11_BindsMore.l3 k4 l0 a1 t454 t461 t487 x16_3 (wrap64 (x17_4 + 1)))))) else (none)) else (none)) else (none)) else (none)) = some r := by rw [if_pos rfl] at H; exact H
                        clear H
                        have H := H1
                        clear H1
                        by_cases c59 : 0 ≤ (rd t461 x16_3)
                        ·rw [if_pos c59] at H
                         have c59b0 : decide (0 ≤ (rd t461 x16_3)) = true := decide_eq_true c59
                         clear c59
                         by_cases c60 : (rd t461 x16_3) < (l0.length : Int)
                         ·rw [if_pos c60] at H
                          have c60b0 : decide ((rd t461 x16_3) < (l0.length : Int)) = true := decide_eq_true c60
                          clear c60
                          by_cases c61 : 0 ≤ (rd t461 x17_4)
                          ·rw [if_pos c61] at H
                           have c61b0 : decide (0 ≤ (rd t461 x17_4)) = true := decide_eq_true c61
                           clear c61
                           by_cases c62 : (rd t461 x17_4) < (l0.length : Int)
                           ·rw [if_pos c62] at H
                            have c62b0 : decide ((rd t461 x17_4) < (l0.length : Int)) = true := decide_eq_true c62
                            clear c62
                            replace H := Option.bind_eq_some_iff.mp H
                            obtain ⟨t482, A630, H⟩ := H
                            replace H : (if t482 = true then (mummerlaw11_BindsMore.l3 k4 l0 a1 t454 t461 true x16_3 (wrap64 (x17_4 + 1))) else ((mummerlaw11_sub.f k4 ((rd_T24 l0 (rd t461 x17_4)).f1) ((rd_T24 l0 (rd t461 x16_3)).f1)).bind fun t487 => (mummerlaw11_BindsMore.l3 k4 l0 a1 t454 t461 t487 x16_3 (wrap64 (x17_4 + 1))))) = some r := H
                            have A63 := ak A630
                            clear A630
                            by_cases c64 : t482 = true
                            ·subst c64
                             have H1 : (mummerlaw11_BindsMore.l3 k4 l0 a1 t454 t461 true x16_3 (wrap64 (x17_4 + 1))) = some r := by rw [if_pos rfl] at H; exact H
                             clear H
                             have H := H1
                             clear H1
                             have H' := ak H
                             clear H
                             have p474 : 0 ≤ (x16_3 : Int) := of_decide_eq_true (by first | (with_reducible assumption) | assumption)
                             have q474 : x16_3 < (t461.length : Int) := of_decide_eq_true (by first | (with_reducible assumption) | assumption)
                             obtain ⟨ad474, e474, hx474_0⟩ := Kd.at_int (Kd.R_reads' HO_10.out).2.2 x16_3 p474 q474
                             cases e474
                             replace p474 := eq_true p474
                             replace q474 := eq_true q474
                             have p475 : 0 ≤ (x16_3 : Int) := of_decide_eq_true (by first | (with_reducible assumption) | assumption)
                             have q475 : x16_3 < (t461.length : Int) := of_decide_eq_true (by first | (with_reducible assumption) | assumption)
                             obtain ⟨ad475, e475, hx475_0⟩ := Kd.at_int (Kd.R_reads' HO_10.out).2.2 x16_3 p475 q475
                             obtain rfl : ad474 = ad475 := (by injection e475)
                             replace p475 := eq_true p475
                             replace q475 := eq_true q475
                             have p476 : 0 ≤ (x17_4 : Int) := of_decide_eq_true (by first | (with_reducible assumption) | assumption)
                             have q476 : x17_4 < (t461.length : Int) := of_decide_eq_true (by first | (with_reducible assumption) | assumption)
                             obtain ⟨ad476, e476, hx476_0⟩ := Kd.at_int (Kd.R_reads' HO_10.out).2.2 x17_4 p476 q476
                             obtain rfl : ad474 = ad476 := (by injection e476)
                             replace p476 := eq_true p476
                             replace q476 := eq_true q476
                             have p477 : 0 ≤ (x17_4 : Int) := of_decide_eq_true (by first | (with_reducible assumption) | assumption)
                             have q477 : x17_4 < (t461.length : Int) := of_decide_eq_true (by first | (with_reducible assumption) | assumption)
                             obtain ⟨ad477, e477, hx477_0⟩ := Kd.at_int (Kd.R_reads' HO_10.out).2.2 x17_4 p477 q477
                             obtain rfl : ad474 = ad477 := (by injection e477)
                             replace p477 := eq_true p477
                             replace q477 := eq_true q477
                             try go_wp2
                             have n0_ := ak (Kd.R_drew HO_10.out)
                             have n1_ := ak (bD BK448.out)
                             have n2_ := ak (wD HB.out)
                             clear HO_10 BK448 HB
                             have HO_10 := n0_
                             have BK448 := n1_
                             have HB := n2_
                             clear n0_ n1_ n2_
                             have p478 : 0 ≤ (x16_3 : Int) := of_decide_eq_true (by first | (with_reducible assumption) | assumption)
                             have q478 : x16_3 < (t461.length : Int) := of_decide_eq_true (by first | (with_reducible assumption) | assumption)
                             obtain ⟨ad478, e478, hx478_0⟩ := Kd.at_int (Kd.R_reads' HO_10.out).2.2 x16_3 p478 q478
                             obtain rfl : ad474 = ad478 := (by injection e478)
                             replace p478 := eq_true p478
                             replace q478 := eq_true q478
                             have p479 : 0 ≤ ((rd t461 x16_3) : Int) := of_decide_eq_true (by first | (with_reducible assumption) | assumption)
                             have q479 : (rd t461 x16_3) < (l0.length : Int) := of_decide_eq_true (by first | (with_reducible assumption) | assumption)
                             obtain ⟨ad479, e479, hx479_0, hx479_1, hx479_2, hx479_3⟩ := at_T24 HR0.out (rd t461 x16_3) p479 q479
                             have hw479_3 := hx479_3
                             have hw479_2 := hx479_2
                             have hw479_1 := hx479_1
                             have hw479_0 := hx479_0
                             cases e479
                             replace hx479_0 := (HB.out.cell (World.block_lt_of_cell? w _ hx479_0)).trans hx479_0
                             replace hx479_1 := (HB.out.cell (World.block_lt_of_cell? w _ hx479_1)).trans hx479_1
                             replace hx479_2 := (HB.out.cell (World.block_lt_of_cell? w _ hx479_2)).trans hx479_2
                             replace hx479_3 := (HB.out.cell (World.block_lt_of_cell? w _ hx479_3)).trans hx479_3
                             replace p479 := eq_true p479
                             replace q479 := eq_true q479
                             have p480 : 0 ≤ (x17_4 : Int) := of_decide_eq_true (by first | (with_reducible assumption) | assumption)
                             have q480 : x17_4 < (t461.length : Int) := of_decide_eq_true (by first | (with_reducible assumption) | assumption)
                             obtain ⟨ad480, e480, hx480_0⟩ := Kd.at_int (Kd.R_reads' HO_10.out).2.2 x17_4 p480 q480
                             obtain rfl : ad474 = ad480 := (by injection e480)
                             replace p480 := eq_true p480
                             replace q480 := eq_true q480
                             have p481 : 0 ≤ ((rd t461 x17_4) : Int) := of_decide_eq_true (by first | (with_reducible assumption) | assumption)
                             have q481 : (rd t461 x17_4) < (l0.length : Int) := of_decide_eq_true (by first | (with_reducible assumption) | assumption)
                             obtain ⟨ad481, e481, hx481_0, hx481_1, hx481_2, hx481_3⟩ := at_T24 HR0.out (rd t461 x17_4) p481 q481
                             have hw481_3 := hx481_3
                             have hw481_2 := hx481_2
                             have hw481_1 := hx481_1
                             have hw481_0 := hx481_0
                             obtain rfl : ad479 = ad481 := (by injection e481)
                             replace hx481_0 := (HB.out.cell (World.block_lt_of_cell? w _ hx481_0)).trans hx481_0
                             replace hx481_1 := (HB.out.cell (World.block_lt_of_cell? w _ hx481_1)).trans hx481_1
                             replace hx481_2 := (HB.out.cell (World.block_lt_of_cell? w _ hx481_2)).trans hx481_2
                             replace hx481_3 := (HB.out.cell (World.block_lt_of_cell? w _ hx481_3)).trans hx481_3
                             replace p481 := eq_true p481
                             replace q481 := eq_true q481
                             refine start_ (n := 40) (S := fun w' => w'.cell? (ad474.add (x16_3).toNat) = some (.int .i64 (rd t461 x16_3)) ∧ w'.cell? (ad479.add (((rd t461 x16_3)).toNat * 4)) = some (.string ((rd_T24 l0 (rd t461 x16_3)).f0)) ∧ w'.cell? ⟨(ad479.add (((rd t461 x16_3)).toNat * 4)).block, (ad479.add (((rd t461 x16_3)).toNat * 4)).off + 1, none⟩ = some (.string ((rd_T24 l0 (rd t461 x16_3)).f1)) ∧ w'.cell? ⟨(ad479.add (((rd t461 x16_3)).toNat * 4)).block, (ad479.add (((rd t461 x16_3)).toNat * 4)).off + 2, none⟩ = some (.int .i64 ((rd_T24 l0 (rd t461 x16_3)).f2)) ∧ w'.cell? ⟨(ad479.add (((rd t461 x16_3)).toNat * 4)).block, (ad479.add (((rd t461 x16_3)).toNat * 4)).off + 3, none⟩ = some (.int .i64 ((rd_T24 l0 (rd t461 x16_3)).f3)) ∧ w'.cell? (ad474.add (x17_4).toNat) = some (.int .i64 (rd t461 x17_4)) ∧ w'.cell? (ad479.add (((rd t461 x17_4)).toNat * 4)) = some (.string ((rd_T24 l0 (rd t461 x17_4)).f0)) ∧ w'.cell? ⟨(ad479.add (((rd t461 x17_4)).toNat * 4)).block, (ad479.add (((rd t461 x17_4)).toNat * 4)).off + 1, none⟩ = some (.string ((rd_T24 l0 (rd t461 x17_4)).f1)) ∧ w'.cell? ⟨(ad479.add (((rd t461 x17_4)).toNat * 4)).block, (ad479.add (((rd t461 x17_4)).toNat * 4)).off + 2, none⟩ = some (.int .i64 ((rd_T24 l0 (rd t461 x17_4)).f2)) ∧ w'.cell? ⟨(ad479.add (((rd t461 x17_4)).toNat * 4)).block, (ad479.add (((rd t461 x17_4)).toNat * 4)).off + 3, none⟩ = some (.int .i64 ((rd_T24 l0 (rd t461 x17_4)).f3))) (ds := []) q6_11 (by kernel_rfl) rfl rfl ⟨hx478_0, ((HB.out.cell (World.block_lt_of_cell? w _ hw479_0)).trans hw479_0), ((HB.out.cell (World.block_lt_of_cell? w _ hw479_1)).trans hw479_1), ((HB.out.cell (World.block_lt_of_cell? w _ hw479_2)).trans hw479_2), ((HB.out.cell (World.block_lt_of_cell? w _ hw479_3)).trans hw479_3), hx480_0, ((HB.out.cell (World.block_lt_of_cell? w _ hw481_0)).trans hw481_0), ((HB.out.cell (World.block_lt_of_cell? w _ hw481_1)).trans hw481_1), ((HB.out.cell (World.block_lt_of_cell? w _ hw481_2)).trans hw481_2), ((HB.out.cell (World.block_lt_of_cell? w _ hw481_3)).trans hw481_3)⟩ (fun hHeld => ?_); refine with_tabW mummerlaw11_BindsMore.tab29 mummerlaw11_BindsMore.bits29 (fun HT_ HW_ => ?_)
                             generalize wr.drew = w65 at HO_10 BK448 HB hx478_0 hx479_0 hx479_1 hx479_2 hx479_3 hx480_0 hx481_0 hx481_1 hx481_2 hx481_3 hHeld ⊢
                             refine pure_ (i := 0) (N := some 134) (v := ?_) (a' := ?_) q6_12 rfl rfl (any_of HT_.out (by kernel_rfl)) (fun _ _ _ h => h) (Or.inl ⟨by rfl, ?_⟩) ?_ ?_; rotate_left; ·(intro w'; go_simp; with_reducible rfl)
                             rotate_left; ·(simp only [Act.put, sA_, s0_, s1_, i64_w, i32_w]; rfl)
                             refine pure_ (i := 1) (N := some 135) (v := ?_) (a' := ?_) q6_13 rfl rfl (any_of HT_.out (by kernel_rfl)) (fun _ _ _ h => h) (Or.inl ⟨by rfl, ?_⟩) ?_ ?_; rotate_left; ·(intro w'; go_simp; with_reducible rfl)
                             rotate_left; ·(simp only [Act.put, sA_, s0_, s1_, i64_w, i32_w]; rfl)
                             refine pure_ (i := 2) (N := some 136) (v := ?_) (a' := ?_) q6_14 rfl rfl (any_of HT_.out (by kernel_rfl)) (fun _ _ _ h => h) (Or.inl ⟨by rfl, ?_⟩) ?_ ?_; rotate_left; ·(intro w'; go_simp; with_reducible rfl)
                             rotate_left; ·(simp only [Act.put, sA_, s0_, s1_, i64_w, i32_w]; rfl)
                             refine pure_ (i := 3) (N := some 137) (v := ?_) (a' := ?_) q6_15 rfl rfl (any_of HT_.out (by kernel_rfl)) (fun _ _ _ h => h) (Or.inl ⟨by rfl, ?_⟩) ?_ ?_; rotate_left; ·(intro w'; go_simp; with_reducible rfl)
                             rotate_left; ·(simp only [Act.put, sA_, s0_, s1_, i64_w, i32_w]; rfl)
                             refine pure_ (i := 4) (N := some 138) (v := ?_) (a' := ?_) q6_16 rfl rfl (any_of HT_.out (by kernel_rfl)) (fun _ _ _ h => h) (Or.inl ⟨by rfl, ?_⟩) ?_ ?_; rotate_left; ·(intro w'; go_simp; with_reducible rfl)
                             rotate_left; ·(simp only [Act.put, sA_, s0_, s1_, i64_w, i32_w]; rfl)
                             refine pure_ (i := 5) (N := some 139) (v := ?_) (a' := ?_) q6_17 rfl rfl (any_of HT_.out (by kernel_rfl)) (fun _ _ _ h => h) (Or.inl ⟨by rfl, ?_⟩) ?_ ?_; rotate_left; ·(intro w'; go_simp; with_reducible rfl)
                             rotate_left; ·(simp only [Act.put, sA_, s0_, s1_, i64_w, i32_w]; rfl)
                             refine pure_ (i := 10) (N := some 144) (v := ?_) (a' := ?_) q6_18 rfl rfl (any_of HT_.out (by kernel_rfl)) (fun _ _ _ h => h) (Or.inl ⟨by rfl, ?_⟩) ?_ ?_; rotate_left; ·(intro w'; go_simp; with_reducible rfl)
                             rotate_left; ·(simp only [Act.put, sA_, s0_, s1_, i64_w, i32_w]; rfl)
                             refine pure_ (i := 11) (N := some 145) (v := ?_) (a' := ?_) q6_19 rfl rfl (any_of HT_.out (by kernel_rfl)) (fun _ _ _ h => h) (Or.inl ⟨by rfl, ?_⟩) ?_ ?_; rotate_left; ·(intro w'; go_simp; with_reducible rfl)
                             rotate_left; ·(simp only [Act.put, sA_, s0_, s1_, i64_w, i32_w]; rfl)
                             refine pure_ (i := 12) (N := some 146) (v := ?_) (a' := ?_) q6_20 rfl rfl (any_of HT_.out (by kernel_rfl)) (fun _ _ _ h => h) (Or.inl ⟨by rfl, ?_⟩) ?_ ?_; rotate_left; ·(intro w'; go_simp; with_reducible rfl)
                             rotate_left; ·(simp only [Act.put, sA_, s0_, s1_, i64_w, i32_w]; rfl)
                             refine pure_ (i := 13) (N := some 147) (v := ?_) (a' := ?_) q6_21 rfl rfl (any_of HT_.out (by kernel_rfl)) (fun _ _ _ h => h) (Or.inl ⟨by rfl, ?_⟩) ?_ ?_; rotate_left; ·(intro w'; go_simp; with_reducible rfl)
                             rotate_left; ·(simp only [Act.put, sA_, s0_, s1_, i64_w, i32_w]; rfl)
                             refine take_ (i := 6) (N := some 140) (v := ?_) (a' := ?_) q6_22 rfl rfl (take_ofW HT_.out HW_.out (by kernel_rfl)) (fun _ _ _ h => h) (Or.inl ⟨by rfl, ?_⟩) hHeld ?_ ?_; rotate_left; ·(rintro w' ⟨s0, s1, s2, s3, s4, s5, s6, s7, s8, s9⟩; go_simp; with_reducible rfl)
                             rotate_left; ·(simp only [Act.put, sA_, s0_, s1_, i64_w, i32_w]; rfl)
                             refine pure_ (i := 7) (N := some 141) (v := ?_) (a' := ?_) q6_23 rfl rfl (any_of HT_.out (by kernel_rfl)) (fun _ _ _ h => h) (Or.inl ⟨by rfl, ?_⟩) ?_ ?_; rotate_left; ·(intro w'; go_simp; with_reducible rfl)
                             rotate_left; ·(simp only [Act.put, sA_, s0_, s1_, i64_w, i32_w]; rfl)
                             refine pure_ (i := 8) (N := some 142) (v := ?_) (a' := ?_) q6_24 rfl rfl (any_of HT_.out (by kernel_rfl)) (fun _ _ _ h => h) (Or.inl ⟨by rfl, ?_⟩) ?_ ?_; rotate_left; ·(intro w'; go_simp; with_reducible rfl)
                             rotate_left; ·(simp only [Act.put, sA_, s0_, s1_, i64_w, i32_w]; rfl)
                             refine take_ (i := 9) (N := some 143) (v := ?_) (a' := ?_) q6_25 rfl rfl (take_ofW HT_.out HW_.out (by kernel_rfl)) (fun _ _ _ h => h) (Or.inl ⟨by rfl, ?_⟩) hHeld ?_ ?_; rotate_left; ·(rintro w' ⟨s0, s1, s2, s3, s4, s5, s6, s7, s8, s9⟩; go_simp; with_reducible rfl)
                             rotate_left; ·(simp only [Act.put, sA_, s0_, s1_, i64_w, i32_w]; rfl)
                             refine take_ (i := 14) (N := some 148) (v := ?_) (a' := ?_) q6_26 rfl rfl (take_ofW HT_.out HW_.out (by kernel_rfl)) (fun _ _ _ h => h) (Or.inl ⟨by rfl, ?_⟩) hHeld ?_ ?_; rotate_left; ·(rintro w' ⟨s0, s1, s2, s3, s4, s5, s6, s7, s8, s9⟩; go_simp; with_reducible rfl)
                             rotate_left; ·(simp only [Act.put, sA_, s0_, s1_, i64_w, i32_w]; rfl)
                             refine pure_ (i := 15) (N := some 149) (v := ?_) (a' := ?_) q6_27 rfl rfl (any_of HT_.out (by kernel_rfl)) (fun _ _ _ h => h) (Or.inl ⟨by rfl, ?_⟩) ?_ ?_; rotate_left; ·(intro w'; go_simp; with_reducible rfl)
                             rotate_left; ·(simp only [Act.put, sA_, s0_, s1_, i64_w, i32_w]; rfl)
                             refine pure_ (i := 16) (N := some 150) (v := ?_) (a' := ?_) q6_28 rfl rfl (any_of HT_.out (by kernel_rfl)) (fun _ _ _ h => h) (Or.inl ⟨by rfl, ?_⟩) ?_ ?_; rotate_left; ·(intro w'; go_simp; with_reducible rfl)
                             rotate_left; ·(simp only [Act.put, sA_, s0_, s1_, i64_w, i32_w]; rfl)
                             refine take_ (i := 17) (N := some 151) (v := ?_) (a' := ?_) q6_29 rfl rfl (take_ofW HT_.out HW_.out (by kernel_rfl)) (fun _ _ _ h => h) (Or.inl ⟨by rfl, ?_⟩) hHeld ?_ ?_; rotate_left; ·(rintro w' ⟨s0, s1, s2, s3, s4, s5, s6, s7, s8, s9⟩; go_simp; with_reducible rfl)
                             rotate_left; ·(simp only [Act.put, sA_, s0_, s1_, i64_w, i32_w]; rfl)
                             refine one_ (i := 18) (N := some 152) q6_30 rfl rfl (one_of HT_.out (by kernel_rfl)) (by decide) (fun K hK => ?_)
                             refine goes_ Try.func22 (by kernel_rfl) rfl #[.string ((rd_T24 l0 (rd t461 x16_3)).f1), .string ((rd_T24 l0 (rd t461 x17_4)).f1)] (by rfl) rfl rfl (by (try simp only [List.map_toArray, List.map_cons, List.map_nil]); first | done | rfl | (simp only [List.length_drop, List.length_take]; rfl)) ?_
                             with_reducible refine (mummerlaw11_sub.calls k4 ((rd_T24 l0 (rd t461 x16_3)).f1) ((rd_T24 l0 (rd t461 x17_4)).f1) true _ A63.out).mono ?_
                             rintro e w66 ⟨rfl, hb⟩
                             have HS0_ := (hb.cell (World.block_lt_of_cell? _ _ (hHeld.1))).trans (hHeld.1)
                             have HS5_ := (hb.cell (World.block_lt_of_cell? _ _ (hHeld.2.2.2.2.2.1))).trans (hHeld.2.2.2.2.2.1)
                             refine ⟨_, rfl, ?_⟩
                             have n0_ := ak (Kd.R_below (by (with_reducible repeat (first | apply Kd.R_alloc | apply Kd.R_drewN | apply Kd.R_drew)); exact HO_10.out) hb)
                             have n1_ := ak (blk_below (g := gb448) (o := .cells #[.string a2_0, .string a2_1] 41 (0, 0)) (by (with_reducible repeat (first | refine bN ?_ _ | refine bD ?_ | refine bA ?_ _)); exact BK448.out) hb)
                             have n2_ := ak (below_step (by repeat (first | (with_reducible first | exact HB.out | apply wA | apply wN | apply wD | refine below_set ?_ GE448.out) | exact HB.out)) hb)
                             clear HO_10 BK448 HB
                             have HO_10 := n0_
                             have BK448 := n1_
                             have HB := n2_
                             clear n0_ n1_ n2_
                             (try clear hb)
                             (try clear hb2)
                             (try clear hk)
                             (try clear hi)
                             refine hK.out _ _ ⟨HS0_, ((HB.out.cell (World.block_lt_of_cell? w _ hw479_0)).trans hw479_0), ((HB.out.cell (World.block_lt_of_cell? w _ hw479_1)).trans hw479_1), ((HB.out.cell (World.block_lt_of_cell? w _ hw479_2)).trans hw479_2), ((HB.out.cell (World.block_lt_of_cell? w _ hw479_3)).trans hw479_3), HS5_, ((HB.out.cell (World.block_lt_of_cell? w _ hw481_0)).trans hw481_0), ((HB.out.cell (World.block_lt_of_cell? w _ hw481_1)).trans hw481_1), ((HB.out.cell (World.block_lt_of_cell? w _ hw481_2)).trans hw481_2), ((HB.out.cell (World.block_lt_of_cell? w _ hw481_3)).trans hw481_3)⟩ (fun hHeld => ?_)
                             clear hK K
                             refine norm_ (a' := ?_) ?_ ?_
                             rotate_left
                             ·show Act.put _ (some 152) _ = _
                              simp only [Act.put, sA_, s0_, s1_, i64_w, i32_w]
                              rfl
                             refine pure_ (i := 19) (N := some 153) (v := ?_) (a' := ?_) q6_31 rfl rfl (any_of HT_.out (by kernel_rfl)) (fun _ _ _ h => h) (Or.inl ⟨by rfl, ?_⟩) ?_ ?_; rotate_left; ·(intro w'; go_simp; with_reducible rfl)
                             rotate_left; ·(simp only [Act.put, sA_, s0_, s1_, i64_w, i32_w]; rfl)
                             refine pure_ (i := 20) (N := some 154) (v := undef) (a' := ?_) q6_32 rfl rfl (any_of HT_.out (by kernel_rfl)) (fun _ _ _ h => h) (Or.inr ⟨by rfl, rfl⟩) ?_ ?_
                             rotate_left
                             ·simp only [Act.put, sA_, s0_, s1_, i64_w, i32_w]
                              rfl
                             refine pure_ (i := 21) (N := some 155) (v := undef) (a' := ?_) q6_33 rfl rfl (any_of HT_.out (by kernel_rfl)) (fun _ _ _ h => h) (Or.inr ⟨by rfl, rfl⟩) ?_ ?_
                             rotate_left
                             ·simp only [Act.put, sA_, s0_, s1_, i64_w, i32_w]
                              rfl
                             refine pure_ (i := 22) (N := some 156) (v := undef) (a' := ?_) q6_34 rfl rfl (any_of HT_.out (by kernel_rfl)) (fun _ _ _ h => h) (Or.inr ⟨by rfl, rfl⟩) ?_ ?_
                             rotate_left
                             ·simp only [Act.put, sA_, s0_, s1_, i64_w, i32_w]
                              rfl
                             refine pure_ (i := 23) (N := some 157) (v := undef) (a' := ?_) q6_35 rfl rfl (any_of HT_.out (by kernel_rfl)) (fun _ _ _ h => h) (Or.inr ⟨by rfl, rfl⟩) ?_ ?_
                             rotate_left
                             ·simp only [Act.put, sA_, s0_, s1_, i64_w, i32_w]
                              rfl
                             refine pure_ (i := 24) (N := some 158) (v := undef) (a' := ?_) q6_36 rfl rfl (any_of HT_.out (by kernel_rfl)) (fun _ _ _ h => h) (Or.inr ⟨by rfl, rfl⟩) ?_ ?_
                             rotate_left
                             ·simp only [Act.put, sA_, s0_, s1_, i64_w, i32_w]
                              rfl
                             refine pure_ (i := 25) (N := some 159) (v := undef) (a' := ?_) q6_37 rfl rfl (any_of HT_.out (by kernel_rfl)) (fun _ _ _ h => h) (Or.inr ⟨by rfl, rfl⟩) ?_ ?_
                             rotate_left
                             ·simp only [Act.put, sA_, s0_, s1_, i64_w, i32_w]
                              rfl
                             refine pure_ (i := 26) (N := some 160) (v := undef) (a' := ?_) q6_38 rfl rfl (any_of HT_.out (by kernel_rfl)) (fun _ _ _ h => h) (Or.inr ⟨by rfl, rfl⟩) ?_ ?_
                             rotate_left
                             ·simp only [Act.put, sA_, s0_, s1_, i64_w, i32_w]
                              rfl
                             refine pure_ (i := 27) (N := some 161) (v := undef) (a' := ?_) q6_39 rfl rfl (any_of HT_.out (by kernel_rfl)) (fun _ _ _ h => h) (Or.inr ⟨by rfl, rfl⟩) ?_ ?_
                             rotate_left
                             ·simp only [Act.put, sA_, s0_, s1_, i64_w, i32_w]
                              rfl
                             refine pure_ (i := 28) (N := some 162) (v := undef) (a' := ?_) q6_40 rfl rfl (any_of HT_.out (by kernel_rfl)) (fun _ _ _ h => h) (Or.inr ⟨by rfl, rfl⟩) ?_ ?_
                             rotate_left
                             ·simp only [Act.put, sA_, s0_, s1_, i64_w, i32_w]
                              rfl
                             refine pure_ (i := 29) (N := some 163) (v := undef) (a' := ?_) q6_41 rfl rfl (any_of HT_.out (by kernel_rfl)) (fun _ _ _ h => h) (Or.inr ⟨by rfl, rfl⟩) ?_ ?_
                             rotate_left
                             ·simp only [Act.put, sA_, s0_, s1_, i64_w, i32_w]
                              rfl
                             refine pure_ (i := 30) (N := some 164) (v := undef) (a' := ?_) q6_42 rfl rfl (any_of HT_.out (by kernel_rfl)) (fun _ _ _ h => h) (Or.inr ⟨by rfl, rfl⟩) ?_ ?_
                             rotate_left
                             ·simp only [Act.put, sA_, s0_, s1_, i64_w, i32_w]
                              rfl
                             refine pure_ (i := 31) (N := some 165) (v := undef) (a' := ?_) q6_43 rfl rfl (any_of HT_.out (by kernel_rfl)) (fun _ _ _ h => h) (Or.inr ⟨by rfl, rfl⟩) ?_ ?_
                             rotate_left
                             ·simp only [Act.put, sA_, s0_, s1_, i64_w, i32_w]
                              rfl
                             refine pure_ (i := 32) (N := some 166) (v := undef) (a' := ?_) q6_44 rfl rfl (any_of HT_.out (by kernel_rfl)) (fun _ _ _ h => h) (Or.inr ⟨by rfl, rfl⟩) ?_ ?_
                             rotate_left
                             ·simp only [Act.put, sA_, s0_, s1_, i64_w, i32_w]
                              rfl
                             refine pure_ (i := 33) (N := some 167) (v := undef) (a' := ?_) q6_45 rfl rfl (any_of HT_.out (by kernel_rfl)) (fun _ _ _ h => h) (Or.inr ⟨by rfl, rfl⟩) ?_ ?_
                             rotate_left
                             ·simp only [Act.put, sA_, s0_, s1_, i64_w, i32_w]
                              rfl
                             refine pure_ (i := 34) (N := some 168) (v := undef) (a' := ?_) q6_46 rfl rfl (any_of HT_.out (by kernel_rfl)) (fun _ _ _ h => h) (Or.inr ⟨by rfl, rfl⟩) ?_ ?_
                             rotate_left
                             ·simp only [Act.put, sA_, s0_, s1_, i64_w, i32_w]
                              rfl
                             refine pure_ (i := 35) (N := some 169) (v := undef) (a' := ?_) q6_47 rfl rfl (any_of HT_.out (by kernel_rfl)) (fun _ _ _ h => h) (Or.inr ⟨by rfl, rfl⟩) ?_ ?_
                             rotate_left
                             ·simp only [Act.put, sA_, s0_, s1_, i64_w, i32_w]
                              rfl
                             refine pure_ (i := 36) (N := some 170) (v := undef) (a' := ?_) q6_48 rfl rfl (any_of HT_.out (by kernel_rfl)) (fun _ _ _ h => h) (Or.inr ⟨by rfl, rfl⟩) ?_ ?_
                             rotate_left
                             ·simp only [Act.put, sA_, s0_, s1_, i64_w, i32_w]
                              rfl
                             refine pure_ (i := 37) (N := some 171) (v := ?_) (a' := ?_) q6_49 rfl rfl (any_of HT_.out (by kernel_rfl)) (fun _ _ _ h => h) (Or.inl ⟨by rfl, ?_⟩) ?_ ?_; rotate_left; ·(intro w'; go_simp; with_reducible rfl)
                             rotate_left; ·(simp only [Act.put, sA_, s0_, s1_, i64_w, i32_w]; rfl)
                             refine pure_ (i := 38) (N := some 172) (v := ?_) (a' := ?_) q6_50 rfl rfl (any_of HT_.out (by kernel_rfl)) (fun _ _ _ h => h) (Or.inl ⟨by rfl, ?_⟩) ?_ ?_; rotate_left; ·(intro w'; go_simp; with_reducible rfl)
                             rotate_left; ·(simp only [Act.put, sA_, s0_, s1_, i64_w, i32_w]; rfl)
                             refine pure_ (i := 39) (N := some 15) (v := ?_) (a' := ?_) q6_51 rfl rfl (any_of HT_.out (by kernel_rfl)) (fun _ _ _ h => h) (Or.inl ⟨by rfl, ?_⟩) ?_ ?_; rotate_left; ·(intro w'; go_simp; with_reducible rfl)
                             rotate_left; ·(simp only [Act.put, sA_, s0_, s1_, i64_w, i32_w]; rfl)
                             refine done_ (done_of HT_.out (by kernel_rfl)) ?_
                             try go_wp2
                             go_roundg k4
                             case measure => have := HJ16.out; have := HK2.out; have := HK3.out; have := HK4.out; omega
                             case rel => exact ⟨(true), (wrap64 (x17_4 + 1)), (by first | rfl | (simp; done) | (simp [*]; done)), (by first | rfl | (simp; done) | (simp [*]; done)), H', ⟨by have := HJ16.out; have := HK2.out; have := HK3.out; have := HK4.out; omega⟩, ⟨by (with_reducible repeat (first | apply Kd.R_alloc | apply Kd.R_drewN | apply Kd.R_drew)); exact HO_10.out⟩, ⟨by (with_reducible repeat (first | refine bN ?_ _ | refine bD ?_ | refine bA ?_ _)); exact BK448.out⟩, ⟨by repeat (first | (with_reducible first | exact HB.out | apply wA | apply wN | apply wD | refine below_set ?_ GE448.out) | exact HB.out)⟩⟩
                            ·replace c64 := Bool.eq_false_iff.mpr c64
                             subst c64
                             have H1 : ((mummerlaw11_sub.f k4 ((rd_T24 l0 (rd t461 x17_4)).f1) ((rd_T24 l0 (rd t461 x16_3)).f1)).bind fun t487 => (mummerlaw11_BindsMore.l3 k4 l0 a1 t454 t461 t487 x16_3 (wrap64 (x17_4 + 1)))) = some r := by rw [if_neg (show ¬ (false = true) by decide)] at H; exact H
                             clear H
                             have H := H1
                             clear H1
                             replace H := Option.bind_eq_some_iff.mp H
                             obtain ⟨t487, A670, H⟩ := H
                             replace H : (mummerlaw11_BindsMore.l3 k4 l0 a1 t454 t461 t487 x16_3 (wrap64 (x17_4 + 1))) = some r := H
                             have A67 := ak A670
                             clear A670
                             have H' := ak H
                             clear H
                             have p474 : 0 ≤ (x16_3 : Int) := of_decide_eq_true (by first | (with_reducible assumption) | assumption)
                             have q474 : x16_3 < (t461.length : Int) := of_decide_eq_true (by first | (with_reducible assumption) | assumption)
                             obtain ⟨ad474, e474, hx474_0⟩ := Kd.at_int (Kd.R_reads' HO_10.out).2.2 x16_3 p474 q474
                             cases e474
                             replace p474 := eq_true p474
                             replace q474 := eq_true q474
                             have p475 : 0 ≤ (x16_3 : Int) := of_decide_eq_true (by first | (with_reducible assumption) | assumption)
                             have q475 : x16_3 < (t461.length : Int) := of_decide_eq_true (by first | (with_reducible assumption) | assumption)
                             obtain ⟨ad475, e475, hx475_0⟩ := Kd.at_int (Kd.R_reads' HO_10.out).2.2 x16_3 p475 q475
                             obtain rfl : ad474 = ad475 := (by injection e475)
                             replace p475 := eq_true p475
                             replace q475 := eq_true q475
                             have p476 : 0 ≤ (x17_4 : Int) := of_decide_eq_true (by first | (with_reducible assumption) | assumption)
                             have q476 : x17_4 < (t461.length : Int) := of_decide_eq_true (by first | (with_reducible assumption) | assumption)
                             obtain ⟨ad476, e476, hx476_0⟩ := Kd.at_int (Kd.R_reads' HO_10.out).2.2 x17_4 p476 q476
                             obtain rfl : ad474 = ad476 := (by injection e476)
                             replace p476 := eq_true p476
                             replace q476 := eq_true q476
                             have p477 : 0 ≤ (x17_4 : Int) := of_decide_eq_true (by first | (with_reducible assumption) | assumption)
                             have q477 : x17_4 < (t461.length : Int) := of_decide_eq_true (by first | (with_reducible assumption) | assumption)
                             obtain ⟨ad477, e477, hx477_0⟩ := Kd.at_int (Kd.R_reads' HO_10.out).2.2 x17_4 p477 q477
                             obtain rfl : ad474 = ad477 := (by injection e477)
                             replace p477 := eq_true p477
                             replace q477 := eq_true q477
                             try go_wp2
                             have n0_ := ak (Kd.R_drew HO_10.out)
                             have n1_ := ak (bD BK448.out)
                             have n2_ := ak (wD HB.out)
                             clear HO_10 BK448 HB
                             have HO_10 := n0_
                             have BK448 := n1_
                             have HB := n2_
                             clear n0_ n1_ n2_
                             have p478 : 0 ≤ (x16_3 : Int) := of_decide_eq_true (by first | (with_reducible assumption) | assumption)
                             have q478 : x16_3 < (t461.length : Int) := of_decide_eq_true (by first | (with_reducible assumption) | assumption)
                             obtain ⟨ad478, e478, hx478_0⟩ := Kd.at_int (Kd.R_reads' HO_10.out).2.2 x16_3 p478 q478
                             obtain rfl : ad474 = ad478 := (by injection e478)
                             replace p478 := eq_true p478
                             replace q478 := eq_true q478
                             have p479 : 0 ≤ ((rd t461 x16_3) : Int) := of_decide_eq_true (by first | (with_reducible assumption) | assumption)
                             have q479 : (rd t461 x16_3) < (l0.length : Int) := of_decide_eq_true (by first | (with_reducible assumption) | assumption)
                             obtain ⟨ad479, e479, hx479_0, hx479_1, hx479_2, hx479_3⟩ := at_T24 HR0.out (rd t461 x16_3) p479 q479
                             have hw479_3 := hx479_3
                             have hw479_2 := hx479_2
                             have hw479_1 := hx479_1
                             have hw479_0 := hx479_0
                             cases e479
                             replace hx479_0 := (HB.out.cell (World.block_lt_of_cell? w _ hx479_0)).trans hx479_0
                             replace hx479_1 := (HB.out.cell (World.block_lt_of_cell? w _ hx479_1)).trans hx479_1
                             replace hx479_2 := (HB.out.cell (World.block_lt_of_cell? w _ hx479_2)).trans hx479_2
                             replace hx479_3 := (HB.out.cell (World.block_lt_of_cell? w _ hx479_3)).trans hx479_3
                             replace p479 := eq_true p479
                             replace q479 := eq_true q479
                             have p480 : 0 ≤ (x17_4 : Int) := of_decide_eq_true (by first | (with_reducible assumption) | assumption)
                             have q480 : x17_4 < (t461.length : Int) := of_decide_eq_true (by first | (with_reducible assumption) | assumption)
                             obtain ⟨ad480, e480, hx480_0⟩ := Kd.at_int (Kd.R_reads' HO_10.out).2.2 x17_4 p480 q480
                             obtain rfl : ad474 = ad480 := (by injection e480)
                             replace p480 := eq_true p480
                             replace q480 := eq_true q480
                             have p481 : 0 ≤ ((rd t461 x17_4) : Int) := of_decide_eq_true (by first | (with_reducible assumption) | assumption)
                             have q481 : (rd t461 x17_4) < (l0.length : Int) := of_decide_eq_true (by first | (with_reducible assumption) | assumption)
                             obtain ⟨ad481, e481, hx481_0, hx481_1, hx481_2, hx481_3⟩ := at_T24 HR0.out (rd t461 x17_4) p481 q481
                             have hw481_3 := hx481_3
                             have hw481_2 := hx481_2
                             have hw481_1 := hx481_1
                             have hw481_0 := hx481_0
                             obtain rfl : ad479 = ad481 := (by injection e481)
                             replace hx481_0 := (HB.out.cell (World.block_lt_of_cell? w _ hx481_0)).trans hx481_0
                             replace hx481_1 := (HB.out.cell (World.block_lt_of_cell? w _ hx481_1)).trans hx481_1
                             replace hx481_2 := (HB.out.cell (World.block_lt_of_cell? w _ hx481_2)).trans hx481_2
                             replace hx481_3 := (HB.out.cell (World.block_lt_of_cell? w _ hx481_3)).trans hx481_3
                             replace p481 := eq_true p481
                             replace q481 := eq_true q481
                             have p483 : 0 ≤ (x17_4 : Int) := of_decide_eq_true (by first | (with_reducible assumption) | assumption)
                             have q483 : x17_4 < (t461.length : Int) := of_decide_eq_true (by first | (with_reducible assumption) | assumption)
                             obtain ⟨ad483, e483, hx483_0⟩ := Kd.at_int (Kd.R_reads' HO_10.out).2.2 x17_4 p483 q483
                             obtain rfl : ad474 = ad483 := (by injection e483)
                             replace p483 := eq_true p483
                             replace q483 := eq_true q483
                             have p484 : 0 ≤ ((rd t461 x17_4) : Int) := of_decide_eq_true (by first | (with_reducible assumption) | assumption)
                             have q484 : (rd t461 x17_4) < (l0.length : Int) := of_decide_eq_true (by first | (with_reducible assumption) | assumption)
                             obtain ⟨ad484, e484, hx484_0, hx484_1, hx484_2, hx484_3⟩ := at_T24 HR0.out (rd t461 x17_4) p484 q484
                             have hw484_3 := hx484_3
                             have hw484_2 := hx484_2
                             have hw484_1 := hx484_1
                             have hw484_0 := hx484_0
                             obtain rfl : ad479 = ad484 := (by injection e484)
                             replace hx484_0 := (HB.out.cell (World.block_lt_of_cell? w _ hx484_0)).trans hx484_0
                             replace hx484_1 := (HB.out.cell (World.block_lt_of_cell? w _ hx484_1)).trans hx484_1
                             replace hx484_2 := (HB.out.cell (World.block_lt_of_cell? w _ hx484_2)).trans hx484_2
                             replace hx484_3 := (HB.out.cell (World.block_lt_of_cell? w _ hx484_3)).trans hx484_3
                             replace p484 := eq_true p484
                             replace q484 := eq_true q484
                             have p485 : 0 ≤ (x16_3 : Int) := of_decide_eq_true (by first | (with_reducible assumption) | assumption)
                             have q485 : x16_3 < (t461.length : Int) := of_decide_eq_true (by first | (with_reducible assumption) | assumption)
                             obtain ⟨ad485, e485, hx485_0⟩ := Kd.at_int (Kd.R_reads' HO_10.out).2.2 x16_3 p485 q485
                             obtain rfl : ad474 = ad485 := (by injection e485)
                             replace p485 := eq_true p485
                             replace q485 := eq_true q485
                             have p486 : 0 ≤ ((rd t461 x16_3) : Int) := of_decide_eq_true (by first | (with_reducible assumption) | assumption)
                             have q486 : (rd t461 x16_3) < (l0.length : Int) := of_decide_eq_true (by first | (with_reducible assumption) | assumption)
                             obtain ⟨ad486, e486, hx486_0, hx486_1, hx486_2, hx486_3⟩ := at_T24 HR0.out (rd t461 x16_3) p486 q486
                             have hw486_3 := hx486_3
                             have hw486_2 := hx486_2
                             have hw486_1 := hx486_1
                             have hw486_0 := hx486_0
                             obtain rfl : ad479 = ad486 := (by injection e486)
                             replace hx486_0 := (HB.out.cell (World.block_lt_of_cell? w _ hx486_0)).trans hx486_0
                             replace hx486_1 := (HB.out.cell (World.block_lt_of_cell? w _ hx486_1)).trans hx486_1
                             replace hx486_2 := (HB.out.cell (World.block_lt_of_cell? w _ hx486_2)).trans hx486_2
                             replace hx486_3 := (HB.out.cell (World.block_lt_of_cell? w _ hx486_3)).trans hx486_3
                             replace p486 := eq_true p486
                             replace q486 := eq_true q486
                             refine start_ (n := 40) (S := fun w' => w'.cell? (ad474.add (x16_3).toNat) = some (.int .i64 (rd t461 x16_3)) ∧ w'.cell? (ad479.add (((rd t461 x16_3)).toNat * 4)) = some (.string ((rd_T24 l0 (rd t461 x16_3)).f0)) ∧ w'.cell? ⟨(ad479.add (((rd t461 x16_3)).toNat * 4)).block, (ad479.add (((rd t461 x16_3)).toNat * 4)).off + 1, none⟩ = some (.string ((rd_T24 l0 (rd t461 x16_3)).f1)) ∧ w'.cell? ⟨(ad479.add (((rd t461 x16_3)).toNat * 4)).block, (ad479.add (((rd t461 x16_3)).toNat * 4)).off + 2, none⟩ = some (.int .i64 ((rd_T24 l0 (rd t461 x16_3)).f2)) ∧ w'.cell? ⟨(ad479.add (((rd t461 x16_3)).toNat * 4)).block, (ad479.add (((rd t461 x16_3)).toNat * 4)).off + 3, none⟩ = some (.int .i64 ((rd_T24 l0 (rd t461 x16_3)).f3)) ∧ w'.cell? (ad474.add (x17_4).toNat) = some (.int .i64 (rd t461 x17_4)) ∧ w'.cell? (ad479.add (((rd t461 x17_4)).toNat * 4)) = some (.string ((rd_T24 l0 (rd t461 x17_4)).f0)) ∧ w'.cell? ⟨(ad479.add (((rd t461 x17_4)).toNat * 4)).block, (ad479.add (((rd t461 x17_4)).toNat * 4)).off + 1, none⟩ = some (.string ((rd_T24 l0 (rd t461 x17_4)).f1)) ∧ w'.cell? ⟨(ad479.add (((rd t461 x17_4)).toNat * 4)).block, (ad479.add (((rd t461 x17_4)).toNat * 4)).off + 2, none⟩ = some (.int .i64 ((rd_T24 l0 (rd t461 x17_4)).f2)) ∧ w'.cell? ⟨(ad479.add (((rd t461 x17_4)).toNat * 4)).block, (ad479.add (((rd t461 x17_4)).toNat * 4)).off + 3, none⟩ = some (.int .i64 ((rd_T24 l0 (rd t461 x17_4)).f3)) ∧ w'.cell? (ad474.add (x17_4).toNat) = some (.int .i64 (rd t461 x17_4)) ∧ w'.cell? (ad479.add (((rd t461 x17_4)).toNat * 4)) = some (.string ((rd_T24 l0 (rd t461 x17_4)).f0)) ∧ w'.cell? ⟨(ad479.add (((rd t461 x17_4)).toNat * 4)).block, (ad479.add (((rd t461 x17_4)).toNat * 4)).off + 1, none⟩ = some (.string ((rd_T24 l0 (rd t461 x17_4)).f1)) ∧ w'.cell? ⟨(ad479.add (((rd t461 x17_4)).toNat * 4)).block, (ad479.add (((rd t461 x17_4)).toNat * 4)).off + 2, none⟩ = some (.int .i64 ((rd_T24 l0 (rd t461 x17_4)).f2)) ∧ w'.cell? ⟨(ad479.add (((rd t461 x17_4)).toNat * 4)).block, (ad479.add (((rd t461 x17_4)).toNat * 4)).off + 3, none⟩ = some (.int .i64 ((rd_T24 l0 (rd t461 x17_4)).f3)) ∧ w'.cell? (ad474.add (x16_3).toNat) = some (.int .i64 (rd t461 x16_3)) ∧ w'.cell? (ad479.add (((rd t461 x16_3)).toNat * 4)) = some (.string ((rd_T24 l0 (rd t461 x16_3)).f0)) ∧ w'.cell? ⟨(ad479.add (((rd t461 x16_3)).toNat * 4)).block, (ad479.add (((rd t461 x16_3)).toNat * 4)).off + 1, none⟩ = some (.string ((rd_T24 l0 (rd t461 x16_3)).f1)) ∧ w'.cell? ⟨(ad479.add (((rd t461 x16_3)).toNat * 4)).block, (ad479.add (((rd t461 x16_3)).toNat * 4)).off + 2, none⟩ = some (.int .i64 ((rd_T24 l0 (rd t461 x16_3)).f2)) ∧ w'.cell? ⟨(ad479.add (((rd t461 x16_3)).toNat * 4)).block, (ad479.add (((rd t461 x16_3)).toNat * 4)).off + 3, none⟩ = some (.int .i64 ((rd_T24 l0 (rd t461 x16_3)).f3))) (ds := []) q6_11 (by kernel_rfl) rfl rfl ⟨hx478_0, ((HB.out.cell (World.block_lt_of_cell? w _ hw479_0)).trans hw479_0), ((HB.out.cell (World.block_lt_of_cell? w _ hw479_1)).trans hw479_1), ((HB.out.cell (World.block_lt_of_cell? w _ hw479_2)).trans hw479_2), ((HB.out.cell (World.block_lt_of_cell? w _ hw479_3)).trans hw479_3), hx480_0, ((HB.out.cell (World.block_lt_of_cell? w _ hw481_0)).trans hw481_0), ((HB.out.cell (World.block_lt_of_cell? w _ hw481_1)).trans hw481_1), ((HB.out.cell (World.block_lt_of_cell? w _ hw481_2)).trans hw481_2), ((HB.out.cell (World.block_lt_of_cell? w _ hw481_3)).trans hw481_3), hx483_0, ((HB.out.cell (World.block_lt_of_cell? w _ hw484_0)).trans hw484_0), ((HB.out.cell (World.block_lt_of_cell? w _ hw484_1)).trans hw484_1), ((HB.out.cell (World.block_lt_of_cell? w _ hw484_2)).trans hw484_2), ((HB.out.cell (World.block_lt_of_cell? w _ hw484_3)).trans hw484_3), hx485_0, ((HB.out.cell (World.block_lt_of_cell? w _ hw486_0)).trans hw486_0), ((HB.out.cell (World.block_lt_of_cell? w _ hw486_1)).trans hw486_1), ((HB.out.cell (World.block_lt_of_cell? w _ hw486_2)).trans hw486_2), ((HB.out.cell (World.block_lt_of_cell? w _ hw486_3)).trans hw486_3)⟩ (fun hHeld => ?_); refine with_tabW mummerlaw11_BindsMore.tab29 mummerlaw11_BindsMore.bits29 (fun HT_ HW_ => ?_)
                             generalize wr.drew = w68 at HO_10 BK448 HB hx478_0 hx479_0 hx479_1 hx479_2 hx479_3 hx480_0 hx481_0 hx481_1 hx481_2 hx481_3 hx483_0 hx484_0 hx484_1 hx484_2 hx484_3 hx485_0 hx486_0 hx486_1 hx486_2 hx486_3 hHeld ⊢
                             refine pure_ (i := 0) (N := some 134) (v := ?_) (a' := ?_) q6_12 rfl rfl (any_of HT_.out (by kernel_rfl)) (fun _ _ _ h => h) (Or.inl ⟨by rfl, ?_⟩) ?_ ?_; rotate_left; ·(intro w'; go_simp; with_reducible rfl)
                             rotate_left; ·(simp only [Act.put, sA_, s0_, s1_, i64_w, i32_w]; rfl)
                             refine pure_ (i := 1) (N := some 135) (v := ?_) (a' := ?_) q6_13 rfl rfl (any_of HT_.out (by kernel_rfl)) (fun _ _ _ h => h) (Or.inl ⟨by rfl, ?_⟩) ?_ ?_; rotate_left; ·(intro w'; go_simp; with_reducible rfl)
                             rotate_left; ·(simp only [Act.put, sA_, s0_, s1_, i64_w, i32_w]; rfl)
                             refine pure_ (i := 2) (N := some 136) (v := ?_) (a' := ?_) q6_14 rfl rfl (any_of HT_.out (by kernel_rfl)) (fun _ _ _ h => h) (Or.inl ⟨by rfl, ?_⟩) ?_ ?_; rotate_left; ·(intro w'; go_simp; with_reducible rfl)
                             rotate_left; ·(simp only [Act.put, sA_, s0_, s1_, i64_w, i32_w]; rfl)
                             refine pure_ (i := 3) (N := some 137) (v := ?_) (a' := ?_) q6_15 rfl rfl (any_of HT_.out (by kernel_rfl)) (fun _ _ _ h => h) (Or.inl ⟨by rfl, ?_⟩) ?_ ?_; rotate_left; ·(intro w'; go_simp; with_reducible rfl)
                             rotate_left; ·(simp only [Act.put, sA_, s0_, s1_, i64_w, i32_w]; rfl)
                             refine pure_ (i := 4) (N := some 138) (v := ?_) (a' := ?_) q6_16 rfl rfl (any_of HT_.out (by kernel_rfl)) (fun _ _ _ h => h) (Or.inl ⟨by rfl, ?_⟩) ?_ ?_; rotate_left; ·(intro w'; go_simp; with_reducible rfl)
                             rotate_left; ·(simp only [Act.put, sA_, s0_, s1_, i64_w, i32_w]; rfl)
                             refine pure_ (i := 5) (N := some 139) (v := ?_) (a' := ?_) q6_17 rfl rfl (any_of HT_.out (by kernel_rfl)) (fun _ _ _ h => h) (Or.inl ⟨by rfl, ?_⟩) ?_ ?_; rotate_left; ·(intro w'; go_simp; with_reducible rfl)
                             rotate_left; ·(simp only [Act.put, sA_, s0_, s1_, i64_w, i32_w]; rfl)
                             refine pure_ (i := 10) (N := some 144) (v := ?_) (a' := ?_) q6_18 rfl rfl (any_of HT_.out (by kernel_rfl)) (fun _ _ _ h => h) (Or.inl ⟨by rfl, ?_⟩) ?_ ?_; rotate_left; ·(intro w'; go_simp; with_reducible rfl)
                             rotate_left; ·(simp only [Act.put, sA_, s0_, s1_, i64_w, i32_w]; rfl)
                             refine pure_ (i := 11) (N := some 145) (v := ?_) (a' := ?_) q6_19 rfl rfl (any_of HT_.out (by kernel_rfl)) (fun _ _ _ h => h) (Or.inl ⟨by rfl, ?_⟩) ?_ ?_; rotate_left; ·(intro w'; go_simp; with_reducible rfl)
                             rotate_left; ·(simp only [Act.put, sA_, s0_, s1_, i64_w, i32_w]; rfl)
                             refine pure_ (i := 12) (N := some 146) (v := ?_) (a' := ?_) q6_20 rfl rfl (any_of HT_.out (by kernel_rfl)) (fun _ _ _ h => h) (Or.inl ⟨by rfl, ?_⟩) ?_ ?_; rotate_left; ·(intro w'; go_simp; with_reducible rfl)
                             rotate_left; ·(simp only [Act.put, sA_, s0_, s1_, i64_w, i32_w]; rfl)
                             refine pure_ (i := 13) (N := some 147) (v := ?_) (a' := ?_) q6_21 rfl rfl (any_of HT_.out (by kernel_rfl)) (fun _ _ _ h => h) (Or.inl ⟨by rfl, ?_⟩) ?_ ?_; rotate_left; ·(intro w'; go_simp; with_reducible rfl)
                             rotate_left; ·(simp only [Act.put, sA_, s0_, s1_, i64_w, i32_w]; rfl)
                             refine take_ (i := 6) (N := some 140) (v := ?_) (a' := ?_) q6_22 rfl rfl (take_ofW HT_.out HW_.out (by kernel_rfl)) (fun _ _ _ h => h) (Or.inl ⟨by rfl, ?_⟩) hHeld ?_ ?_; rotate_left; ·(rintro w' ⟨s0, s1, s2, s3, s4, s5, s6, s7, s8, s9, s10, s11, s12, s13, s14, s15, s16, s17, s18, s19⟩; go_simp; with_reducible rfl)
                             rotate_left; ·(simp only [Act.put, sA_, s0_, s1_, i64_w, i32_w]; rfl)
                             refine pure_ (i := 7) (N := some 141) (v := ?_) (a' := ?_) q6_23 rfl rfl (any_of HT_.out (by kernel_rfl)) (fun _ _ _ h => h) (Or.inl ⟨by rfl, ?_⟩) ?_ ?_; rotate_left; ·(intro w'; go_simp; with_reducible rfl)
                             rotate_left; ·(simp only [Act.put, sA_, s0_, s1_, i64_w, i32_w]; rfl)
                             refine pure_ (i := 8) (N := some 142) (v := ?_) (a' := ?_) q6_24 rfl rfl (any_of HT_.out (by kernel_rfl)) (fun _ _ _ h => h) (Or.inl ⟨by rfl, ?_⟩) ?_ ?_; rotate_left; ·(intro w'; go_simp; with_reducible rfl)
                             rotate_left; ·(simp only [Act.put, sA_, s0_, s1_, i64_w, i32_w]; rfl)
                             refine take_ (i := 9) (N := some 143) (v := ?_) (a' := ?_) q6_25 rfl rfl (take_ofW HT_.out HW_.out (by kernel_rfl)) (fun _ _ _ h => h) (Or.inl ⟨by rfl, ?_⟩) hHeld ?_ ?_; rotate_left; ·(rintro w' ⟨s0, s1, s2, s3, s4, s5, s6, s7, s8, s9, s10, s11, s12, s13, s14, s15, s16, s17, s18, s19⟩; go_simp; with_reducible rfl)
                             rotate_left; ·(simp only [Act.put, sA_, s0_, s1_, i64_w, i32_w]; rfl)
                             refine take_ (i := 14) (N := some 148) (v := ?_) (a' := ?_) q6_26 rfl rfl (take_ofW HT_.out HW_.out (by kernel_rfl)) (fun _ _ _ h => h) (Or.inl ⟨by rfl, ?_⟩) hHeld ?_ ?_; rotate_left; ·(rintro w' ⟨s0, s1, s2, s3, s4, s5, s6, s7, s8, s9, s10, s11, s12, s13, s14, s15, s16, s17, s18, s19⟩; go_simp; with_reducible rfl)
                             rotate_left; ·(simp only [Act.put, sA_, s0_, s1_, i64_w, i32_w]; rfl)
                             refine pure_ (i := 15) (N := some 149) (v := ?_) (a' := ?_) q6_27 rfl rfl (any_of HT_.out (by kernel_rfl)) (fun _ _ _ h => h) (Or.inl ⟨by rfl, ?_⟩) ?_ ?_; rotate_left; ·(intro w'; go_simp; with_reducible rfl)
                             rotate_left; ·(simp only [Act.put, sA_, s0_, s1_, i64_w, i32_w]; rfl)
                             refine pure_ (i := 16) (N := some 150) (v := ?_) (a' := ?_) q6_28 rfl rfl (any_of HT_.out (by kernel_rfl)) (fun _ _ _ h => h) (Or.inl ⟨by rfl, ?_⟩) ?_ ?_; rotate_left; ·(intro w'; go_simp; with_reducible rfl)
                             rotate_left; ·(simp only [Act.put, sA_, s0_, s1_, i64_w, i32_w]; rfl)
                             refine take_ (i := 17) (N := some 151) (v := ?_) (a' := ?_) q6_29 rfl rfl (take_ofW HT_.out HW_.out (by kernel_rfl)) (fun _ _ _ h => h) (Or.inl ⟨by rfl, ?_⟩) hHeld ?_ ?_; rotate_left; ·(rintro w' ⟨s0, s1, s2, s3, s4, s5, s6, s7, s8, s9, s10, s11, s12, s13, s14, s15, s16, s17, s18, s19⟩; go_simp; with_reducible rfl)
                             rotate_left; ·(simp only [Act.put, sA_, s0_, s1_, i64_w, i32_w]; rfl)
                             refine one_ (i := 18) (N := some 152) q6_30 rfl rfl (one_of HT_.out (by kernel_rfl)) (by decide) (fun K hK => ?_)
                             refine goes_ Try.func22 (by kernel_rfl) rfl #[.string ((rd_T24 l0 (rd t461 x16_3)).f1), .string ((rd_T24 l0 (rd t461 x17_4)).f1)] (by rfl) rfl rfl (by (try simp only [List.map_toArray, List.map_cons, List.map_nil]); first | done | rfl | (simp only [List.length_drop, List.length_take]; rfl)) ?_
                             with_reducible refine (mummerlaw11_sub.calls k4 ((rd_T24 l0 (rd t461 x16_3)).f1) ((rd_T24 l0 (rd t461 x17_4)).f1) false _ A63.out).mono ?_
                             rintro e w69 ⟨rfl, hb⟩
                             have HS0_ := (hb.cell (World.block_lt_of_cell? _ _ (hHeld.1))).trans (hHeld.1)
                             have HS5_ := (hb.cell (World.block_lt_of_cell? _ _ (hHeld.2.2.2.2.2.1))).trans (hHeld.2.2.2.2.2.1)
                             have HS10_ := (hb.cell (World.block_lt_of_cell? _ _ (hHeld.2.2.2.2.2.2.2.2.2.2.1))).trans (hHeld.2.2.2.2.2.2.2.2.2.2.1)
                             have HS15_ := (hb.cell (World.block_lt_of_cell? _ _ (hHeld.2.2.2.2.2.2.2.2.2.2.2.2.2.2.2.1))).trans (hHeld.2.2.2.2.2.2.2.2.2.2.2.2.2.2.2.1)
                             refine ⟨_, rfl, ?_⟩
                             have n0_ := ak (Kd.R_below (by (with_reducible repeat (first | apply Kd.R_alloc | apply Kd.R_drewN | apply Kd.R_drew)); exact HO_10.out) hb)
                             have n1_ := ak (blk_below (g := gb448) (o := .cells #[.string a2_0, .string a2_1] 41 (0, 0)) (by (with_reducible repeat (first | refine bN ?_ _ | refine bD ?_ | refine bA ?_ _)); exact BK448.out) hb)
                             have n2_ := ak (below_step (by repeat (first | (with_reducible first | exact HB.out | apply wA | apply wN | apply wD | refine below_set ?_ GE448.out) | exact HB.out)) hb)
                             clear HO_10 BK448 HB
                             have HO_10 := n0_
                             have BK448 := n1_
                             have HB := n2_
                             clear n0_ n1_ n2_
                             (try clear hb)
                             (try clear hb2)
                             (try clear hk)
                             (try clear hi)
                             refine hK.out _ _ ⟨HS0_, ((HB.out.cell (World.block_lt_of_cell? w _ hw479_0)).trans hw479_0), ((HB.out.cell (World.block_lt_of_cell? w _ hw479_1)).trans hw479_1), ((HB.out.cell (World.block_lt_of_cell? w _ hw479_2)).trans hw479_2), ((HB.out.cell (World.block_lt_of_cell? w _ hw479_3)).trans hw479_3), HS5_, ((HB.out.cell (World.block_lt_of_cell? w _ hw481_0)).trans hw481_0), ((HB.out.cell (World.block_lt_of_cell? w _ hw481_1)).trans hw481_1), ((HB.out.cell (World.block_lt_of_cell? w _ hw481_2)).trans hw481_2), ((HB.out.cell (World.block_lt_of_cell? w _ hw481_3)).trans hw481_3), HS10_, ((HB.out.cell (World.block_lt_of_cell? w _ hw484_0)).trans hw484_0), ((HB.out.cell (World.block_lt_of_cell? w _ hw484_1)).trans hw484_1), ((HB.out.cell (World.block_lt_of_cell? w _ hw484_2)).trans hw484_2), ((HB.out.cell (World.block_lt_of_cell? w _ hw484_3)).trans hw484_3), HS15_, ((HB.out.cell (World.block_lt_of_cell? w _ hw486_0)).trans hw486_0), ((HB.out.cell (World.block_lt_of_cell? w _ hw486_1)).trans hw486_1), ((HB.out.cell (World.block_lt_of_cell? w _ hw486_2)).trans hw486_2), ((HB.out.cell (World.block_lt_of_cell? w _ hw486_3)).trans hw486_3)⟩ (fun hHeld => ?_)
                             clear hK K
                             refine norm_ (a' := ?_) ?_ ?_
                             rotate_left
                             ·show Act.put _ (some 152) _ = _
                              simp only [Act.put, sA_, s0_, s1_, i64_w, i32_w]
                              rfl
                             refine pure_ (i := 19) (N := some 153) (v := ?_) (a' := ?_) q6_31 rfl rfl (any_of HT_.out (by kernel_rfl)) (fun _ _ _ h => h) (Or.inl ⟨by rfl, ?_⟩) ?_ ?_; rotate_left; ·(intro w'; go_simp; with_reducible rfl)
                             rotate_left; ·(simp only [Act.put, sA_, s0_, s1_, i64_w, i32_w]; rfl)
                             refine pure_ (i := 20) (N := some 154) (v := ?_) (a' := ?_) q6_32 rfl rfl (any_of HT_.out (by kernel_rfl)) (fun _ _ _ h => h) (Or.inl ⟨by rfl, ?_⟩) ?_ ?_; rotate_left; ·(intro w'; go_simp; with_reducible rfl)
                             rotate_left; ·(simp only [Act.put, sA_, s0_, s1_, i64_w, i32_w]; rfl)
                             refine pure_ (i := 21) (N := some 155) (v := ?_) (a' := ?_) q6_33 rfl rfl (any_of HT_.out (by kernel_rfl)) (fun _ _ _ h => h) (Or.inl ⟨by rfl, ?_⟩) ?_ ?_; rotate_left; ·(intro w'; go_simp; with_reducible rfl)
                             rotate_left; ·(simp only [Act.put, sA_, s0_, s1_, i64_w, i32_w]; rfl)
                             refine pure_ (i := 22) (N := some 156) (v := ?_) (a' := ?_) q6_34 rfl rfl (any_of HT_.out (by kernel_rfl)) (fun _ _ _ h => h) (Or.inl ⟨by rfl, ?_⟩) ?_ ?_; rotate_left; ·(intro w'; go_simp; with_reducible rfl)
                             rotate_left; ·(simp only [Act.put, sA_, s0_, s1_, i64_w, i32_w]; rfl)
                             refine pure_ (i := 23) (N := some 157) (v := ?_) (a' := ?_) q6_35 rfl rfl (any_of HT_.out (by kernel_rfl)) (fun _ _ _ h => h) (Or.inl ⟨by rfl, ?_⟩) ?_ ?_; rotate_left; ·(intro w'; go_simp; with_reducible rfl)
                             rotate_left; ·(simp only [Act.put, sA_, s0_, s1_, i64_w, i32_w]; rfl)
                             refine pure_ (i := 28) (N := some 162) (v := ?_) (a' := ?_) #[Y,Y,Y,Y,Y,Y,Y,Y,Y,Y,Y,Y,Y,Y,Y,Y,Y,Y,Y,Y,Y,Y,Y,Y,Z,Z,Z,Z,Y,Z,Z,Z,Z,Z,Z,Z,Z,Z,Z,Z] rfl rfl (any_of HT_.out (by kernel_rfl)) (fun _ _ _ h => h) (Or.inl ⟨by rfl, ?_⟩) ?_ ?_; rotate_left; ·(intro w'; go_simp; with_reducible rfl)
                             rotate_left; ·(simp only [Act.put, sA_, s0_, s1_, i64_w, i32_w]; rfl)
                             refine pure_ (i := 29) (N := some 163) (v := ?_) (a' := ?_) #[Y,Y,Y,Y,Y,Y,Y,Y,Y,Y,Y,Y,Y,Y,Y,Y,Y,Y,Y,Y,Y,Y,Y,Y,Z,Z,Z,Z,Y,Y,Z,Z,Z,Z,Z,Z,Z,Z,Z,Z] rfl rfl (any_of HT_.out (by kernel_rfl)) (fun _ _ _ h => h) (Or.inl ⟨by rfl, ?_⟩) ?_ ?_; rotate_left; ·(intro w'; go_simp; with_reducible rfl)
                             rotate_left; ·(simp only [Act.put, sA_, s0_, s1_, i64_w, i32_w]; rfl)
                             refine pure_ (i := 30) (N := some 164) (v := ?_) (a' := ?_) #[Y,Y,Y,Y,Y,Y,Y,Y,Y,Y,Y,Y,Y,Y,Y,Y,Y,Y,Y,Y,Y,Y,Y,Y,Z,Z,Z,Z,Y,Y,Y,Z,Z,Z,Z,Z,Z,Z,Z,Z] rfl rfl (any_of HT_.out (by kernel_rfl)) (fun _ _ _ h => h) (Or.inl ⟨by rfl, ?_⟩) ?_ ?_; rotate_left; ·(intro w'; go_simp; with_reducible rfl)
                             rotate_left; ·(simp only [Act.put, sA_, s0_, s1_, i64_w, i32_w]; rfl)
                             refine pure_ (i := 31) (N := some 165) (v := ?_) (a' := ?_) #[Y,Y,Y,Y,Y,Y,Y,Y,Y,Y,Y,Y,Y,Y,Y,Y,Y,Y,Y,Y,Y,Y,Y,Y,Z,Z,Z,Z,Y,Y,Y,Y,Z,Z,Z,Z,Z,Z,Z,Z] rfl rfl (any_of HT_.out (by kernel_rfl)) (fun _ _ _ h => h) (Or.inl ⟨by rfl, ?_⟩) ?_ ?_; rotate_left; ·(intro w'; go_simp; with_reducible rfl)
                             rotate_left; ·(simp only [Act.put, sA_, s0_, s1_, i64_w, i32_w]; rfl)
                             refine take_ (i := 24) (N := some 158) (v := ?_) (a' := ?_) #[Y,Y,Y,Y,Y,Y,Y,Y,Y,Y,Y,Y,Y,Y,Y,Y,Y,Y,Y,Y,Y,Y,Y,Y,Y,Z,Z,Z,Y,Y,Y,Y,Z,Z,Z,Z,Z,Z,Z,Z] rfl rfl (take_ofW HT_.out HW_.out (by kernel_rfl)) (fun _ _ _ h => h) (Or.inl ⟨by rfl, ?_⟩) hHeld ?_ ?_; rotate_left; ·(rintro w' ⟨s0, s1, s2, s3, s4, s5, s6, s7, s8, s9, s10, s11, s12, s13, s14, s15, s16, s17, s18, s19⟩; go_simp; with_reducible rfl)
                             rotate_left; ·(simp only [Act.put, sA_, s0_, s1_, i64_w, i32_w]; rfl)
                             refine pure_ (i := 25) (N := some 159) (v := ?_) (a' := ?_) #[Y,Y,Y,Y,Y,Y,Y,Y,Y,Y,Y,Y,Y,Y,Y,Y,Y,Y,Y,Y,Y,Y,Y,Y,Y,Y,Z,Z,Y,Y,Y,Y,Z,Z,Z,Z,Z,Z,Z,Z] rfl rfl (any_of HT_.out (by kernel_rfl)) (fun _ _ _ h => h) (Or.inl ⟨by rfl, ?_⟩) ?_ ?_; rotate_left; ·(intro w'; go_simp; with_reducible rfl)
                             rotate_left; ·(simp only [Act.put, sA_, s0_, s1_, i64_w, i32_w]; rfl)
                             refine pure_ (i := 26) (N := some 160) (v := ?_) (a' := ?_) #[Y,Y,Y,Y,Y,Y,Y,Y,Y,Y,Y,Y,Y,Y,Y,Y,Y,Y,Y,Y,Y,Y,Y,Y,Y,Y,Y,Z,Y,Y,Y,Y,Z,Z,Z,Z,Z,Z,Z,Z] rfl rfl (any_of HT_.out (by kernel_rfl)) (fun _ _ _ h => h) (Or.inl ⟨by rfl, ?_⟩) ?_ ?_; rotate_left; ·(intro w'; go_simp; with_reducible rfl)
                             rotate_left; ·(simp only [Act.put, sA_, s0_, s1_, i64_w, i32_w]; rfl)
                             refine take_ (i := 27) (N := some 161) (v := ?_) (a' := ?_) q6_43 rfl rfl (take_ofW HT_.out HW_.out (by kernel_rfl)) (fun _ _ _ h => h) (Or.inl ⟨by rfl, ?_⟩) hHeld ?_ ?_; rotate_left; ·(rintro w' ⟨s0, s1, s2, s3, s4, s5, s6, s7, s8, s9, s10, s11, s12, s13, s14, s15, s16, s17, s18, s19⟩; go_simp; with_reducible rfl)
                             rotate_left; ·(simp only [Act.put, sA_, s0_, s1_, i64_w, i32_w]; rfl)
                             refine take_ (i := 32) (N := some 166) (v := ?_) (a' := ?_) q6_44 rfl rfl (take_ofW HT_.out HW_.out (by kernel_rfl)) (fun _ _ _ h => h) (Or.inl ⟨by rfl, ?_⟩) hHeld ?_ ?_; rotate_left; ·(rintro w' ⟨s0, s1, s2, s3, s4, s5, s6, s7, s8, s9, s10, s11, s12, s13, s14, s15, s16, s17, s18, s19⟩; go_simp; with_reducible rfl)
                             rotate_left; ·(simp only [Act.put, sA_, s0_, s1_, i64_w, i32_w]; rfl)
                             refine pure_ (i := 33) (N := some 167) (v := ?_) (a' := ?_) q6_45 rfl rfl (any_of HT_.out (by kernel_rfl)) (fun _ _ _ h => h) (Or.inl ⟨by rfl, ?_⟩) ?_ ?_; rotate_left; ·(intro w'; go_simp; with_reducible rfl)
                             rotate_left; ·(simp only [Act.put, sA_, s0_, s1_, i64_w, i32_w]; rfl)
                             refine pure_ (i := 34) (N := some 168) (v := ?_) (a' := ?_) q6_46 rfl rfl (any_of HT_.out (by kernel_rfl)) (fun _ _ _ h => h) (Or.inl ⟨by rfl, ?_⟩) ?_ ?_; rotate_left; ·(intro w'; go_simp; with_reducible rfl)
                             rotate_left; ·(simp only [Act.put, sA_, s0_, s1_, i64_w, i32_w]; rfl)
                             refine take_ (i := 35) (N := some 169) (v := ?_) (a' := ?_) q6_47 rfl rfl (take_ofW HT_.out HW_.out (by kernel_rfl)) (fun _ _ _ h => h) (Or.inl ⟨by rfl, ?_⟩) hHeld ?_ ?_; rotate_left; ·(rintro w' ⟨s0, s1, s2, s3, s4, s5, s6, s7, s8, s9, s10, s11, s12, s13, s14, s15, s16, s17, s18, s19⟩; go_simp; with_reducible rfl)
                             rotate_left; ·(simp only [Act.put, sA_, s0_, s1_, i64_w, i32_w]; rfl)
                             refine one_ (i := 36) (N := some 170) q6_48 rfl rfl (one_of HT_.out (by kernel_rfl)) (by decide) (fun K hK => ?_)
                             refine goes_ Try.func22 (by kernel_rfl) rfl #[.string ((rd_T24 l0 (rd t461 x17_4)).f1), .string ((rd_T24 l0 (rd t461 x16_3)).f1)] (by rfl) rfl rfl (by (try simp only [List.map_toArray, List.map_cons, List.map_nil]); first | done | rfl | (simp only [List.length_drop, List.length_take]; rfl)) ?_
                             with_reducible refine (mummerlaw11_sub.calls k4 ((rd_T24 l0 (rd t461 x17_4)).f1) ((rd_T24 l0 (rd t461 x16_3)).f1) t487 _ A67.out).mono ?_
                             rintro e w70 ⟨rfl, hb⟩
                             have HS0_ := (hb.cell (World.block_lt_of_cell? _ _ (hHeld.1))).trans (hHeld.1)
                             have HS5_ := (hb.cell (World.block_lt_of_cell? _ _ (hHeld.2.2.2.2.2.1))).trans (hHeld.2.2.2.2.2.1)
                             have HS10_ := (hb.cell (World.block_lt_of_cell? _ _ (hHeld.2.2.2.2.2.2.2.2.2.2.1))).trans (hHeld.2.2.2.2.2.2.2.2.2.2.1)
                             have HS15_ := (hb.cell (World.block_lt_of_cell? _ _ (hHeld.2.2.2.2.2.2.2.2.2.2.2.2.2.2.2.1))).trans (hHeld.2.2.2.2.2.2.2.2.2.2.2.2.2.2.2.1)
                             refine ⟨_, rfl, ?_⟩
                             have n0_ := ak (Kd.R_below (by (with_reducible repeat (first | apply Kd.R_alloc | apply Kd.R_drewN | apply Kd.R_drew)); exact HO_10.out) hb)
                             have n1_ := ak (blk_below (g := gb448) (o := .cells #[.string a2_0, .string a2_1] 41 (0, 0)) (by (with_reducible repeat (first | refine bN ?_ _ | refine bD ?_ | refine bA ?_ _)); exact BK448.out) hb)
                             have n2_ := ak (below_step (by repeat (first | (with_reducible first | exact HB.out | apply wA | apply wN | apply wD | refine below_set ?_ GE448.out) | exact HB.out)) hb)
                             clear HO_10 BK448 HB
                             have HO_10 := n0_
                             have BK448 := n1_
                             have HB := n2_
                             clear n0_ n1_ n2_
                             (try clear hb)
                             (try clear hb2)
                             (try clear hk)
                             (try clear hi)
                             refine hK.out _ _ ⟨HS0_, ((HB.out.cell (World.block_lt_of_cell? w _ hw479_0)).trans hw479_0), ((HB.out.cell (World.block_lt_of_cell? w _ hw479_1)).trans hw479_1), ((HB.out.cell (World.block_lt_of_cell? w _ hw479_2)).trans hw479_2), ((HB.out.cell (World.block_lt_of_cell? w _ hw479_3)).trans hw479_3), HS5_, ((HB.out.cell (World.block_lt_of_cell? w _ hw481_0)).trans hw481_0), ((HB.out.cell (World.block_lt_of_cell? w _ hw481_1)).trans hw481_1), ((HB.out.cell (World.block_lt_of_cell? w _ hw481_2)).trans hw481_2), ((HB.out.cell (World.block_lt_of_cell? w _ hw481_3)).trans hw481_3), HS10_, ((HB.out.cell (World.block_lt_of_cell? w _ hw484_0)).trans hw484_0), ((HB.out.cell (World.block_lt_of_cell? w _ hw484_1)).trans hw484_1), ((HB.out.cell (World.block_lt_of_cell? w _ hw484_2)).trans hw484_2), ((HB.out.cell (World.block_lt_of_cell? w _ hw484_3)).trans hw484_3), HS15_, ((HB.out.cell (World.block_lt_of_cell? w _ hw486_0)).trans hw486_0), ((HB.out.cell (World.block_lt_of_cell? w _ hw486_1)).trans hw486_1), ((HB.out.cell (World.block_lt_of_cell? w _ hw486_2)).trans hw486_2), ((HB.out.cell (World.block_lt_of_cell? w _ hw486_3)).trans hw486_3)⟩ (fun hHeld => ?_)
                             clear hK K
                             refine norm_ (a' := ?_) ?_ ?_
                             rotate_left
                             ·show Act.put _ (some 170) _ = _
                              simp only [Act.put, sA_, s0_, s1_, i64_w, i32_w]
                              rfl
                             refine pure_ (i := 37) (N := some 171) (v := ?_) (a' := ?_) q6_49 rfl rfl (any_of HT_.out (by kernel_rfl)) (fun _ _ _ h => h) (Or.inl ⟨by rfl, ?_⟩) ?_ ?_; rotate_left; ·(intro w'; go_simp; with_reducible rfl)
                             rotate_left; ·(simp only [Act.put, sA_, s0_, s1_, i64_w, i32_w]; rfl)
                             refine pure_ (i := 38) (N := some 172) (v := ?_) (a' := ?_) q6_50 rfl rfl (any_of HT_.out (by kernel_rfl)) (fun _ _ _ h => h) (Or.inl ⟨by rfl, ?_⟩) ?_ ?_; rotate_left; ·(intro w'; go_simp; with_reducible rfl)
                             rotate_left; ·(simp only [Act.put, sA_, s0_, s1_, i64_w, i32_w]; rfl)
                             refine pure_ (i := 39) (N := some 15) (v := ?_) (a' := ?_) q6_51 rfl rfl (any_of HT_.out (by kernel_rfl)) (fun _ _ _ h => h) (Or.inl ⟨by rfl, ?_⟩) ?_ ?_; rotate_left; ·(intro w'; go_simp; with_reducible rfl)
                             rotate_left; ·(simp only [Act.put, sA_, s0_, s1_, i64_w, i32_w]; rfl)
                             refine done_ (done_of HT_.out (by kernel_rfl)) ?_
                             try go_wp2
                             go_roundg k4
                             case measure => have := HJ16.out; have := HK2.out; have := HK3.out; have := HK4.out; omega
                             case rel => exact ⟨(t487), (wrap64 (x17_4 + 1)), (by first | rfl | (simp; done) | (simp [*]; done)), (by first | rfl | (simp; done) | (simp [*]; done)), H', ⟨by have := HJ16.out; have := HK2.out; have := HK3.out; have := HK4.out; omega⟩, ⟨by (with_reducible repeat (first | apply Kd.R_alloc | apply Kd.R_drewN | apply Kd.R_drew)); exact HO_10.out⟩, ⟨by (with_reducible repeat (first | refine bN ?_ _ | refine bD ?_ | refine bA ?_ _)); exact BK448.out⟩, ⟨by repeat (first | (with_reducible first | exact HB.out | apply wA | apply wN | apply wD | refine below_set ?_ GE448.out) | exact HB.out)⟩⟩
                           ·rw [if_neg c62] at H
                            exact absurd H (by simp)
                          ·rw [if_neg c61] at H
                           exact absurd H (by simp)
                         ·rw [if_neg c60] at H
                          exact absurd H (by simp)
                        ·rw [if_neg c59] at H
                         exact absurd H (by simp)
                       ·replace c58 := Bool.eq_false_iff.mpr c58
                        subst c58
                        have H1 : (mummerlaw11_BindsMore.l3 k4 l0 a1 t454 t461 false x16_3 (wrap64 (x17_4 + 1))) = some r := by rw [if_neg (show ¬ (false = true) by decide)] at H; exact H
                        clear H
                        have H := H1
                        clear H1
                        have H' := ak H
                        clear H
                        have p474 : 0 ≤ (x16_3 : Int) := of_decide_eq_true (by first | (with_reducible assumption) | assumption)
                        have q474 : x16_3 < (t461.length : Int) := of_decide_eq_true (by first | (with_reducible assumption) | assumption)
                        obtain ⟨ad474, e474, hx474_0⟩ := Kd.at_int (Kd.R_reads' HO_10.out).2.2 x16_3 p474 q474
                        cases e474
                        replace p474 := eq_true p474
                        replace q474 := eq_true q474
                        have p475 : 0 ≤ (x16_3 : Int) := of_decide_eq_true (by first | (with_reducible assumption) | assumption)
                        have q475 : x16_3 < (t461.length : Int) := of_decide_eq_true (by first | (with_reducible assumption) | assumption)
                        obtain ⟨ad475, e475, hx475_0⟩ := Kd.at_int (Kd.R_reads' HO_10.out).2.2 x16_3 p475 q475
                        obtain rfl : ad474 = ad475 := (by injection e475)
                        replace p475 := eq_true p475
                        replace q475 := eq_true q475
                        have p476 : 0 ≤ (x17_4 : Int) := of_decide_eq_true (by first | (with_reducible assumption) | assumption)
                        have q476 : x17_4 < (t461.length : Int) := of_decide_eq_true (by first | (with_reducible assumption) | assumption)
                        obtain ⟨ad476, e476, hx476_0⟩ := Kd.at_int (Kd.R_reads' HO_10.out).2.2 x17_4 p476 q476
                        obtain rfl : ad474 = ad476 := (by injection e476)
                        replace p476 := eq_true p476
                        replace q476 := eq_true q476
                        have p477 : 0 ≤ (x17_4 : Int) := of_decide_eq_true (by first | (with_reducible assumption) | assumption)
                        have q477 : x17_4 < (t461.length : Int) := of_decide_eq_true (by first | (with_reducible assumption) | assumption)
                        obtain ⟨ad477, e477, hx477_0⟩ := Kd.at_int (Kd.R_reads' HO_10.out).2.2 x17_4 p477 q477
                        obtain rfl : ad474 = ad477 := (by injection e477)
                        replace p477 := eq_true p477
                        replace q477 := eq_true q477
                        try go_wp2
                        have n0_ := ak (Kd.R_drew HO_10.out)
                        have n1_ := ak (bD BK448.out)
                        have n2_ := ak (wD HB.out)
                        clear HO_10 BK448 HB
                        have HO_10 := n0_
                        have BK448 := n1_
                        have HB := n2_
                        clear n0_ n1_ n2_
                        refine start_ (n := 40) (S := fun w' => True) (ds := []) q6_11 (by kernel_rfl) rfl rfl trivial (fun hHeld => ?_); refine with_tabW mummerlaw11_BindsMore.tab29 mummerlaw11_BindsMore.bits29 (fun HT_ HW_ => ?_)
                        generalize wr.drew = w71 at HO_10 BK448 HB hHeld ⊢
                        refine pure_ (i := 0) (N := some 134) (v := ?_) (a' := ?_) q6_12 rfl rfl (any_of HT_.out (by kernel_rfl)) (fun _ _ _ h => h) (Or.inl ⟨by rfl, ?_⟩) ?_ ?_; rotate_left; ·(intro w'; go_simp; with_reducible rfl)
                        rotate_left; ·(simp only [Act.put, sA_, s0_, s1_, i64_w, i32_w]; rfl)
                        refine pure_ (i := 1) (N := some 135) (v := ?_) (a' := ?_) q6_13 rfl rfl (any_of HT_.out (by kernel_rfl)) (fun _ _ _ h => h) (Or.inl ⟨by rfl, ?_⟩) ?_ ?_; rotate_left; ·(intro w'; go_simp; with_reducible rfl)
                        rotate_left; ·(simp only [Act.put, sA_, s0_, s1_, i64_w, i32_w]; rfl)
                        refine pure_ (i := 2) (N := some 136) (v := undef) (a' := ?_) q6_14 rfl rfl (any_of HT_.out (by kernel_rfl)) (fun _ _ _ h => h) (Or.inr ⟨by rfl, rfl⟩) ?_ ?_
                        rotate_left
                        ·simp only [Act.put, sA_, s0_, s1_, i64_w, i32_w]
                         rfl
                        refine pure_ (i := 3) (N := some 137) (v := undef) (a' := ?_) q6_15 rfl rfl (any_of HT_.out (by kernel_rfl)) (fun _ _ _ h => h) (Or.inr ⟨by rfl, rfl⟩) ?_ ?_
                        rotate_left
                        ·simp only [Act.put, sA_, s0_, s1_, i64_w, i32_w]
                         rfl
                        refine pure_ (i := 4) (N := some 138) (v := undef) (a' := ?_) q6_16 rfl rfl (any_of HT_.out (by kernel_rfl)) (fun _ _ _ h => h) (Or.inr ⟨by rfl, rfl⟩) ?_ ?_
                        rotate_left
                        ·simp only [Act.put, sA_, s0_, s1_, i64_w, i32_w]
                         rfl
                        refine pure_ (i := 5) (N := some 139) (v := undef) (a' := ?_) q6_17 rfl rfl (any_of HT_.out (by kernel_rfl)) (fun _ _ _ h => h) (Or.inr ⟨by rfl, rfl⟩) ?_ ?_
                        rotate_left
                        ·simp only [Act.put, sA_, s0_, s1_, i64_w, i32_w]
                         rfl
                        refine pure_ (i := 6) (N := some 140) (v := undef) (a' := ?_) #[Y,Y,Y,Y,Y,Y,Y,Z,Z,Z,Z,Z,Z,Z,Z,Z,Z,Z,Z,Z,Z,Z,Z,Z,Z,Z,Z,Z,Z,Z,Z,Z,Z,Z,Z,Z,Z,Z,Z,Z] rfl rfl (any_of HT_.out (by kernel_rfl)) (fun _ _ _ h => h) (Or.inr ⟨by rfl, rfl⟩) ?_ ?_
                        rotate_left
                        ·simp only [Act.put, sA_, s0_, s1_, i64_w, i32_w]
                         rfl
                        refine pure_ (i := 7) (N := some 141) (v := undef) (a' := ?_) #[Y,Y,Y,Y,Y,Y,Y,Y,Z,Z,Z,Z,Z,Z,Z,Z,Z,Z,Z,Z,Z,Z,Z,Z,Z,Z,Z,Z,Z,Z,Z,Z,Z,Z,Z,Z,Z,Z,Z,Z] rfl rfl (any_of HT_.out (by kernel_rfl)) (fun _ _ _ h => h) (Or.inr ⟨by rfl, rfl⟩) ?_ ?_
                        rotate_left
                        ·simp only [Act.put, sA_, s0_, s1_, i64_w, i32_w]
                         rfl
                        refine pure_ (i := 8) (N := some 142) (v := undef) (a' := ?_) #[Y,Y,Y,Y,Y,Y,Y,Y,Y,Z,Z,Z,Z,Z,Z,Z,Z,Z,Z,Z,Z,Z,Z,Z,Z,Z,Z,Z,Z,Z,Z,Z,Z,Z,Z,Z,Z,Z,Z,Z] rfl rfl (any_of HT_.out (by kernel_rfl)) (fun _ _ _ h => h) (Or.inr ⟨by rfl, rfl⟩) ?_ ?_
                        rotate_left
                        ·simp only [Act.put, sA_, s0_, s1_, i64_w, i32_w]
                         rfl
                        refine pure_ (i := 9) (N := some 143) (v := undef) (a' := ?_) #[Y,Y,Y,Y,Y,Y,Y,Y,Y,Y,Z,Z,Z,Z,Z,Z,Z,Z,Z,Z,Z,Z,Z,Z,Z,Z,Z,Z,Z,Z,Z,Z,Z,Z,Z,Z,Z,Z,Z,Z] rfl rfl (any_of HT_.out (by kernel_rfl)) (fun _ _ _ h => h) (Or.inr ⟨by rfl, rfl⟩) ?_ ?_
                        rotate_left
                        ·simp only [Act.put, sA_, s0_, s1_, i64_w, i32_w]
                         rfl
                        refine pure_ (i := 10) (N := some 144) (v := undef) (a' := ?_) #[Y,Y,Y,Y,Y,Y,Y,Y,Y,Y,Y,Z,Z,Z,Z,Z,Z,Z,Z,Z,Z,Z,Z,Z,Z,Z,Z,Z,Z,Z,Z,Z,Z,Z,Z,Z,Z,Z,Z,Z] rfl rfl (any_of HT_.out (by kernel_rfl)) (fun _ _ _ h => h) (Or.inr ⟨by rfl, rfl⟩) ?_ ?_
                        rotate_left
                        ·simp only [Act.put, sA_, s0_, s1_, i64_w, i32_w]
                         rfl
                        refine pure_ (i := 11) (N := some 145) (v := undef) (a' := ?_) #[Y,Y,Y,Y,Y,Y,Y,Y,Y,Y,Y,Y,Z,Z,Z,Z,Z,Z,Z,Z,Z,Z,Z,Z,Z,Z,Z,Z,Z,Z,Z,Z,Z,Z,Z,Z,Z,Z,Z,Z] rfl rfl (any_of HT_.out (by kernel_rfl)) (fun _ _ _ h => h) (Or.inr ⟨by rfl, rfl⟩) ?_ ?_
                        rotate_left
                        ·simp only [Act.put, sA_, s0_, s1_, i64_w, i32_w]
                         rfl
                        refine pure_ (i := 12) (N := some 146) (v := undef) (a' := ?_) #[Y,Y,Y,Y,Y,Y,Y,Y,Y,Y,Y,Y,Y,Z,Z,Z,Z,Z,Z,Z,Z,Z,Z,Z,Z,Z,Z,Z,Z,Z,Z,Z,Z,Z,Z,Z,Z,Z,Z,Z] rfl rfl (any_of HT_.out (by kernel_rfl)) (fun _ _ _ h => h) (Or.inr ⟨by rfl, rfl⟩) ?_ ?_
                        rotate_left
                        ·simp only [Act.put, sA_, s0_, s1_, i64_w, i32_w]
                         rfl
                        refine pure_ (i := 13) (N := some 147) (v := undef) (a' := ?_) q6_25 rfl rfl (any_of HT_.out (by kernel_rfl)) (fun _ _ _ h => h) (Or.inr ⟨by rfl, rfl⟩) ?_ ?_
                        rotate_left
                        ·simp only [Act.put, sA_, s0_, s1_, i64_w, i32_w]
                         rfl
                        refine pure_ (i := 14) (N := some 148) (v := undef) (a' := ?_) q6_26 rfl rfl (any_of HT_.out (by kernel_rfl)) (fun _ _ _ h => h) (Or.inr ⟨by rfl, rfl⟩) ?_ ?_
                        rotate_left
                        ·simp only [Act.put, sA_, s0_, s1_, i64_w, i32_w]
                         rfl
                        refine pure_ (i := 15) (N := some 149) (v := undef) (a' := ?_) q6_27 rfl rfl (any_of HT_.out (by kernel_rfl)) (fun _ _ _ h => h) (Or.inr ⟨by rfl, rfl⟩) ?_ ?_
                        rotate_left
                        ·simp only [Act.put, sA_, s0_, s1_, i64_w, i32_w]
                         rfl
                        refine pure_ (i := 16) (N := some 150) (v := undef) (a' := ?_) q6_28 rfl rfl (any_of HT_.out (by kernel_rfl)) (fun _ _ _ h => h) (Or.inr ⟨by rfl, rfl⟩) ?_ ?_
                        rotate_left
                        ·simp only [Act.put, sA_, s0_, s1_, i64_w, i32_w]
                         rfl
                        refine pure_ (i := 17) (N := some 151) (v := undef) (a' := ?_) q6_29 rfl rfl (any_of HT_.out (by kernel_rfl)) (fun _ _ _ h => h) (Or.inr ⟨by rfl, rfl⟩) ?_ ?_
                        rotate_left
                        ·simp only [Act.put, sA_, s0_, s1_, i64_w, i32_w]
                         rfl
                        refine pure_ (i := 18) (N := some 152) (v := undef) (a' := ?_) q6_30 rfl rfl (any_of HT_.out (by kernel_rfl)) (fun _ _ _ h => h) (Or.inr ⟨by rfl, rfl⟩) ?_ ?_
                        rotate_left
                        ·simp only [Act.put, sA_, s0_, s1_, i64_w, i32_w]
                         rfl
                        refine pure_ (i := 19) (N := some 153) (v := undef) (a' := ?_) q6_31 rfl rfl (any_of HT_.out (by kernel_rfl)) (fun _ _ _ h => h) (Or.inr ⟨by rfl, rfl⟩) ?_ ?_
                        rotate_left
                        ·simp only [Act.put, sA_, s0_, s1_, i64_w, i32_w]
                         rfl
                        refine pure_ (i := 20) (N := some 154) (v := undef) (a' := ?_) q6_32 rfl rfl (any_of HT_.out (by kernel_rfl)) (fun _ _ _ h => h) (Or.inr ⟨by rfl, rfl⟩) ?_ ?_
                        rotate_left
                        ·simp only [Act.put, sA_, s0_, s1_, i64_w, i32_w]
                         rfl
                        refine pure_ (i := 21) (N := some 155) (v := undef) (a' := ?_) q6_33 rfl rfl (any_of HT_.out (by kernel_rfl)) (fun _ _ _ h => h) (Or.inr ⟨by rfl, rfl⟩) ?_ ?_
                        rotate_left
                        ·simp only [Act.put, sA_, s0_, s1_, i64_w, i32_w]
                         rfl
                        refine pure_ (i := 22) (N := some 156) (v := undef) (a' := ?_) q6_34 rfl rfl (any_of HT_.out (by kernel_rfl)) (fun _ _ _ h => h) (Or.inr ⟨by rfl, rfl⟩) ?_ ?_
                        rotate_left
                        ·simp only [Act.put, sA_, s0_, s1_, i64_w, i32_w]
                         rfl
                        refine pure_ (i := 23) (N := some 157) (v := undef) (a' := ?_) q6_35 rfl rfl (any_of HT_.out (by kernel_rfl)) (fun _ _ _ h => h) (Or.inr ⟨by rfl, rfl⟩) ?_ ?_
                        rotate_left
                        ·simp only [Act.put, sA_, s0_, s1_, i64_w, i32_w]
                         rfl
                        refine pure_ (i := 24) (N := some 158) (v := undef) (a' := ?_) q6_36 rfl rfl (any_of HT_.out (by kernel_rfl)) (fun _ _ _ h => h) (Or.inr ⟨by rfl, rfl⟩) ?_ ?_
                        rotate_left
                        ·simp only [Act.put, sA_, s0_, s1_, i64_w, i32_w]
                         rfl
                        refine pure_ (i := 25) (N := some 159) (v := undef) (a' := ?_) q6_37 rfl rfl (any_of HT_.out (by kernel_rfl)) (fun _ _ _ h => h) (Or.inr ⟨by rfl, rfl⟩) ?_ ?_
                        rotate_left
                        ·simp only [Act.put, sA_, s0_, s1_, i64_w, i32_w]
                         rfl
                        refine pure_ (i := 26) (N := some 160) (v := undef) (a' := ?_) q6_38 rfl rfl (any_of HT_.out (by kernel_rfl)) (fun _ _ _ h => h) (Or.inr ⟨by rfl, rfl⟩) ?_ ?_
                        rotate_left
                        ·simp only [Act.put, sA_, s0_, s1_, i64_w, i32_w]
                         rfl
                        refine pure_ (i := 27) (N := some 161) (v := undef) (a' := ?_) q6_39 rfl rfl (any_of HT_.out (by kernel_rfl)) (fun _ _ _ h => h) (Or.inr ⟨by rfl, rfl⟩) ?_ ?_
                        rotate_left
                        ·simp only [Act.put, sA_, s0_, s1_, i64_w, i32_w]
                         rfl
                        refine pure_ (i := 28) (N := some 162) (v := undef) (a' := ?_) q6_40 rfl rfl (any_of HT_.out (by kernel_rfl)) (fun _ _ _ h => h) (Or.inr ⟨by rfl, rfl⟩) ?_ ?_
                        rotate_left
                        ·simp only [Act.put, sA_, s0_, s1_, i64_w, i32_w]
                         rfl
                        refine pure_ (i := 29) (N := some 163) (v := undef) (a' := ?_) q6_41 rfl rfl (any_of HT_.out (by kernel_rfl)) (fun _ _ _ h => h) (Or.inr ⟨by rfl, rfl⟩) ?_ ?_
                        rotate_left
                        ·simp only [Act.put, sA_, s0_, s1_, i64_w, i32_w]
                         rfl
                        refine pure_ (i := 30) (N := some 164) (v := undef) (a' := ?_) q6_42 rfl rfl (any_of HT_.out (by kernel_rfl)) (fun _ _ _ h => h) (Or.inr ⟨by rfl, rfl⟩) ?_ ?_
                        rotate_left
                        ·simp only [Act.put, sA_, s0_, s1_, i64_w, i32_w]
                         rfl
                        refine pure_ (i := 31) (N := some 165) (v := undef) (a' := ?_) q6_43 rfl rfl (any_of HT_.out (by kernel_rfl)) (fun _ _ _ h => h) (Or.inr ⟨by rfl, rfl⟩) ?_ ?_
                        rotate_left
                        ·simp only [Act.put, sA_, s0_, s1_, i64_w, i32_w]
                         rfl
                        refine pure_ (i := 32) (N := some 166) (v := undef) (a' := ?_) q6_44 rfl rfl (any_of HT_.out (by kernel_rfl)) (fun _ _ _ h => h) (Or.inr ⟨by rfl, rfl⟩) ?_ ?_
                        rotate_left
                        ·simp only [Act.put, sA_, s0_, s1_, i64_w, i32_w]
                         rfl
                        refine pure_ (i := 33) (N := some 167) (v := undef) (a' := ?_) q6_45 rfl rfl (any_of HT_.out (by kernel_rfl)) (fun _ _ _ h => h) (Or.inr ⟨by rfl, rfl⟩) ?_ ?_
                        rotate_left
                        ·simp only [Act.put, sA_, s0_, s1_, i64_w, i32_w]
                         rfl
                        refine pure_ (i := 34) (N := some 168) (v := undef) (a' := ?_) q6_46 rfl rfl (any_of HT_.out (by kernel_rfl)) (fun _ _ _ h => h) (Or.inr ⟨by rfl, rfl⟩) ?_ ?_
                        rotate_left
                        ·simp only [Act.put, sA_, s0_, s1_, i64_w, i32_w]
                         rfl
                        refine pure_ (i := 35) (N := some 169) (v := undef) (a' := ?_) q6_47 rfl rfl (any_of HT_.out (by kernel_rfl)) (fun _ _ _ h => h) (Or.inr ⟨by rfl, rfl⟩) ?_ ?_
                        rotate_left
                        ·simp only [Act.put, sA_, s0_, s1_, i64_w, i32_w]
                         rfl
                        refine pure_ (i := 36) (N := some 170) (v := undef) (a' := ?_) q6_48 rfl rfl (any_of HT_.out (by kernel_rfl)) (fun _ _ _ h => h) (Or.inr ⟨by rfl, rfl⟩) ?_ ?_
                        rotate_left
                        ·simp only [Act.put, sA_, s0_, s1_, i64_w, i32_w]
                         rfl
                        refine pure_ (i := 37) (N := some 171) (v := undef) (a' := ?_) q6_49 rfl rfl (any_of HT_.out (by kernel_rfl)) (fun _ _ _ h => h) (Or.inr ⟨by rfl, rfl⟩) ?_ ?_
                        rotate_left
                        ·simp only [Act.put, sA_, s0_, s1_, i64_w, i32_w]
                         rfl
                        refine pure_ (i := 38) (N := some 172) (v := ?_) (a' := ?_) q6_50 rfl rfl (any_of HT_.out (by kernel_rfl)) (fun _ _ _ h => h) (Or.inl ⟨by rfl, ?_⟩) ?_ ?_; rotate_left; ·(intro w'; go_simp; with_reducible rfl)
                        rotate_left; ·(simp only [Act.put, sA_, s0_, s1_, i64_w, i32_w]; rfl)
                        refine pure_ (i := 39) (N := some 15) (v := ?_) (a' := ?_) q6_51 rfl rfl (any_of HT_.out (by kernel_rfl)) (fun _ _ _ h => h) (Or.inl ⟨by rfl, ?_⟩) ?_ ?_; rotate_left; ·(intro w'; go_simp; with_reducible rfl)
                        rotate_left; ·(simp only [Act.put, sA_, s0_, s1_, i64_w, i32_w]; rfl)
                        refine done_ (done_of HT_.out (by kernel_rfl)) ?_
                        try go_wp2
                        go_roundg k4
                        case measure => have := HJ16.out; have := HK2.out; have := HK3.out; have := HK4.out; omega
                        case rel => exact ⟨(false), (wrap64 (x17_4 + 1)), (by first | rfl | (simp; done) | (simp [*]; done)), (by first | rfl | (simp; done) | (simp [*]; done)), H', ⟨by have := HJ16.out; have := HK2.out; have := HK3.out; have := HK4.out; omega⟩, ⟨by (with_reducible repeat (first | apply Kd.R_alloc | apply Kd.R_drewN | apply Kd.R_drew)); exact HO_10.out⟩, ⟨by (with_reducible repeat (first | refine bN ?_ _ | refine bD ?_ | refine bA ?_ _)); exact BK448.out⟩, ⟨by repeat (first | (with_reducible first | exact HB.out | apply wA | apply wN | apply wD | refine below_set ?_ GE448.out) | exact HB.out)⟩⟩
                    ·rw [if_neg c55] at H
                     exact absurd H (by simp)
                   ·rw [if_neg c54] at H
                    exact absurd H (by simp)
                ·rw [if_neg c51] at H
                 exact absurd H (by simp)
               ·rw [if_neg c50] at H
                exact absurd H (by simp)
              ·rw [if_neg c49] at H
               have c49b0 : decide (x17_4 < x16_3) = false := decide_eq_false c49
               clear c49
               have H' := ak H
               clear H
               go_wp2
               go_roundg k4
               case measure => have := HJ16.out; have := HK2.out; have := HK3.out; have := HK4.out; omega
               case rel => exact ⟨(x15_4), (wrap64 (x16_3 + 1)), (by first | rfl | (simp; done) | (simp [*]; done)), (by first | rfl | (simp; done) | (simp [*]; done)), H', ⟨by have := HJ16.out; have := HK2.out; have := HK3.out; have := HK4.out; omega⟩, ⟨by (with_reducible repeat (first | apply Kd.R_alloc | apply Kd.R_drewN | apply Kd.R_drew)); exact HO_10.out⟩, ⟨by (with_reducible repeat (first | refine bN ?_ _ | refine bD ?_ | refine bA ?_ _)); exact BK448.out⟩, ⟨by repeat (first | (with_reducible first | exact HB.out | apply wA | apply wN | apply wD | refine below_set ?_ GE448.out) | exact HB.out)⟩⟩
           ·rw [if_neg c47] at H
            have c47b0 : decide (x16_3 < (t461.length : Int)) = false := decide_eq_false c47
            clear c47
            replace H := Option.bind_eq_some_iff.mp H
            obtain ⟨⟨t468, t469⟩, A720, H⟩ := H
            replace H : (if x15_3 = true then (if t469 = 0 then (if (t461.length : Int) > 0 then ((mummerlaw11_awake.f k3).bind fun t470 => (some t470)) else (if t469 = 10 then (if (t461.length : Int) = 0 then ((mummerlaw11_awake.f k3).bind fun t471 => (some t471)) else (some false)) else (some false))) else (if t469 = 10 then (if (t461.length : Int) = 0 then ((mummerlaw11_awake.f k3).bind fun t472 => (some t472)) else (some false)) else (some false))) else ((mummerlaw11_awake.f k3).bind fun t473 => (some t473))) = some r := H
            have A72 := ak A720
            clear A720
            by_cases c73 : x15_3 = true
            ·subst c73
             have H1 : (if t469 = 0 then (if (t461.length : Int) > 0 then ((mummerlaw11_awake.f k3).bind fun t470 => (some t470)) else (if t469 = 10 then (if (t461.length : Int) = 0 then ((mummerlaw11_awake.f k3).bind fun t471 => (some t471)) else (some false)) else (some false))) else (if t469 = 10 then (if (t461.length : Int) = 0 then ((mummerlaw11_awake.f k3).bind fun t472 => (some t472)) else (some false)) else (some false))) = some r := by rw [if_pos rfl] at H; exact H
             clear H
             have H := H1
             clear H1
             by_cases c74 : t469 = 0
             ·rw [if_pos c74] at H
              have c74b0 : (t469 == 0) = true := beq_iff_eq.mpr c74
              have c74b1 : (t469 != 0) = false := bne_eq_false_iff_eq.mpr c74
              clear c74
              by_cases c75 : (t461.length : Int) > 0
              ·rw [if_pos c75] at H
               have c75b0 : decide (0 < (t461.length : Int)) = true := decide_eq_true c75
               have c75b1 : decide (0 < t461.length) = true := decide_eq_true (by omega)
               clear c75
               replace H := Option.bind_eq_some_iff.mp H
               obtain ⟨t470, A760, H⟩ := H
               replace H : (some t470) = some r := H
               have A76 := ak A760
               clear A760
               obtain rfl := Option.some.inj H
               obtain ⟨Ao77, co77, eo77⟩ := Kd.R_slice HO_10.out
               subst eo77
               go_wp2_with (first | ((with_reducible refine gate_callee (f := 19) rfl ?_); refine goesL_ (some 177) rfl rfl Try.func19 (by kernel_rfl) rfl #[.slice A0 l0.length c0, .string a1, .string t454] rfl (by (try simp only [List.map_toArray, List.map_cons, List.map_nil]); first | done | rfl | (simp only [List.length_drop, List.length_take]; rfl)) ?_; (with_reducible refine (binds_Resolve.calls k3 _ _ l0 a1 t454 t468 t469 _ ?side1 ?side2 A72.out).mono ?_); (case side1 => repeat (first | exact (Kd.C_below HR0.out HB.out) | (with_reducible refine Kd.C_alloc ?_ _) | (with_reducible refine Kd.C_drewN ?_ _) | (with_reducible refine Kd.C_drew ?_))); (case side2 => exact HC0.out); rintro e w78 ⟨rfl, hb⟩; refine ⟨_, rfl, ?_⟩; have n0_ := ak (Kd.R_below (by (with_reducible repeat (first | apply Kd.R_alloc | apply Kd.R_drewN | apply Kd.R_drew)); exact HO_10.out) hb); have n1_ := ak (blk_below (g := gb448) (o := .cells #[.string a2_0, .string a2_1] 41 (0, 0)) (by (with_reducible repeat (first | refine bN ?_ _ | refine bD ?_ | refine bA ?_ _)); exact BK448.out) hb); have n2_ := ak (below_step (by repeat (first | (with_reducible first | exact HB.out | apply wA | apply wN | apply wD | refine below_set ?_ GE448.out) | exact HB.out)) hb); clear HO_10; clear BK448; clear HB; have HO_10 := n0_; have BK448 := n1_; have HB := n2_; clear n0_ n1_ n2_; (try clear hb); (try clear hb2); (try clear hk); (try clear hi)) | (go_at_call 11; (with_reducible refine (mummerlaw11_awake.calls k3  t470 _ hrt A76.out).mono ?_); rintro e w79 ⟨rfl, hb⟩; have n0_ := ak (Kd.R_below (by (with_reducible repeat (first | apply Kd.R_alloc | apply Kd.R_drewN | apply Kd.R_drew)); exact HO_10.out) hb); have n1_ := ak (blk_below (g := gb448) (o := .cells #[.string a2_0, .string a2_1] 41 (0, 0)) (by (with_reducible repeat (first | refine bN ?_ _ | refine bD ?_ | refine bA ?_ _)); exact BK448.out) hb); have n2_ := ak (below_step (by repeat (first | (with_reducible first | exact HB.out | apply wA | apply wN | apply wD | refine below_set ?_ GE448.out) | exact HB.out)) hb); clear HO_10; clear BK448; clear HB; have HO_10 := n0_; have BK448 := n1_; have HB := n2_; clear n0_ n1_ n2_; (try clear hb); (try clear hb2); (try clear hk); (try clear hi)))
               go_ret
               exact ⟨by first | rfl | (simp [errW_none, errW_some] <;> rfl) | (simp [*, errW_none, errW_some] <;> rfl), by repeat (first | (with_reducible first | exact HB.out | apply wA | apply wN | apply wD | refine below_set ?_ GE448.out) | exact HB.out)⟩
              ·rw [if_neg c75] at H
               have c75b0 : decide (0 < (t461.length : Int)) = false := decide_eq_false c75
               have c75b1 : decide (0 < t461.length) = false := decide_eq_false (by omega)
               clear c75
               by_cases c80 : t469 = 10
               ·rw [if_pos c80] at H
                have c80b0 : (t469 == 10) = true := beq_iff_eq.mpr c80
                have c80b1 : (t469 != 10) = false := bne_eq_false_iff_eq.mpr c80
                clear c80
                by_cases c81 : (t461.length : Int) = 0
                ·rw [if_pos c81] at H
                 have c81b0 : ((t461.length : Int) == 0) = true := beq_iff_eq.mpr c81
                 have c81b1 : ((t461.length : Int) != 0) = false := bne_eq_false_iff_eq.mpr c81
                 clear c81
                 replace H := Option.bind_eq_some_iff.mp H
                 obtain ⟨t471, A820, H⟩ := H
                 replace H : (some t471) = some r := H
                 have A82 := ak A820
                 clear A820
                 obtain rfl := Option.some.inj H
                 obtain ⟨Ao83, co83, eo83⟩ := Kd.R_slice HO_10.out
                 subst eo83
                 go_wp2_with (first | ((with_reducible refine gate_callee (f := 19) rfl ?_); refine goesL_ (some 177) rfl rfl Try.func19 (by kernel_rfl) rfl #[.slice A0 l0.length c0, .string a1, .string t454] rfl (by (try simp only [List.map_toArray, List.map_cons, List.map_nil]); first | done | rfl | (simp only [List.length_drop, List.length_take]; rfl)) ?_; (with_reducible refine (binds_Resolve.calls k3 _ _ l0 a1 t454 t468 t469 _ ?side1 ?side2 A72.out).mono ?_); (case side1 => repeat (first | exact (Kd.C_below HR0.out HB.out) | (with_reducible refine Kd.C_alloc ?_ _) | (with_reducible refine Kd.C_drewN ?_ _) | (with_reducible refine Kd.C_drew ?_))); (case side2 => exact HC0.out); rintro e w84 ⟨rfl, hb⟩; refine ⟨_, rfl, ?_⟩; have n0_ := ak (Kd.R_below (by (with_reducible repeat (first | apply Kd.R_alloc | apply Kd.R_drewN | apply Kd.R_drew)); exact HO_10.out) hb); have n1_ := ak (blk_below (g := gb448) (o := .cells #[.string a2_0, .string a2_1] 41 (0, 0)) (by (with_reducible repeat (first | refine bN ?_ _ | refine bD ?_ | refine bA ?_ _)); exact BK448.out) hb); have n2_ := ak (below_step (by repeat (first | (with_reducible first | exact HB.out | apply wA | apply wN | apply wD | refine below_set ?_ GE448.out) | exact HB.out)) hb); clear HO_10; clear BK448; clear HB; have HO_10 := n0_; have BK448 := n1_; have HB := n2_; clear n0_ n1_ n2_; (try clear hb); (try clear hb2); (try clear hk); (try clear hi)) | (go_at_call 11; (with_reducible refine (mummerlaw11_awake.calls k3  t471 _ hrt A82.out).mono ?_); rintro e w85 ⟨rfl, hb⟩; have n0_ := ak (Kd.R_below (by (with_reducible repeat (first | apply Kd.R_alloc | apply Kd.R_drewN | apply Kd.R_drew)); exact HO_10.out) hb); have n1_ := ak (blk_below (g := gb448) (o := .cells #[.string a2_0, .string a2_1] 41 (0, 0)) (by (with_reducible repeat (first | refine bN ?_ _ | refine bD ?_ | refine bA ?_ _)); exact BK448.out) hb); have n2_ := ak (below_step (by repeat (first | (with_reducible first | exact HB.out | apply wA | apply wN | apply wD | refine below_set ?_ GE448.out) | exact HB.out)) hb); clear HO_10; clear BK448; clear HB; have HO_10 := n0_; have BK448 := n1_; have HB := n2_; clear n0_ n1_ n2_; (try clear hb); (try clear hb2); (try clear hk); (try clear hi)))
                 go_ret
                 exact ⟨by first | rfl | (simp [errW_none, errW_some] <;> rfl) | (simp [*, errW_none, errW_some] <;> rfl), by repeat (first | (with_reducible first | exact HB.out | apply wA | apply wN | apply wD | refine below_set ?_ GE448.out) | exact HB.out)⟩
                ·rw [if_neg c81] at H
                 have c81b0 : ((t461.length : Int) == 0) = false := beq_eq_false_iff_ne.mpr c81
                 have c81b1 : ((t461.length : Int) != 0) = true := bne_iff_ne.mpr c81
                 have c81b2 : ¬ (t461 = []) := fun h_ => c81 (by rw [h_]; rfl)
                 exact absurd ((Option.some.inj H).trans hrt.out) (by decide)
               ·rw [if_neg c80] at H
                have c80b0 : (t469 == 10) = false := beq_eq_false_iff_ne.mpr c80
                have c80b1 : (t469 != 10) = true := bne_iff_ne.mpr c80
                exact absurd ((Option.some.inj H).trans hrt.out) (by decide)
             ·rw [if_neg c74] at H
              have c74b0 : (t469 == 0) = false := beq_eq_false_iff_ne.mpr c74
              have c74b1 : (t469 != 0) = true := bne_iff_ne.mpr c74
              by_cases c86 : t469 = 10
              ·rw [if_pos c86] at H
               have c86b0 : (t469 == 10) = true := beq_iff_eq.mpr c86
               have c86b1 : (t469 != 10) = false := bne_eq_false_iff_eq.mpr c86
               clear c86
               by_cases c87 : (t461.length : Int) = 0
               ·rw [if_pos c87] at H
                have c87b0 : ((t461.length : Int) == 0) = true := beq_iff_eq.mpr c87
                have c87b1 : ((t461.length : Int) != 0) = false := bne_eq_false_iff_eq.mpr c87
                clear c87
                replace H := Option.bind_eq_some_iff.mp H
                obtain ⟨t472, A880, H⟩ := H
                replace H : (some t472) = some r := H
                have A88 := ak A880
                clear A880
                obtain rfl := Option.some.inj H
                obtain ⟨Ao89, co89, eo89⟩ := Kd.R_slice HO_10.out
                subst eo89
                go_wp2_with (first | ((with_reducible refine gate_callee (f := 19) rfl ?_); refine goesL_ (some 177) rfl rfl Try.func19 (by kernel_rfl) rfl #[.slice A0 l0.length c0, .string a1, .string t454] rfl (by (try simp only [List.map_toArray, List.map_cons, List.map_nil]); first | done | rfl | (simp only [List.length_drop, List.length_take]; rfl)) ?_; (with_reducible refine (binds_Resolve.calls k3 _ _ l0 a1 t454 t468 t469 _ ?side1 ?side2 A72.out).mono ?_); (case side1 => repeat (first | exact (Kd.C_below HR0.out HB.out) | (with_reducible refine Kd.C_alloc ?_ _) | (with_reducible refine Kd.C_drewN ?_ _) | (with_reducible refine Kd.C_drew ?_))); (case side2 => exact HC0.out); rintro e w90 ⟨rfl, hb⟩; refine ⟨_, rfl, ?_⟩; have n0_ := ak (Kd.R_below (by (with_reducible repeat (first | apply Kd.R_alloc | apply Kd.R_drewN | apply Kd.R_drew)); exact HO_10.out) hb); have n1_ := ak (blk_below (g := gb448) (o := .cells #[.string a2_0, .string a2_1] 41 (0, 0)) (by (with_reducible repeat (first | refine bN ?_ _ | refine bD ?_ | refine bA ?_ _)); exact BK448.out) hb); have n2_ := ak (below_step (by repeat (first | (with_reducible first | exact HB.out | apply wA | apply wN | apply wD | refine below_set ?_ GE448.out) | exact HB.out)) hb); clear HO_10; clear BK448; clear HB; have HO_10 := n0_; have BK448 := n1_; have HB := n2_; clear n0_ n1_ n2_; (try clear hb); (try clear hb2); (try clear hk); (try clear hi)) | (go_at_call 11; (with_reducible refine (mummerlaw11_awake.calls k3  t472 _ hrt A88.out).mono ?_); rintro e w91 ⟨rfl, hb⟩; have n0_ := ak (Kd.R_below (by (with_reducible repeat (first | apply Kd.R_alloc | apply Kd.R_drewN | apply Kd.R_drew)); exact HO_10.out) hb); have n1_ := ak (blk_below (g := gb448) (o := .cells #[.string a2_0, .string a2_1] 41 (0, 0)) (by (with_reducible repeat (first | refine bN ?_ _ | refine bD ?_ | refine bA ?_ _)); exact BK448.out) hb); have n2_ := ak (below_step (by repeat (first | (with_reducible first | exact HB.out | apply wA | apply wN | apply wD | refine below_set ?_ GE448.out) | exact HB.out)) hb); clear HO_10; clear BK448; clear HB; have HO_10 := n0_; have BK448 := n1_; have HB := n2_; clear n0_ n1_ n2_; (try clear hb); (try clear hb2); (try clear hk); (try clear hi)))
                go_ret
                exact ⟨by first | rfl | (simp [errW_none, errW_some] <;> rfl) | (simp [*, errW_none, errW_some] <;> rfl), by repeat (first | (with_reducible first | exact HB.out | apply wA | apply wN | apply wD | refine below_set ?_ GE448.out) | exact HB.out)⟩
               ·rw [if_neg c87] at H
                have c87b0 : ((t461.length : Int) == 0) = false := beq_eq_false_iff_ne.mpr c87
                have c87b1 : ((t461.length : Int) != 0) = true := bne_iff_ne.mpr c87
                have c87b2 : ¬ (t461 = []) := fun h_ => c87 (by rw [h_]; rfl)
                exact absurd ((Option.some.inj H).trans hrt.out) (by decide)
              ·rw [if_neg c86] at H
               have c86b0 : (t469 == 10) = false := beq_eq_false_iff_ne.mpr c86
               have c86b1 : (t469 != 10) = true := bne_iff_ne.mpr c86
               exact absurd ((Option.some.inj H).trans hrt.out) (by decide)
            ·replace c73 := Bool.eq_false_iff.mpr c73
             subst c73
             have H1 : ((mummerlaw11_awake.f k3).bind fun t473 => (some t473)) = some r := by rw [if_neg (show ¬ (false = true) by decide)] at H; exact H
             clear H
             have H := H1
             clear H1
             replace H := Option.bind_eq_some_iff.mp H
             obtain ⟨t473, A920, H⟩ := H
             replace H : (some t473) = some r := H
             have A92 := ak A920
             clear A920
             obtain rfl := Option.some.inj H
             obtain ⟨Ao93, co93, eo93⟩ := Kd.R_slice HO_10.out
             subst eo93
             go_wp2_with (first | ((with_reducible refine gate_callee (f := 19) rfl ?_); refine goesL_ (some 177) rfl rfl Try.func19 (by kernel_rfl) rfl #[.slice A0 l0.length c0, .string a1, .string t454] rfl (by (try simp only [List.map_toArray, List.map_cons, List.map_nil]); first | done | rfl | (simp only [List.length_drop, List.length_take]; rfl)) ?_; (with_reducible refine (binds_Resolve.calls k3 _ _ l0 a1 t454 t468 t469 _ ?side1 ?side2 A72.out).mono ?_); (case side1 => repeat (first | exact (Kd.C_below HR0.out HB.out) | (with_reducible refine Kd.C_alloc ?_ _) | (with_reducible refine Kd.C_drewN ?_ _) | (with_reducible refine Kd.C_drew ?_))); (case side2 => exact HC0.out); rintro e w94 ⟨rfl, hb⟩; refine ⟨_, rfl, ?_⟩; have n0_ := ak (Kd.R_below (by (with_reducible repeat (first | apply Kd.R_alloc | apply Kd.R_drewN | apply Kd.R_drew)); exact HO_10.out) hb); have n1_ := ak (blk_below (g := gb448) (o := .cells #[.string a2_0, .string a2_1] 41 (0, 0)) (by (with_reducible repeat (first | refine bN ?_ _ | refine bD ?_ | refine bA ?_ _)); exact BK448.out) hb); have n2_ := ak (below_step (by repeat (first | (with_reducible first | exact HB.out | apply wA | apply wN | apply wD | refine below_set ?_ GE448.out) | exact HB.out)) hb); clear HO_10; clear BK448; clear HB; have HO_10 := n0_; have BK448 := n1_; have HB := n2_; clear n0_ n1_ n2_; (try clear hb); (try clear hb2); (try clear hk); (try clear hi)) | (go_at_call 11; (with_reducible refine (mummerlaw11_awake.calls k3  t473 _ hrt A92.out).mono ?_); rintro e w95 ⟨rfl, hb⟩; have n0_ := ak (Kd.R_below (by (with_reducible repeat (first | apply Kd.R_alloc | apply Kd.R_drewN | apply Kd.R_drew)); exact HO_10.out) hb); have n1_ := ak (blk_below (g := gb448) (o := .cells #[.string a2_0, .string a2_1] 41 (0, 0)) (by (with_reducible repeat (first | refine bN ?_ _ | refine bD ?_ | refine bA ?_ _)); exact BK448.out) hb); have n2_ := ak (below_step (by repeat (first | (with_reducible first | exact HB.out | apply wA | apply wN | apply wD | refine below_set ?_ GE448.out) | exact HB.out)) hb); clear HO_10; clear BK448; clear HB; have HO_10 := n0_; have BK448 := n1_; have HB := n2_; clear n0_ n1_ n2_; (try clear hb); (try clear hb2); (try clear hk); (try clear hi)))
             go_ret
             exact ⟨by first | rfl | (simp [errW_none, errW_some] <;> rfl) | (simp [*, errW_none, errW_some] <;> rfl), by repeat (first | (with_reducible first | exact HB.out | apply wA | apply wN | apply wD | refine below_set ?_ GE448.out) | exact HB.out)⟩
  ·rw [if_neg c14] at H
   have c14b0 : (t455 == 0) = false := beq_eq_false_iff_ne.mpr c14
   have c14b1 : (t455 != 0) = true := bne_iff_ne.mpr c14
   replace H := Option.bind_eq_some_iff.mp H
   obtain ⟨t456, A960, H⟩ := H
   replace H : (some t456) = some r := H
   have A96 := ak A960
   clear A960
   obtain rfl := Option.some.inj H
   go_enter Try.func6, Try.ntmps6
   go_wp2_with (first | ((with_reducible refine gate_dst (N := 5) rfl ?_); (try (refine gate_guard (by rfl) ?_; dsimp only)); refine box_event ?hg (N := 5) ?hd (cs := #[.string a2_0, .string a2_1]) (t := 41) ?hr ?_; (case hd => rfl); (case hg => rfl); (case hr => first | (go_simp; done) | (go_simp; rfl)); intro gb448 hg w97 hbox hb; have n0_ := ak (below_step (by repeat (first | (with_reducible first | exact HB.out | apply wA | apply wN | apply wD) | exact HB.out)) hb); have n1_ := ak (hbox); have n2_ := ak ((by rw [hg]; exact (below_size (by repeat (first | (with_reducible first | exact HB.out | apply wA | apply wN | apply wD) | exact HB.out))) : w.heap.size ≤ gb448)); have n3_ := ak ((by rw [hg]; exact (below_size (by repeat (first | (with_reducible first | exact HB.out | apply wA | apply wN | apply wD) | exact HB.out))) : w.heap.size ≤ gb448)); clear HB; have HB := n0_; have BK448 := n1_; have GW448 := n2_; have GE448 := n3_; clear n0_ n1_ n2_ n3_; clear hb hbox hg; have hcz98_0 : w97.cell? ⟨gb448, 0, none⟩ = some (.string a2_0) := (blk_cell BK448.out 0).trans rfl; have hcz98_1 : w97.cell? ⟨gb448, 1, none⟩ = some (.string a2_1) := (blk_cell BK448.out 1).trans rfl; have hfz98_0 := blk_frozen BK448.out 0; have hfz98_1 := blk_frozen BK448.out 1) | ((with_reducible refine gate_dst (N := 26) rfl ?_); (try (refine gate_guard (by rfl) ?_; dsimp only)); refine Kd.R_lit Kd.string _ 9 ?hg (N := 26) ?hd (xs := ([a1, a2_0, a2_1] : List ByteArray)) (inner := [.string a1, .string a2_0, .string a2_1]) (ok := fun _ => True) (okp := fun _ => True) ?hr ?hp (fun _ hk => hk) trivial (Below.refl _ _) (Nat.le_refl _) (by simp) ?_; (case hd => rfl); (case hg => rfl); (case hr => first | (go_simp; done) | (go_simp; rfl)); (case hp => exact (Reps.one (show Kd.M Kd.string _ _ _ a1 [.string a1] from rfl) (Reps.one (show Kd.M Kd.string _ _ _ a2_0 [.string a2_0] from rfl) (Reps.one (show Kd.M Kd.string _ _ _ a2_1 [.string a2_1] from rfl) (Reps.none _ _))))); intro v450 w99 ho100 hb hg_ hnew_; clear hg_ hnew_; (first | rw [← Ny449.out] at ho100 | (simp only [Int.reduceToNat] at ho100; rw [← Ny449.out] at ho100)); have n0_ := ak (Kd.R_lower ho100 (below_size (by repeat (first | (with_reducible first | exact HB.out | apply wA | apply wN | apply wD | refine below_set ?_ GE448.out) | exact HB.out)))); have n1_ := ak (blk_below (g := gb448) (o := .cells #[.string a2_0, .string a2_1] 41 (0, 0)) (by (with_reducible repeat (first | refine bN ?_ _ | refine bD ?_ | refine bA ?_ _)); exact BK448.out) hb); have n2_ := ak (below_step (by repeat (first | (with_reducible first | exact HB.out | apply wA | apply wN | apply wD | refine below_set ?_ GE448.out) | exact HB.out)) hb); clear BK448; clear HB; have HO451 := n0_; have BK448 := n1_; have HB := n2_; clear n0_ n1_ n2_; clear hb ho100; obtain ⟨Ao101, co101, eo101⟩ := Kd.R_slice HO451.out; subst eo101) | ((with_reducible refine gate_callee (f := 10) rfl ?_); refine goesL_ (some 27) rfl rfl Try.func10 (by kernel_rfl) rfl #[.slice A0 l0.length c0, .slice Ao101 y449.length co101] rfl (by (try simp only [List.map_toArray, List.map_cons, List.map_nil]); first | done | rfl | (simp only [List.length_drop, List.length_take]; rfl)) ?_; (with_reducible refine (mummerlaw11_far.calls k _ _ l0 _ _ y449 false _ ?side1 ?side2 ?side3 ?side4 A4.out).mono ?_); (case side1 => repeat (first | exact (Kd.C_below HR0.out HB.out) | (with_reducible refine Kd.C_alloc ?_ _) | (with_reducible refine Kd.C_drewN ?_ _) | (with_reducible refine Kd.C_drew ?_))); (case side2 => exact HC0.out); (case side3 => repeat (first | exact (Kd.R_reads' HO451.out).2.2 | (with_reducible refine Kd.C_alloc ?_ _) | (with_reducible refine Kd.C_drewN ?_ _) | (with_reducible refine Kd.C_drew ?_))); (case side4 => exact (Kd.R_reads' HO451.out).2.1); rintro e w' ⟨rfl, ⟨nd, rfl⟩⟩; refine ⟨_, rfl, ?_⟩; have hcz102_0 : w99.cell? ⟨gb448, 0, none⟩ = some (.string a2_0) := (blk_cell BK448.out 0).trans rfl; have hcz102_1 : w99.cell? ⟨gb448, 1, none⟩ = some (.string a2_1) := (blk_cell BK448.out 1).trans rfl; have hfz102_0 := blk_frozen BK448.out 0; have hfz102_1 := blk_frozen BK448.out 1) | ((with_reducible refine gate_callee (f := 23) rfl ?_); refine goesL_ (some 34) rfl rfl Try.func23 (by kernel_rfl) rfl #[.string a2_0, .string a2_1] rfl (by (try simp only [List.map_toArray, List.map_cons, List.map_nil]); first | done | rfl | (simp only [List.length_drop, List.length_take]; rfl)) ?_; (with_reducible refine (mummerref09_Union.calls k a2_0 a2_1 t454 t455 _ A13.out).mono ?_); rintro e w103 ⟨rfl, hb⟩; refine ⟨_, rfl, ?_⟩; have n0_ := ak (Kd.R_below (by (with_reducible repeat (first | apply Kd.R_alloc | apply Kd.R_drewN | apply Kd.R_drew)); exact HO451.out) hb); have n1_ := ak (blk_below (g := gb448) (o := .cells #[.string a2_0, .string a2_1] 41 (0, 0)) (by (with_reducible repeat (first | refine bN ?_ _ | refine bD ?_ | refine bA ?_ _)); exact BK448.out) hb); have n2_ := ak (below_step (by repeat (first | (with_reducible first | exact HB.out | apply wA | apply wN | apply wD | refine below_set ?_ GE448.out) | exact HB.out)) hb); clear HO451; clear BK448; clear HB; have HO451 := n0_; have BK448 := n1_; have HB := n2_; clear n0_ n1_ n2_; (try clear hb); (try clear hb2); (try clear hk); (try clear hi)) | ((with_reducible refine gate_callee (f := 11) rfl ?_); refine goesL_ (some 39) rfl rfl Try.func11 (by kernel_rfl) rfl #[] rfl (by (try simp only [List.map_toArray, List.map_cons, List.map_nil]); first | done | rfl | (simp only [List.length_drop, List.length_take]; rfl)) ?_; (with_reducible refine (mummerlaw11_awake.calls k  t456 _ hrt A96.out).mono ?_); rintro e w104 ⟨rfl, hb⟩; refine ⟨_, rfl, ?_⟩; have n0_ := ak (Kd.R_below (by (with_reducible repeat (first | apply Kd.R_alloc | apply Kd.R_drewN | apply Kd.R_drew)); exact HO451.out) hb); have n1_ := ak (blk_below (g := gb448) (o := .cells #[.string a2_0, .string a2_1] 41 (0, 0)) (by (with_reducible repeat (first | refine bN ?_ _ | refine bD ?_ | refine bA ?_ _)); exact BK448.out) hb); have n2_ := ak (below_step (by repeat (first | (with_reducible first | exact HB.out | apply wA | apply wN | apply wD | refine below_set ?_ GE448.out) | exact HB.out)) hb); clear HO451; clear BK448; clear HB; have HO451 := n0_; have BK448 := n1_; have HB := n2_; clear n0_ n1_ n2_; (try clear hb); (try clear hb2); (try clear hk); (try clear hi)))
   go_ret
   exact ⟨by first | rfl | (simp [errW_none, errW_some] <;> rfl) | (simp [*, errW_none, errW_some] <;> rfl), by repeat (first | (with_reducible first | exact HB.out | apply wA | apply wN | apply wD | refine below_set ?_ GE448.out) | exact HB.out)⟩
end Go.Proofs.Ytpjcahjpjeiicaa.P
