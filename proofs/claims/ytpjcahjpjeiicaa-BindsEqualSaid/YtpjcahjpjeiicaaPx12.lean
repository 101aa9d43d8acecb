-- Written by wip/tools/myprint.py of this session over the kit's print; Lean checks it.
import Derived.Test.YtpjcahjpjeiicaaPx0
import Derived.Test.YtpjcahjpjeiicaaPx9
import Derived.Test.YtpjcahjpjeiicaaPx10
namespace Go.Proofs.Ytpjcahjpjeiicaa.P
open Go.RowKit Go.Proofs.YtpjcahjpjeiicaaW.PrintWords Go.Proofs.YtpjcahjpjeiicaaW.PrintLast Go.Proofs.YtpjcahjpjeiicaaW.PrintMore
attribute [local go_sem] max2_int min2_int max_two min_two max_three min_three max_four min_four   -- for this text's walks alone
set_option linter.unusedVariables false
set_option linter.unusedSimpArgs false


/-! ### binds_Resolve: function 19 (written by this session) -/
theorem Rs.meas (i n : Nat) (h : i < n) (hn : n ≤ 1000000) : n - (intOf (Value.int IntKind.i64 (wrap64 ((i : Int) + 1)))).toNat < n - (intOf (Value.int IntKind.i64 ((i : Nat) : Int))).toNat := by
  have hw : wrap64 ((i : Int) + 1) = ((i + 1 : Nat) : Int) := by unfold wrap64; omega
  rw [hw]
  show n - (i + 1) < n - i
  omega
/-- Is the set of the candidate a above that of b? -/
def Rs.above (k : Nat) (l0 : List S24) (a b : Int) : Option Bool := if 0 ≤ a ∧ a < (l0.length : Int) ∧ 0 ≤ b ∧ b < (l0.length : Int) then (scopes_Sub.f k (rd_T24 l0 b).f1 (rd_T24 l0 a).f1).bind fun t => some t.1 else none
def Rs.g1 (k : Nat) (l0 : List S24) : List Int → Int → Bool → Option (Int × Bool)
  | [], f, s => some (f, s)
  | x :: r, f, s => if s = true then (Rs.above k l0 x f).bind fun t => (if t = true then Rs.g1 k l0 r x true else Rs.g1 k l0 r f true) else Rs.g1 k l0 r x true
def Rs.g2 (k : Nat) (l0 : List S24) : List Int → Int → Bool → Option Bool
  | [], _, s => some s
  | x :: r, f, s => if s = true then (Rs.above k l0 f x).bind fun t => Rs.g2 k l0 r f t else Rs.g2 k l0 r f false
def binds_Resolve.f (k : Nat) (l0 : List S24) (a1 a2 : ByteArray) : Option (Int × Int) :=
  (binds_Candidates.f k l0 a1 a2).bind fun t => (if t.2 = 0 then (if (t.1.length : Int) = 0 then some (0, 10) else (if t.1.length ≤ 1000000 then ((Rs.g1 k l0 t.1 0 false).bind fun p => (Rs.g2 k l0 t.1 p.1 p.2).bind fun s => (if s = true then some (p.1, 0) else some (0, 11))) else none)) else some (0, t.2))
theorem Rs.above_mono (l0 : List S24) (a b : Int) (k : Nat) : LeO (Rs.above k l0 a b) (Rs.above (k + 1) l0 a b) := by
  unfold Rs.above
  exact LeO.ite (LeO.bind (scopes_Sub.mono _ _ _) fun _ => LeO.refl _) (LeO.none _)
theorem Rs.g1_mono (l0 : List S24) (k : Nat) : ∀ (l : List Int) (f : Int) (s : Bool), LeO (Rs.g1 k l0 l f s) (Rs.g1 (k + 1) l0 l f s)
  | [], _, _ => LeO.refl _
  | x :: r, f, s => by
    unfold Rs.g1
    exact LeO.ite (LeO.bind (Rs.above_mono _ _ _ _) fun _ => LeO.ite (Rs.g1_mono l0 k r _ _) (Rs.g1_mono l0 k r _ _)) (Rs.g1_mono l0 k r _ _)
theorem Rs.g2_mono (l0 : List S24) (k : Nat) : ∀ (l : List Int) (f : Int) (s : Bool), LeO (Rs.g2 k l0 l f s) (Rs.g2 (k + 1) l0 l f s)
  | [], _, _ => LeO.refl _
  | x :: r, f, s => by
    unfold Rs.g2
    exact LeO.ite (LeO.bind (Rs.above_mono _ _ _ _) fun _ => Rs.g2_mono l0 k r _ _) (Rs.g2_mono l0 k r _ _)
theorem binds_Resolve.mono : ∀ l0 a1 a2 k, LeO (binds_Resolve.f k l0 a1 a2) (binds_Resolve.f (k + 1) l0 a1 a2) := by
  intro l0 a1 a2 k
  unfold binds_Resolve.f
  exact LeO.bind (binds_Candidates.mono _ _ _ _) fun _ => LeO.ite (LeO.ite (LeO.refl _) (LeO.ite (LeO.bind (Rs.g1_mono _ _ _ _ _) fun _ => LeO.bind (Rs.g2_mono _ _ _ _ _) fun _ => LeO.refl _) (LeO.none _))) (LeO.refl _)

set_option maxHeartbeats 1000000 in
set_option maxRecDepth 100000 in
theorem Rs.above_calls (k : Nat) (A0 : Option Addr) (c0 : Nat) (l0 : List S24) (a b : Int) (bx : Nat) (r : Bool) (w : World) (HR0 : Aside0 (Kd.C k24 w A0 l0.length l0)) (hbx : w.cell? ⟨bx, 0, none⟩ = some (.slice A0 l0.length c0)) (h : Rs.above k l0 a b = some r) :
    Calls Try.prog 40 #[.int .i64 a, .int .i64 b, .pointer (some ⟨bx, 0, none⟩)] w fun e w' => e = .returned (.bool r) ∧ Below w.heap.size w w' := by
  unfold Rs.above at h
  by_cases hc : 0 ≤ a ∧ a < (l0.length : Int) ∧ 0 ≤ b ∧ b < (l0.length : Int)
  · rw [if_pos hc] at h
    obtain ⟨⟨t1, t2⟩, hs, h⟩ := Option.bind_eq_some_iff.1 h
    obtain rfl := Option.some.inj h
    obtain ⟨ha0, ha1, hb0, hb1⟩ := hc
    obtain ⟨ad, e1, _, ya, _, _⟩ := at_T24 HR0.out a ha0 ha1
    obtain ⟨ad', e2, _, yb, _, _⟩ := at_T24 HR0.out b hb0 hb1
    subst e1
    obtain rfl : ad = ad' := Option.some.inj e2
    clear e2
    have HS := ak hs
    clear hs
    generalize (rd_T24 l0 a).f1 = sa at ya HS
    generalize (rd_T24 l0 b).f1 = sb at yb HS
    dsimp only
    go_enter Try.func40, Try.ntmps40
    go_wp2
    go_region_held3 (fun w' => w'.cell? ⟨bx, 0, none⟩ = some (.slice (some ad) l0.length c0) ∧ w'.cell? ⟨(ad.add (b.toNat * 4)).block, (ad.add (b.toNat * 4)).off + 1, none⟩ = some (.string sb) ∧ w'.cell? ⟨(ad.add (a.toNat * 4)).block, (ad.add (a.toNat * 4)).off + 1, none⟩ = some (.string sa)) (first | go_keep | exact ⟨(hb.cell (World.block_lt_of_cell? w _ hbx)).trans hbx, (hb.cell (World.block_lt_of_cell? w _ yb)).trans yb, (hb.cell (World.block_lt_of_cell? w _ ya)).trans ya⟩)
      ((go_at_call 36; refine (scopes_Sub.calls k sb sa _ _ _ HS.out).mono ?_; rintro e w2 ⟨rfl, hb⟩))
    go_wp2
    go_ret
    exact ⟨rfl, ((Below.refl _ w).drew).trans hb⟩
  · rw [if_neg hc] at h; cases h

set_option maxHeartbeats 2000000 in
set_option maxRecDepth 100000 in
theorem Rs.greatest_calls (k : Nat) (A0 : Option Addr) (c0 : Nat) (l0 : List S24) (bx : Nat) (Av : Option Addr) (cv : Nat) (lv : List Int) (fo : Int) (so s : Bool) (w : World) (HR0 : Aside0 (Kd.C k24 w A0 l0.length l0)) (hbx : w.cell? ⟨bx, 0, none⟩ = some (.slice A0 l0.length c0))
    (HV : Aside0 (Kd.C (Kd.int .i64) w Av lv.length lv)) (HN : Aside0 (lv.length ≤ 1000000)) (H1 : Aside0 (Rs.g1 k l0 lv 0 false = some (fo, so))) (H2 : Aside0 (Rs.g2 k l0 lv fo so = some s)) :
    Calls Try.prog 39 #[.slice Av lv.length cv, .func (.func 40) #[] #[.pointer (some ⟨bx, 0, none⟩)]] w fun e w' => e = .returned (.tuple #[.int .i64 fo, .bool s]) ∧ Below w.heap.size w w' := by
  have HX := ak hbx
  clear hbx
  go_enter Try.func39, Try.ntmps39
  go_wp2
  go_loopw [4, 5, 12] (fun v4 v5 v12 wr => ∃ (i : Nat) (f : Int) (b : Bool), v4 = .int .i64 f ∧ v5 = .bool b ∧ v12 = .int .i64 (i : Int) ∧ i ≤ lv.length ∧ Aside0 (Rs.g1 k l0 (lv.drop i) f b = some (fo, so)) ∧ Aside0 (Below w.heap.size w wr))
    (fun _ _ v12 _ => lv.length - (intOf v12).toNat)
  case atStart => exact ⟨0, 0, false, rfl, rfl, rfl, Nat.zero_le _, H1, ⟨Below.refl _ _⟩⟩
  case round =>
    clear H1
    obtain ⟨i, f, b, rfl, rfl, rfl, hi, H, HB⟩ := hrel
    by_cases hlt : i < lv.length
    · have h0 := H.out
      clear H
      rw [List.drop_eq_getElem_cons hlt] at h0
      unfold Rs.g1 at h0
      obtain ⟨ad, rfl, hx0⟩ := Kd.at_int HV.out (i : Int) (by omega) (by omega)
      have hrd : rd lv (i : Int) = lv[i] := by simp [rd, hlt]
      rw [hrd] at hx0
      simp only [Int.toNat_natCast] at hx0
      replace hx0 := (HB.out.cell (World.block_lt_of_cell? w _ hx0)).trans hx0
      have HX2 := (HB.out.cell (World.block_lt_of_cell? w _ HX.out)).trans HX.out
      have HR2 := ak (Kd.C_below HR0.out HB.out)
      clear hrd
      generalize lv[i] = x at h0 hx0
      have hlt' : (i : Int) < (lv.length : Int) := by omega
      have HL2 := ak hlt
      have HM := ak (Rs.meas i lv.length hlt HN.out)
      have hw : ((i + 1 : Nat) : Int) = wrap64 ((i : Int) + 1) := by have := HN.out; unfold wrap64; omega
      have HW := ak hw
      clear hw hlt
      cases b with
      | false =>
        rw [if_neg (by decide)] at h0
        have H := ak h0
        clear h0
        go_wp2
        go_roundw
        case rel => exact ⟨i + 1, x, true, rfl, rfl, by rw [HW.out], by have := HL2.out; omega, H, HB⟩
        case measure => exact HM.out
      | true =>
        rw [if_pos rfl] at h0
        obtain ⟨t, ht, h0⟩ := Option.bind_eq_some_iff.1 h0
        have HT := ak ht
        have H := ak h0
        clear h0 ht
        cases t with
        | true =>
          rw [if_pos rfl] at H
          go_wp2_with (go_at_call 40; refine (Rs.above_calls k A0 c0 l0 x f bx true _ HR2 HX2 HT.out).mono ?_; rintro e w2 ⟨rfl, hb⟩; have HB2 := ak (below_step HB.out hb); clear hb)
          go_roundw
          case rel => exact ⟨i + 1, x, true, rfl, rfl, by rw [HW.out], by have := HL2.out; omega, H, HB2⟩
          case measure => exact HM.out
        | false =>
          rw [if_neg (by decide)] at H
          go_wp2_with (go_at_call 40; refine (Rs.above_calls k A0 c0 l0 x f bx false _ HR2 HX2 HT.out).mono ?_; rintro e w2 ⟨rfl, hb⟩; have HB2 := ak (below_step HB.out hb); clear hb)
          go_roundw
          case rel => exact ⟨i + 1, f, true, rfl, rfl, by rw [HW.out], by have := HL2.out; omega, H, HB2⟩
          case measure => exact HM.out
    · obtain rfl : i = lv.length := by omega
      have h := H.out
      rw [List.drop_length] at h
      obtain ⟨rfl, rfl⟩ := Prod.mk.inj (Option.some.inj h)
      clear h H
      go_wp2
      go_loopw [5, 28] (fun v5 v28 w2 => ∃ (i : Nat) (b : Bool), v5 = .bool b ∧ v28 = .int .i64 (i : Int) ∧ i ≤ lv.length ∧ Aside0 (Rs.g2 k l0 (lv.drop i) f b = some s) ∧ Aside0 (Below w.heap.size w w2))
        (fun _ v28 _ => lv.length - (intOf v28).toNat)
      case atStart => exact ⟨0, b, rfl, rfl, Nat.zero_le _, H2, HB⟩
      case round =>
        clear H2 HB
        obtain ⟨i, b2, rfl, rfl, hi, H, HB⟩ := hrel
        by_cases hlt : i < lv.length
        · have h0 := H.out
          clear H
          rw [List.drop_eq_getElem_cons hlt] at h0
          unfold Rs.g2 at h0
          obtain ⟨ad, rfl, hx0⟩ := Kd.at_int HV.out (i : Int) (by omega) (by omega)
          have hrd : rd lv (i : Int) = lv[i] := by simp [rd, hlt]
          rw [hrd] at hx0
          simp only [Int.toNat_natCast] at hx0
          replace hx0 := (HB.out.cell (World.block_lt_of_cell? w _ hx0)).trans hx0
          have HX2 := (HB.out.cell (World.block_lt_of_cell? w _ HX.out)).trans HX.out
          have HR2 := ak (Kd.C_below HR0.out HB.out)
          clear hrd
          generalize lv[i] = x at h0 hx0
          have hlt' : (i : Int) < (lv.length : Int) := by omega
          have HL2 := ak hlt
          have HM := ak (Rs.meas i lv.length hlt HN.out)
          have hw : ((i + 1 : Nat) : Int) = wrap64 ((i : Int) + 1) := by have := HN.out; unfold wrap64; omega
          have HW := ak hw
          clear hw hlt
          cases b2 with
          | false =>
            rw [if_neg (by decide)] at h0
            have H := ak h0
            clear h0
            go_wp2
            go_roundw
            case rel => exact ⟨i + 1, false, rfl, by rw [HW.out], by have := HL2.out; omega, H, HB⟩
            case measure => exact HM.out
          | true =>
            rw [if_pos rfl] at h0
            obtain ⟨t, ht, h0⟩ := Option.bind_eq_some_iff.1 h0
            have HT := ak ht
            have H := ak h0
            clear h0 ht
            go_wp2_with (go_at_call 40; refine (Rs.above_calls k A0 c0 l0 f x bx t _ HR2 HX2 HT.out).mono ?_; rintro e w2 ⟨rfl, hb⟩; have HB2 := ak (below_step HB.out hb); clear hb)
            go_roundw
            case rel => exact ⟨i + 1, t, rfl, by rw [HW.out], by have := HL2.out; omega, H, HB2⟩
            case measure => exact HM.out
        · obtain rfl : i = lv.length := by omega
          have h := H.out
          rw [List.drop_length] at h
          obtain rfl := Option.some.inj h
          clear h H
          go_wp2
          go_ret2
          exact ⟨rfl, HB.out⟩

set_option maxHeartbeats 2000000 in
set_option maxRecDepth 100000 in
theorem binds_Resolve.calls (k : Nat) (A0 : Option Addr) (c0 : Nat) (l0 : List S24) (a1 a2 : ByteArray) (r1 r2 : Int) (w : World) (hr0 : Kd.C k24 w A0 l0.length l0) (hc0 : l0.length ≤ c0) (h : binds_Resolve.f k l0 a1 a2 = some (r1, r2)) :
    Calls Try.prog 19 #[.slice A0 l0.length c0, .string a1, .string a2] w fun e w' => e = .returned (.tuple #[.int .i64 r1, .int .i64 r2]) ∧ Below w.heap.size w w' := by
  unfold binds_Resolve.f at h
  obtain ⟨⟨t1, t2⟩, hC, h⟩ := Option.bind_eq_some_iff.1 h
  dsimp only at h
  have HC := ak hC
  have HB0 := ak (wA (Below.refl w.heap.size w) (.cells #[.slice A0 l0.length c0] 22))
  have HR0 := ak (Kd.C_below hr0 HB0.out)
  have HX := ak (show (w.alloc (.cells #[.slice A0 l0.length c0] 22)).cell? ⟨w.heap.size, 0, none⟩ = some (.slice A0 l0.length c0) from by unfold World.cell?; rw [World.alloc_heap_new w (.cells #[.slice A0 l0.length c0] 22)]; rfl)
  have hx := HX.out
  have HC0 := ak hc0
  clear hC hr0 hc0
  by_cases h2 : t2 = 0
  · subst h2
    rw [if_pos rfl] at h
    by_cases hn : (t1.length : Int) = 0
    · rw [if_pos hn] at h
      obtain ⟨rfl, rfl⟩ := Prod.mk.inj (Option.some.inj h)
      have hnb : ((t1.length : Int) == 0) = true := beq_iff_eq.mpr hn
      clear h hn
      go_enter Try.func19, Try.ntmps19
      go_wp2_with (go_at_call 17; refine (binds_Candidates.calls k A0 c0 l0 a1 a2 _ _ _ HR0.out HC0.out HC.out).mono ?_; rintro e w2 ⟨v, rfl, ho, hb⟩; obtain ⟨Av, cv, rfl⟩ := Kd.R_slice ho; have HB2 := ak (below_step HB0.out hb); clear ho hb)
      go_ret2
      exact ⟨rfl, HB2.out⟩
    · rw [if_neg hn] at h
      have hnb : ((t1.length : Int) == 0) = false := beq_eq_false_iff_ne.mpr hn
      clear hn
      by_cases hm : t1.length ≤ 1000000
      · rw [if_pos hm] at h
        obtain ⟨⟨fo, so⟩, h1, h⟩ := Option.bind_eq_some_iff.1 h
        obtain ⟨s, h2, h⟩ := Option.bind_eq_some_iff.1 h
        dsimp only at h2 h
        have HM := ak hm
        have H1 := ak h1
        have H2 := ak h2
        clear h1 h2 hm
        cases s with
        | true =>
          rw [if_pos rfl] at h
          obtain ⟨rfl, rfl⟩ := Prod.mk.inj (Option.some.inj h)
          clear h
          go_enter Try.func19, Try.ntmps19
          go_wp2_with (first
            | (go_at_call 17; refine (binds_Candidates.calls k A0 c0 l0 a1 a2 _ _ _ HR0.out HC0.out HC.out).mono ?_; rintro e w2 ⟨v, rfl, ho, hb⟩; obtain ⟨Av, cv, rfl⟩ := Kd.R_slice ho; have HV := ak (Kd.R_reads' ho).2.2; have HB2 := ak (below_step HB0.out hb); have HR2 := ak (Kd.C_below HR0.out hb); have HX2 := ak ((hb.cell (World.block_lt_of_cell? _ _ HX.out)).trans HX.out); clear ho hb)
            | (go_at_call 39; refine (Rs.greatest_calls k A0 c0 l0 w.heap.size Av cv t1 _ so true _ HR2 HX2.out HV HM H1 H2).mono ?_; rintro e w3 ⟨rfl, hb⟩; have HB3 := ak (below_step HB2.out hb); clear hb))
          go_ret2
          exact ⟨rfl, HB3.out⟩
        | false =>
          rw [if_neg (by decide)] at h
          obtain ⟨rfl, rfl⟩ := Prod.mk.inj (Option.some.inj h)
          clear h
          go_enter Try.func19, Try.ntmps19
          go_wp2_with (first
            | (go_at_call 17; refine (binds_Candidates.calls k A0 c0 l0 a1 a2 _ _ _ HR0.out HC0.out HC.out).mono ?_; rintro e w2 ⟨v, rfl, ho, hb⟩; obtain ⟨Av, cv, rfl⟩ := Kd.R_slice ho; have HV := ak (Kd.R_reads' ho).2.2; have HB2 := ak (below_step HB0.out hb); have HR2 := ak (Kd.C_below HR0.out hb); have HX2 := ak ((hb.cell (World.block_lt_of_cell? _ _ HX.out)).trans HX.out); clear ho hb)
            | (go_at_call 39; refine (Rs.greatest_calls k A0 c0 l0 w.heap.size Av cv t1 fo so false _ HR2 HX2.out HV HM H1 H2).mono ?_; rintro e w3 ⟨rfl, hb⟩; have HB3 := ak (below_step HB2.out hb); clear hb))
          go_ret2
          exact ⟨rfl, HB3.out⟩
      · rw [if_neg hm] at h; cases h
  · rw [if_neg h2] at h
    obtain ⟨rfl, rfl⟩ := Prod.mk.inj (Option.some.inj h)
    have h2b : (t2 != 0) = true := bne_iff_ne.mpr h2
    clear h h2
    go_enter Try.func19, Try.ntmps19
    go_wp2_with (go_at_call 17; refine (binds_Candidates.calls k A0 c0 l0 a1 a2 _ _ _ HR0.out HC0.out HC.out).mono ?_; rintro e w2 ⟨v, rfl, ho, hb⟩; have HB2 := ak (below_step HB0.out hb); clear ho hb)
    go_ret2
    exact ⟨rfl, HB2.out⟩

end Go.Proofs.Ytpjcahjpjeiicaa.P
