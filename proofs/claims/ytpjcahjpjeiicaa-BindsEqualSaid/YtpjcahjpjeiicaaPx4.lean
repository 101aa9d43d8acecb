-- Written by wip/tools/myprint.py of this session over the kit's print; Lean checks it.
import Derived.Test.YtpjcahjpjeiicaaPx0
import Derived.Test.YtpjcahjpjeiicaaPx3
namespace Go.Proofs.Ytpjcahjpjeiicaa.P
open Go.RowKit Go.Proofs.YtpjcahjpjeiicaaW.PrintWords Go.Proofs.YtpjcahjpjeiicaaW.PrintLast Go.Proofs.YtpjcahjpjeiicaaW.PrintMore
attribute [local go_sem] max2_int min2_int max_two min_two max_three min_three max_four min_four   -- for this text's walks alone
set_option linter.unusedVariables false
set_option linter.unusedSimpArgs false


/-! ### binds_Check: function 12 (written by this session) -/
theorem Sc.lookup60 {w : World} {ops : Array Oper} {rest : List Oper} {o : Oper} {a : Act} {Q : Exit → Act → World → Prop}
    (hg : o.guard = none) (m x : Operand) (hop : o.op = Op.lookup 57 m x false) (b n : Nat) (seen : List (ByteArray × ByteArray))
    (hm : a.eval m = .map (some b)) (hown : w.ownsMap Try.prog 60 (plainElem Try.prog 4) b n (Sc.met seen)) (s1 s2 : ByteArray) (hx : a.eval x = .agg #[.string s1, .string s2]) (h1 : s1.size ≤ maxLen) (h2 : s2.size ≤ maxLen) (hs : Sc.small seen)
    (hK : wpList Try.prog ops Q rest (a.put o.dst (.bool (Sc.hasKey seen s1 s2))) w) :
    wpList Try.prog ops Q (o :: rest) a w := by
  refine wpList_plain hg fun K' hK' => ?_
  obtain ⟨v, ps, hrun, hv⟩ := hown.lookup Sc.law60 Try.underlying57 (z := .bool false) (zd := .lit (.bool false)) (zp := []) (by kernel_rfl) (plainElem_bool Try.underlying4 false) (Sc.keyOf60 h1 h2)
  rw [Sc.met_at seen hs s1 s2 h1 h2] at hv
  have hv' : v = .bool (Sc.hasKey seen s1 s2) := by
    unfold plainElem at hv
    rw [Try.underlying4] at hv
    cases v <;> simp at hv
    rw [hv.1]
  subst hv'
  unfold Oper.wp
  simp [execOp, hop, hm, hx, hrun, Result.andThen]
  exact hK' _ _ hK
theorem Sc.met_cons (x : ByteArray × ByteArray) (r : List (ByteArray × ByteArray)) : Sc.met (x :: r) = (Sc.met r).put (Sc.kl x.1 x.2) (.lit (.bool true)) := rfl
theorem Sc.meas (i n : Nat) (h : i < n) (hn : n ≤ 1000) : n - (intOf (Value.int IntKind.i64 (wrap64 ((i : Int) + 1)))).toNat < n - (intOf (Value.int IntKind.i64 ((i : Nat) : Int))).toNat := by
  have hw : wrap64 ((i : Int) + 1) = ((i + 1 : Nat) : Int) := by unfold wrap64; omega
  rw [hw]
  show n - (i + 1) < n - i
  omega
theorem Sc.cell4 (W : World) (t : TypeId) (x0 x1 x2 x3 : Value) : (W.alloc (.cells #[x0, x1, x2, x3] t)).cell? ⟨W.heap.size, 0, none⟩ = some x0 ∧ (W.alloc (.cells #[x0, x1, x2, x3] t)).cell? ⟨W.heap.size, 1, none⟩ = some x1 ∧ (W.alloc (.cells #[x0, x1, x2, x3] t)).cell? ⟨W.heap.size, 2, none⟩ = some x2 ∧ (W.alloc (.cells #[x0, x1, x2, x3] t)).cell? ⟨W.heap.size, 3, none⟩ = some x3 := by
  have h := World.alloc_heap_new W (.cells #[x0, x1, x2, x3] t)
  refine ⟨?_, ?_, ?_, ?_⟩ <;> (unfold World.cell?; rw [h]; rfl)
theorem Sc.ownsMap_below {w w' : World} {B b n : Nat} {k : TypeId} {R : Value → Option (DataW Unit × List MemPlace)} {D : DataW Unit} (h : w.ownsMap Try.prog k R b n D) (hb : Below B w w') (hlt : b < B) : w'.ownsMap Try.prog k R b n D := by
  obtain ⟨es, clock, hh, r⟩ := h
  exact ⟨es, clock, (hb.block b hlt).trans hh, r⟩

def binds_Check.go : List S24 → Int → List (ByteArray × ByteArray) → Option (Int × Int)
  | [], _, _ => some (0, 0)
  | b :: r, i, seen => if b.f0.size ≤ maxLen ∧ b.f1.size ≤ maxLen then (binds_check.f b.f0 b.f1 b.f2 b.f3).bind fun e => (if e = 0 then (if Sc.hasKey seen b.f0 b.f1 = true then some (i, 8) else binds_Check.go r (i + 1) ((b.f0, b.f1) :: seen)) else some (i, e)) else none
def binds_Check.f (l0 : List S24) : Option (Int × Int) := if (l0.length : Int) > 1000 then some (-1, 3) else binds_Check.go l0 0 []
set_option maxHeartbeats 1000000 in
set_option maxRecDepth 100000 in
theorem binds_Check.calls (A0 : Option Addr) (c0 : Nat) (l0 : List S24) (r1 r2 : Int) (w : World) (hr0 : Kd.C k24 w A0 l0.length l0) (hc0 : l0.length ≤ c0) (h : binds_Check.f l0 = some (r1, r2)) :
    Calls Try.prog 12 #[.slice A0 l0.length c0] w fun e w' => e = .returned (.tuple #[.int .i64 r1, .int .i64 r2]) ∧ Below w.heap.size w w' := by
  have HR0 := ak hr0
  clear hr0 hc0
  unfold binds_Check.f at h
  by_cases c1 : (l0.length : Int) > 1000
  · rw [if_pos c1] at h
    obtain ⟨rfl, rfl⟩ := Prod.mk.inj (Option.some.inj h)
    have c1b : decide ((1000 : Int) < (l0.length : Int)) = true := decide_eq_true c1
    clear c1 h
    go_enter Try.func12, Try.ntmps12
    go_wp2
    go_ret2
    exact ⟨rfl, Below.refl _ _⟩
  · rw [if_neg c1] at h
    have c1b : decide ((1000 : Int) < (l0.length : Int)) = false := decide_eq_false c1
    have hlen : l0.length ≤ 1000 := by omega
    clear c1
    have H := ak h
    have HL := ak hlen
    clear h hlen
    have hM := World.ownsMap_made w Try.prog 60 (plainElem (H := Unit) Try.prog 4)
    have HB0 := ak (wA (Below.refl w.heap.size w) (.map #[] 0))
    have HM := ak hM
    clear hM
    go_enter Try.func12, Try.ntmps12
    have hmk := run_makeMap (P := Try.prog) 57 w
    go_wp2
    clear hmk
    go_loopw [14] (fun v14 wr => ∃ (i : Nat) (seen : List (ByteArray × ByteArray)), v14 = .int .i64 (i : Int) ∧ i ≤ l0.length ∧ Aside0 (binds_Check.go (l0.drop i) i seen = some (r1, r2)) ∧ Aside0 (Below w.heap.size w wr) ∧ Aside0 (wr.ownsMap Try.prog 60 (plainElem Try.prog 4) w.heap.size i (Sc.met seen)) ∧ Aside0 (Sc.small seen) ∧ Aside0 (w.heap.size < wr.heap.size))
      (fun v14 _ => l0.length - (intOf v14).toNat)
    case atStart => exact ⟨0, [], rfl, Nat.zero_le _, H, HB0, HM, ⟨by intro x hx; cases hx⟩, ⟨by simp⟩⟩
    case round =>
      clear HB0 HM H
      obtain ⟨i, seen, rfl, hi, H, HB, HM, HS, HZ⟩ := hrel
      by_cases hlt : i < l0.length
      · have h0 := H.out
        clear H
        rw [List.drop_eq_getElem_cons hlt] at h0
        unfold binds_Check.go at h0
        obtain ⟨hsz, h1⟩ : (l0[i].f0.size ≤ maxLen ∧ l0[i].f1.size ≤ maxLen) ∧ _ = some (r1, r2) := by
          by_cases hsz : l0[i].f0.size ≤ maxLen ∧ l0[i].f1.size ≤ maxLen
          · rw [if_pos hsz] at h0; exact ⟨hsz, h0⟩
          · rw [if_neg hsz] at h0; cases h0
        clear h0
        obtain ⟨e, hce, h⟩ := Option.bind_eq_some_iff.1 h1
        clear h1
        obtain ⟨ad, rfl, hx0, hx1, hx2, hx3⟩ := at_T24 HR0.out (i : Int) (by omega) (by omega)
        have hrd : rd_T24 l0 (i : Int) = l0[i] := by simp [rd_T24, hlt]
        rw [hrd] at hx0 hx1 hx2 hx3
        simp only [Int.toNat_natCast] at hx0 hx1 hx2 hx3
        replace hx0 := (HB.out.cell (World.block_lt_of_cell? w _ hx0)).trans hx0
        replace hx1 := (HB.out.cell (World.block_lt_of_cell? w _ hx1)).trans hx1
        replace hx2 := (HB.out.cell (World.block_lt_of_cell? w _ hx2)).trans hx2
        replace hx3 := (HB.out.cell (World.block_lt_of_cell? w _ hx3)).trans hx3
        clear hrd
        generalize l0[i] = b at hsz hce h hx0 hx1 hx2 hx3
        obtain ⟨b0, b1, b2, b3⟩ := b
        dsimp only at hsz hce h hx0 hx1 hx2 hx3
        have hlt' : (i : Int) < (l0.length : Int) := by omega
        have HSZ := ak hsz
        have HCE := ak hce
        have H := ak h
        have HL2 := ak hlt
        clear h hsz hce hlt
        by_cases he : e = 0
        · subst he
          have h := H.out
          rw [if_pos rfl] at h
          clear H
          obtain ⟨hk, hhk⟩ : ∃ hk, Sc.hasKey seen b0 b1 = hk := ⟨_, rfl⟩
          rw [hhk] at h
          have HH := ak hhk
          have H := ak h
          clear h hhk
          have C4 := ak (Sc.cell4 wr 24 (.string b0) (.string b1) (.int .i64 b2) (.int .i64 b3))
          have hof : binds_of.f b0 b1 b2 b3 = some (b0, b1) := rfl
          have HOF := ak hof
          clear hof
          have HI : Aside0 (i < maxLen) := ⟨by have := HL.out; unfold maxLen; omega⟩
          cases hk with
          | true =>
            obtain ⟨rfl, rfl⟩ := Prod.mk.inj (Option.some.inj H.out)
            clear H
            go_wp2_with (first
              | (go_at_call 31; refine (binds_check.calls b0 b1 b2 b3 _ _ HCE.out).mono ?_; rintro e' w2 ⟨rfl, hb⟩; have y0 := (hb.cell (p := ⟨wr.heap.size, 0, none⟩) (by simp)).trans C4.out.1; have y1 := (hb.cell (p := ⟨wr.heap.size, 1, none⟩) (by simp)).trans C4.out.2.1; have y2 := (hb.cell (p := ⟨wr.heap.size, 2, none⟩) (by simp)).trans C4.out.2.2.1; have y3 := (hb.cell (p := ⟨wr.heap.size, 3, none⟩) (by simp)).trans C4.out.2.2.2; have HB2 := ak (below_step (wA HB.out _) hb); have HM2 := ak (Sc.ownsMap_below (HM.out.alloc _) hb (Nat.lt_trans HZ.out (by simp))); have HZ2 := ak (Nat.lt_of_lt_of_le (Nat.lt_trans HZ.out (by simp)) hb.size); clear hb)
              | (go_at_call 32; refine (binds_of.calls b0 b1 b2 b3 _ _ _ HOF.out).mono ?_; rintro e' w3 ⟨rfl, hb⟩; replace y0 := (hb.cell (World.block_lt_of_cell? _ _ y0)).trans y0; replace y1 := (hb.cell (World.block_lt_of_cell? _ _ y1)).trans y1; replace y2 := (hb.cell (World.block_lt_of_cell? _ _ y2)).trans y2; replace y3 := (hb.cell (World.block_lt_of_cell? _ _ y3)).trans y3; have n1_ := ak (below_step HB2.out hb); have n2_ := ak (Sc.ownsMap_below HM2.out hb HZ2.out); have n3_ := ak (Nat.lt_of_lt_of_le HZ2.out hb.size); clear HB2 HM2 HZ2 hb; have HB2 := n1_; have HM2 := n2_; have HZ2 := n3_; clear n1_ n2_ n3_)
              | (at_lookup; refine Sc.lookup60 rfl _ _ rfl _ _ seen rfl HM2.out b0 b1 rfl HSZ.out.1 HSZ.out.2 HS.out ?_; rw [HH.out]))
            go_ret2
            exact ⟨rfl, HB2.out⟩
          | false =>
            have H2 : Aside0 (binds_Check.go (l0.drop (i + 1)) ((i + 1 : Nat) : Int) ((b0, b1) :: seen) = some (r1, r2)) := ⟨by have := H.out; simpa using this⟩
            have HS2 : Aside0 (Sc.small ((b0, b1) :: seen)) := ⟨fun x hx => by
              rcases List.mem_cons.1 hx with rfl | hx
              · exact HSZ.out
              · exact HS.out x hx⟩
            clear H
            go_wp2_with (first
              | (go_at_call 31; refine (binds_check.calls b0 b1 b2 b3 _ _ HCE.out).mono ?_; rintro e' w2 ⟨rfl, hb⟩; have y0 := (hb.cell (p := ⟨wr.heap.size, 0, none⟩) (by simp)).trans C4.out.1; have y1 := (hb.cell (p := ⟨wr.heap.size, 1, none⟩) (by simp)).trans C4.out.2.1; have y2 := (hb.cell (p := ⟨wr.heap.size, 2, none⟩) (by simp)).trans C4.out.2.2.1; have y3 := (hb.cell (p := ⟨wr.heap.size, 3, none⟩) (by simp)).trans C4.out.2.2.2; have HB2 := ak (below_step (wA HB.out _) hb); have HM2 := ak (Sc.ownsMap_below (HM.out.alloc _) hb (Nat.lt_trans HZ.out (by simp))); have HZ2 := ak (Nat.lt_of_lt_of_le (Nat.lt_trans HZ.out (by simp)) hb.size); clear hb)
              | (go_at_call 32; refine (binds_of.calls b0 b1 b2 b3 _ _ _ HOF.out).mono ?_; rintro e' w3 ⟨rfl, hb⟩; replace y0 := (hb.cell (World.block_lt_of_cell? _ _ y0)).trans y0; replace y1 := (hb.cell (World.block_lt_of_cell? _ _ y1)).trans y1; replace y2 := (hb.cell (World.block_lt_of_cell? _ _ y2)).trans y2; replace y3 := (hb.cell (World.block_lt_of_cell? _ _ y3)).trans y3; have n1_ := ak (below_step HB2.out hb); have n2_ := ak (Sc.ownsMap_below HM2.out hb HZ2.out); have n3_ := ak (Nat.lt_of_lt_of_le HZ2.out hb.size); clear HB2 HM2 HZ2 hb; have HB2 := n1_; have HM2 := n2_; have HZ2 := n3_; clear n1_ n2_ n3_)
              | (at_lookup; refine Sc.lookup60 rfl _ _ rfl _ _ seen rfl HM2.out b0 b1 rfl HSZ.out.1 HSZ.out.2 HS.out ?_; rw [HH.out])
              | (at_mapUpdate; refine wpList_mapUpdate_own _ rfl _ _ _ 57 rfl 60 4 Sc.law60 Try.underlying57 _ w.heap.size i _ rfl HM2.out HI.out _ _ (Sc.kl b0 b1) rfl rfl (Sc.keyOf60 HSZ.out.1 HSZ.out.2) (.lit (.bool true)) [] (plainElem_bool Try.underlying4 true) ?_; intro w5 hown5 hg5; have n1_ := ak (HB2.out.grown hg5 HB2.out.size (fun k e => by cases e; exact Nat.le_refl _)); have n2_ : Aside0 (w5.ownsMap Try.prog 60 (plainElem Try.prog 4) w.heap.size (i + 1) (Sc.met ((b0, b1) :: seen))) := ⟨by rw [Sc.met_cons]; exact hown5⟩; have n3_ := ak (Nat.lt_of_lt_of_le HZ2.out hg5.size); clear HB2 HM2 HZ2 hg5 hown5; have HB2 := n1_; have HM2 := n2_; have HZ2 := n3_; clear n1_ n2_ n3_))
            have hl2 := HL2.out
            have hw : wrap64 ((i : Int) + 1) = ((i + 1 : Nat) : Int) := by have := HL.out; unfold wrap64; omega
            go_roundw
            case rel => exact ⟨i + 1, (b0, b1) :: seen, by rw [← hw], by omega, H2, HB2, HM2, HS2, HZ2⟩
            case measure =>
              exact Sc.meas i l0.length hl2 HL.out
        · have heb : (e != 0) = true := bne_iff_ne.mpr he
          have h := H.out
          rw [if_neg he] at h
          obtain ⟨rfl, rfl⟩ := Prod.mk.inj (Option.some.inj h)
          clear h H he HM HS
          go_wp2_with (go_at_call 31; refine (binds_check.calls b0 b1 b2 b3 _ _ HCE.out).mono ?_; rintro e' w2 ⟨rfl, hb⟩)
          go_ret2
          exact ⟨rfl, below_step (wA HB.out _) hb⟩
      · obtain rfl : i = l0.length := by omega
        have h := H.out
        rw [List.drop_length] at h
        obtain ⟨rfl, rfl⟩ := Prod.mk.inj (Option.some.inj h)
        clear h H HM HS
        go_wp2
        go_ret2
        exact ⟨rfl, HB.out⟩

end Go.Proofs.Ytpjcahjpjeiicaa.P
