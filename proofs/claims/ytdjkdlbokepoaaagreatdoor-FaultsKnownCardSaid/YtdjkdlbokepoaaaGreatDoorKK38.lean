import Derived.Test.YtdjkdlbokepoaaaGreatDoorKK36
import Derived.Test.YtdjkdlbokepoaaaGreatDoorKK37
namespace Go.Proofs.YtdjkdlbokepoaaaGreatDoor.P
open Go.RowKit Go.Proofs.YtdjkdlbokepoaaaGreatDoorW.PrintWords Go.Proofs.YtdjkdlbokepoaaaGreatDoorW.PrintLast Go.Proofs.YtdjkdlbokepoaaaGreatDoorW.PrintMore
attribute [local go_sem] max2_int min2_int max_two min_two max_three min_three max_four min_four   -- for this text's walks alone
set_option linter.unusedVariables false
set_option linter.unusedSimpArgs false
theorem wrap_none (l : List S41) (A : Option Addr) (c : Nat) (w : World) :
    Calls Tryz.prog 62 #[.slice A l.length c, .int .i64 (-1)] w fun e w' => e = .returned .nilIface ∧ Below w.heap.size w w' := by
  go_enter Tryz.func62, Tryz.ntmps62
  go_wp2
  go_ret
  exact ⟨rfl, Below.refl _ _⟩
theorem wrap_new (w w1 : World) (i y0 y1 y2 y3 y5 : Int) (y4 : ByteArray) (v : Value) (r : List (Int × Int)) (hb : Below w.heap.size w w1) (hE : Ft.ErrAt w1 w1.heap.size r v) (W : World) (hW : W = w1.alloc (.cells #[.int .i64 y0, .int .i64 y1, .int .i64 y2, .int .i64 y3, .string y4, .int .i64 y5, .int .i64 i, v] 127)) :
    Ft.ErrAt W W.heap.size ((i, y0) :: r) (.iface 125 (.pointer (some ⟨w1.heap.size, 0, none⟩))) ∧ Below w.heap.size w W := by
  subst hW
  refine ⟨⟨w1.heap.size, v, by simp, rfl, ?_, ?_, ?_, ?_⟩, hb.alloc hb.size _⟩
  · rw [World.cell?_alloc_at _ _ _ _ (by simp)]; rfl
  · rw [World.cell?_alloc_at _ _ _ _ (by simp)]; rfl
  · rw [World.cell?_alloc_at _ _ _ _ (by simp)]; rfl
  · exact Ft.ErrAt.stay ((Below.refl _ w1).alloc (Nat.le_refl _) _) _ _ _ hE
set_option maxHeartbeats 2000000 in
set_option maxRecDepth 100000 in
theorem wrap_calls (l : List S41) (A : Option Addr) (c : Nat) (hD : Downs l) : ∀ (k : Nat) (i : Int), i < (k : Int) → k ≤ l.length → 0 ≤ i → ∀ (w : World), Aside0 (Kd.C k41 w A l.length l) →
    Calls Tryz.prog 62 #[.slice A l.length c, .int .i64 i] w fun e w' => ∃ b, e = .returned (.iface 125 (.pointer (some ⟨b, 0, none⟩))) ∧ Ft.ErrAt w' w'.heap.size ((chainG l k i).map (linkOf l)) (.iface 125 (.pointer (some ⟨b, 0, none⟩))) ∧ Below w.heap.size w w' := by
  intro k
  induction k with
  | zero => intro i hi _ h1; omega
  | succ k ih =>
    intro i hi hk h0 w HR
    obtain ⟨ad, rfl, x0, x1, x2, x3, x4, x5⟩ := at_T41 HR.out i (by omega) (by omega)
    have hd := hD i.toNat (by omega)
    rw [show ((i.toNat : Nat) : Int) = i by omega] at hd
    have e1 : (chainG l (k + 1) i).map (linkOf l) = (i, (rd_T41 l i).f0) :: (chainG l k (rd_T41 l i).f4).map (linkOf l) := by
      rw [chainG, if_neg (by omega)]; rfl
    rw [e1]
    clear e1
    have c1 : decide (i < 0) = false := decide_eq_false (by omega)
    have hi1 : i < (l.length : Int) := by omega
    by_cases hn : (rd_T41 l i).f4 < 0
    · have hz : (rd_T41 l i).f4 = -1 := by omega
      have e2 : chainG l k (rd_T41 l i).f4 = [] := by cases k with
        | zero => rfl
        | succ k => rw [chainG, if_pos hn]
      rw [e2]
      rw [hz] at x5
      clear ih e2 hn hz hd
      generalize (rd_T41 l i).f0 = y0 at *
      generalize (rd_T41 l i).f1 = y1 at *
      generalize (rd_T41 l i).f2.f0 = y2 at *
      generalize (rd_T41 l i).f2.f1 = y3 at *
      generalize (rd_T41 l i).f3 = y4 at *
      go_enter Tryz.func62, Tryz.ntmps62
      go_wp2
      go_region_held3 (fun w' => w'.cell? (ad.add (i.toNat * 6)) = some (.int .i64 y0) ∧ w'.cell? ⟨(ad.add (i.toNat * 6)).block, (ad.add (i.toNat * 6)).off + 1, none⟩ = some (.int .i64 y1) ∧ w'.cell? ⟨(ad.add (i.toNat * 6)).block, (ad.add (i.toNat * 6)).off + 2, none⟩ = some (.int .i64 y2) ∧ w'.cell? ⟨(ad.add (i.toNat * 6)).block, (ad.add (i.toNat * 6)).off + 3, none⟩ = some (.int .i64 y3) ∧ w'.cell? ⟨(ad.add (i.toNat * 6)).block, (ad.add (i.toNat * 6)).off + 4, none⟩ = some (.string y4) ∧ w'.cell? ⟨(ad.add (i.toNat * 6)).block, (ad.add (i.toNat * 6)).off + 5, none⟩ = some (.int .i64 (-1)))
        (first | go_keep | exact ⟨(hb.cell (World.block_lt_of_cell? w _ x0)).trans x0, (hb.cell (World.block_lt_of_cell? w _ x1)).trans x1, (hb.cell (World.block_lt_of_cell? w _ x2)).trans x2, (hb.cell (World.block_lt_of_cell? w _ x3)).trans x3, (hb.cell (World.block_lt_of_cell? w _ x4)).trans x4, (hb.cell (World.block_lt_of_cell? w _ x5)).trans x5⟩ | trivial)
        ((go_at_call 62; refine (wrap_none l (some ad) c _).mono ?_; rintro e w1 ⟨rfl, hb⟩))
      go_wp2
      go_ret
      obtain ⟨g1, g2⟩ := wrap_new w w1 i y0 y1 y2 y3 (-1) y4 .nilIface [] (((Below.refl _ w).drew).trans hb) rfl _ rfl
      exact ⟨_, rfl, g1, g2⟩
    · have IH := ak (ih (rd_T41 l i).f4 (by omega) (by omega) (by omega))
      clear ih hn hd
      generalize (rd_T41 l i).f0 = y0 at *
      generalize (rd_T41 l i).f1 = y1 at *
      generalize (rd_T41 l i).f2.f0 = y2 at *
      generalize (rd_T41 l i).f2.f1 = y3 at *
      generalize (rd_T41 l i).f3 = y4 at *
      generalize (rd_T41 l i).f4 = y5 at *
      go_enter Tryz.func62, Tryz.ntmps62
      go_wp2
      go_region_held3 (fun w' => w'.cell? (ad.add (i.toNat * 6)) = some (.int .i64 y0) ∧ w'.cell? ⟨(ad.add (i.toNat * 6)).block, (ad.add (i.toNat * 6)).off + 1, none⟩ = some (.int .i64 y1) ∧ w'.cell? ⟨(ad.add (i.toNat * 6)).block, (ad.add (i.toNat * 6)).off + 2, none⟩ = some (.int .i64 y2) ∧ w'.cell? ⟨(ad.add (i.toNat * 6)).block, (ad.add (i.toNat * 6)).off + 3, none⟩ = some (.int .i64 y3) ∧ w'.cell? ⟨(ad.add (i.toNat * 6)).block, (ad.add (i.toNat * 6)).off + 4, none⟩ = some (.string y4) ∧ w'.cell? ⟨(ad.add (i.toNat * 6)).block, (ad.add (i.toNat * 6)).off + 5, none⟩ = some (.int .i64 y5))
        (first | go_keep | exact ⟨(hb.cell (World.block_lt_of_cell? w _ x0)).trans x0, (hb.cell (World.block_lt_of_cell? w _ x1)).trans x1, (hb.cell (World.block_lt_of_cell? w _ x2)).trans x2, (hb.cell (World.block_lt_of_cell? w _ x3)).trans x3, (hb.cell (World.block_lt_of_cell? w _ x4)).trans x4, (hb.cell (World.block_lt_of_cell? w _ x5)).trans x5⟩ | trivial)
        ((go_at_call 62; refine (IH.out _ ⟨Kd.C_drew HR.out⟩).mono ?_; rintro e w1 ⟨b, rfl, hE, hb⟩; have HE := ak hE; clear hE))
      go_wp2
      go_ret
      obtain ⟨g1, g2⟩ := wrap_new w w1 i y0 y1 y2 y3 y5 y4 _ _ (((Below.refl _ w).drew).trans hb) HE.out _ rfl
      exact ⟨_, rfl, g1, g2⟩
theorem info3_ : (Tryz.prog.info? 3).map (fun i => (i.zero, i.size, i.bytes)) = some (some (.int .i64 0), 1, 8) := by kernel_rfl
theorem frozen_new (w : World) (v : Value) (t : TypeId) : (w.alloc (.cells #[v] t)).frozen? ⟨w.heap.size, 0, none⟩ = false := by
  have h2 : (w.alloc (.cells #[v] t)).heap[w.heap.size]? = some (.cells #[v] t) := by
    show (w.heap.push (.cells #[v] t))[w.heap.size]? = _
    simp
  simp only [World.frozen?, h2]
  rfl
theorem methodPlace (a : Addr) (w : World) : (Go.method 330 125 (.pointer (some a)) "mummer/faults.place").run Tryz.prog w = .ok (170, .pointer (some a)) w := by kernel_rfl
theorem cell_heap {W W' : World} {b : Nat} (h : W'.heap[b]? = W.heap[b]?) (o : Nat) : W'.cell? ⟨b, o, none⟩ = W.cell? ⟨b, o, none⟩ := by simp only [World.cell?, h]
theorem frozen_heap {W W' : World} {b : Nat} (h : W'.heap[b]? = W.heap[b]?) (o : Nat) : W'.frozen? ⟨b, o, none⟩ = W.frozen? ⟨b, o, none⟩ := by simp only [World.frozen?, h]
/-- errors.As at a *wrapped, its doing on the world told by what stays. -/
theorem as_keep (b tb : Nat) (old : Value) (w : World) (ht0 : w.cell? ⟨tb, 0, none⟩ = some old) (hf0 : w.frozen? ⟨tb, 0, none⟩ = false) :
    Calls Tryz.prog 63 #[.iface 125 (.pointer (some ⟨b, 0, none⟩)), .iface 93 (.pointer (some ⟨tb, 0, none⟩))] w fun ev w' => ev = .returned (.bool true) ∧ w'.cell? ⟨tb, 0, none⟩ = some (.iface 125 (.pointer (some ⟨b, 0, none⟩))) ∧ w'.frozen? ⟨tb, 0, none⟩ = false ∧ KeepBut w w' tb none ∧ (∀ w0 : World, w0.heap.size ≤ tb → Below w0.heap.size w0 w → Below w0.heap.size w0 w') := by
  refine (Ft.as_hit ⟨b, 0, none⟩ ⟨tb, 0, none⟩ old w ht0 hf0).mono ?_
  rintro ev w' ⟨rfl, rfl⟩
  have htl : tb < w.heap.size := World.block_lt_of_cell? w ⟨tb, 0, none⟩ ht0
  have hk : ∀ (o1 o2 o3 o4 : Obj), KeepBut w ((((w.alloc o1).alloc o2).alloc o3).alloc o4) tb none := fun o1 o2 o3 o4 => keep_alloc (keep_alloc (keep_alloc (keep_alloc (KeepBut.refl w tb none) _) _) _) _
  unfold Ft.asW
  refine ⟨rfl, ?_, ?_, (hk _ _ _ _).set_ 0 _, fun w0 h0 hb => ?_⟩
  · refine World.cell?_setCell_same' _ _ _ ?_
    rw [World.cell?_alloc_lt _ _ _ (by simp; omega), World.cell?_alloc_lt _ _ _ (by simp; omega), World.cell?_alloc_lt _ _ _ (by simp; omega), World.cell?_alloc_lt _ _ _ htl, ht0]
    rfl
  · rw [World.frozen?_setCell, World.frozen?_alloc_old _ _ _ (by simp; omega), World.frozen?_alloc_old _ _ _ (by simp; omega), World.frozen?_alloc_old _ _ _ (by simp; omega), World.frozen?_alloc_old _ _ _ (Nat.ne_of_lt htl)]
    exact hf0
  · have h4 : ∀ (o1 o2 o3 o4 : Obj), Below w0.heap.size w0 ((((w.alloc o1).alloc o2).alloc o3).alloc o4) := fun o1 o2 o3 o4 => wA (wA (wA (wA hb _) _) _) _
    exact (h4 _ _ _ _).setCell (p := ⟨tb, 0, none⟩) h0 _
def faults_Chain.f (k : Nat) (l0 : List S41) (a1 : Int) : Option (List Int × Int) := (faults_known.f k l0 a1).bind fun e => if e = 0 then (if downsB l0 = true ∧ 0 ≤ a1 ∧ a1 < (l0.length : Int) ∧ l0.length ≤ 100 then some (chainG l0 l0.length a1, 0) else none) else some ([], e)
theorem own_row {α : Type} {d : Kd α} {e base N : Nat} {W : World} {v : Value} {xs : List α} (h : d.R e W base (fun k_ => N ≤ k_) v xs) : v.ownBlock = none ∨ ∃ b, v.ownBlock = some b ∧ N ≤ b := by
  cases hv : v.ownBlock with
  | none => exact .inl rfl
  | some b => exact .inr ⟨b, rfl, h.1 b hv⟩
theorem chainG_len (l : List S41) : ∀ (k : Nat) (i : Int), (chainG l k i).length ≤ k
  | 0, _ => Nat.le_refl _
  | k + 1, i => by
    unfold chainG
    split
    · simp
    · simp only [List.length_cons]; exact Nat.succ_le_succ (chainG_len l k _)
set_option maxHeartbeats 4000000 in
set_option maxRecDepth 100000 in
theorem faults_Chain.calls (k : Nat) (A0 : Option Addr) (c0 : Nat) (l0 : List S41) (a1 : Int) (r1 : List Int) (r2 : Int) (w : World) (hr0 : Kd.C k41 w A0 l0.length l0) (hc0 : l0.length ≤ c0) (h : faults_Chain.f k l0 a1 = some (r1, r2)) (HT : Aside0 (Ft.All w)) :
    Calls Tryz.prog 26 #[.slice A0 l0.length c0, .int .i64 a1] w fun e w' => ∃ v0_ : Value, e = .returned (.tuple #[v0_, .int .i64 r2]) ∧ Kd.R (Kd.int .i64) 3 w' w.heap.size (fun _ => True) v0_ r1 ∧ Below w.heap.size w w' := by
  unfold faults_Chain.f at h
  obtain ⟨e, hk, h⟩ := Option.bind_eq_some_iff.mp h
  have HK := ak hk
  have HR := ak hr0
  by_cases he : e = 0
  case neg =>
    rw [if_neg he] at h
    cases h
    have z1 : (r2 != 0) = true := bne_iff_ne.mpr he
    have z2 : (r2 == 0) = false := beq_eq_false_iff_ne.mpr he
    clear hk hr0
    go_enter Tryz.func26, Tryz.ntmps26
    go_wp2_with (first
      | (go_at_call 61; refine ( faults_known.calls k A0 c0 l0 a1 r2 w HR.out hc0 HK.out HT).mono ?_; rintro e w1 ⟨rfl, hb1⟩))
    go_ret2
    exact ⟨_, rfl, Kd.R_nil _ _ _ _ _, hb1⟩
  subst he
  rw [if_pos rfl] at h
  by_cases hc : downsB l0 = true ∧ 0 ≤ a1 ∧ a1 < (l0.length : Int) ∧ l0.length ≤ 100
  case neg => rw [if_neg hc] at h; cases h
  rw [if_pos hc] at h
  cases h
  obtain ⟨hd, h0, h1, hl⟩ := hc
  have HW := ak (fun w => wrap_calls l0 A0 c0 (downs_of hd) l0.length a1 h1 (Nat.le_refl _) h0 w)
  have HL := ak (Nat.le_trans (chainG_len l0 l0.length a1) hl)
  have mP := methodPlace
  have mU := Ft.methodUnwrap
  clear hk hr0 hd
  go_enter Tryz.func26, Tryz.ntmps26
  go_wp2_with (first
    | (go_at_call 61; refine ( faults_known.calls k A0 c0 l0 a1 0 w HR.out hc0 HK.out HT).mono ?_; rintro e w1 ⟨rfl, hb1⟩)
    | (go_at_call 62; refine (HW.out _ ⟨Kd.C_alloc (Kd.C_below HR.out hb1) _⟩).mono ?_; rintro e w2 ⟨b, rfl, hE, hb2⟩))
  have hnil : w2.cell? ⟨w1.heap.size, 0, none⟩ = some .nilIface := (hb2.cell (p := ⟨w1.heap.size, 0, none⟩) (by simp)).trans (by rw [World.cell?_alloc_at _ _ _ _ rfl]; rfl)
  have hfr : w2.frozen? ⟨w1.heap.size, 0, none⟩ = false := (frozen_heap (hb2.block w1.heap.size (by simp)) 0).trans (frozen_new _ _ _)
  have hB2 : Below w.heap.size w w2 := (wA hb1 _).trans (hb2.mono (by simp; have := hb1.size; omega))
  have hsz : w.heap.size ≤ w1.heap.size := hb1.size
  have hlt : w1.heap.size < w2.heap.size := World.block_lt_of_cell? w2 _ hnil
  obtain ⟨T, hT⟩ : ∃ T, w1.heap.size = T := ⟨_, rfl⟩
  have htm : ((chainG l0 l0.length a1).map (linkOf l0)).map (·.1) = chainG l0 l0.length a1 := by rw [List.map_map]; exact List.map_id'' (fun _ => rfl) _
  have HTM := ak htm
  have HN := ak (show ((chainG l0 l0.length a1).map (linkOf l0)).length ≤ 100 by rw [List.length_map]; exact HL.out)
  simp only [World.size_alloc, hT] at hnil hfr hlt hsz ⊢
  generalize (chainG l0 l0.length a1).map (linkOf l0) = R0 at hE HTM HN ⊢
  obtain ⟨C0, hC0⟩ : ∃ C0, chainG l0 l0.length a1 = C0 := ⟨_, rfl⟩
  rw [hC0] at HTM HL
  have HC0 := ak hC0
  clear hC0
  have HE := ak hE
  have HNil := ak hnil
  have HFr := ak hfr
  have HB2 := ak hB2
  clear hE hnil hfr hB2 hb2 hb1 hT HW HR HK HT htm HL h
  go_loopg [7, 9] R0.length (fun gh v7 v9 wr => ∃ (xs : List Int) (rest : List (Int × Int)) (m : Nat) (old : Value), Aside0 (Ft.ErrAt w2 m rest v9) ∧ Aside0 (xs ++ rest.map (·.1) = C0) ∧ gh = rest.length ∧ Aside0 (xs.length + rest.length ≤ 100) ∧ Aside0 (KeepBut w2 wr T none) ∧ Aside0 (Kd.R (Kd.int .i64) 3 wr w.heap.size (fun k_ => w2.heap.size ≤ k_) v7 xs) ∧ Aside0 (Below w.heap.size w wr) ∧ Aside0 (wr.cell? ⟨T, 0, none⟩ = some old) ∧ Aside0 (wr.frozen? ⟨T, 0, none⟩ = false))
  case atStart => exact ⟨[], R0, _, _, HE, HTM, rfl, by simpa using HN, ⟨KeepBut.refl _ _ _⟩, ⟨Kd.R_nil _ _ _ _ _⟩, HB2, HNil, HFr⟩
  case round =>
    obtain ⟨xs, rest, m, old, HE1, HX, rfl, HL, HK, HO, HB, HC, HF⟩ := hrel
    clear HE HB2 HTM HN
    cases rest with
    | nil =>
      obtain rfl : _ = Value.nilIface := HE1.out
      go_wp2_with (go_at_call 63; refine (Ft.as_nil _ _).mono ?_; rintro e w3 ⟨rfl, rfl⟩)
      go_ret2
      have e1 : xs = C0 := by have := HX.out; simpa using this
      rw [HC0.out, ← e1]
      exact ⟨_, rfl, Kd.R_mono HO.out (fun _ _ => trivial), HB.out⟩
    | cons x rest =>
      obtain ⟨p, d⟩ := x
      obtain ⟨b2, u, g1, rfl, g2, g3, g4, g5⟩ := HE1.out
      have hbt : b2 ≠ T := fun e => by subst e; have h3 := HNil.out; simp only at g2; rw [g2] at h3; cases h3
      have hbl : b2 < w2.heap.size := World.block_lt_of_cell? w2 ⟨b2, 0, none⟩ g2
      have HA := ak (as_keep b2 T old wr HC.out HF.out)
      simp only at g3
      have G3 := ak g3
      have G4 := ak g4
      have G5 := ak g5
      have HBT := ak hbt
      have HU : Aside0 (u = .nilIface ∨ ∃ e, u = .iface 125 (.pointer (some e))) := ⟨by
        cases rest with
        | nil => exact .inl g5
        | cons y rest => obtain ⟨b3, u3, _, h3, _⟩ := g5; exact .inr ⟨_, h3⟩⟩
      clear g1 g2 g3 g4 g5 HE1 HC HF hbt
      have LM := ak (show xs.length < 101 by have := HL.out; simp at this; omega)
      go_wp2_with (first
        | ((with_reducible refine gate_builtin (b := .append) (xs := #[.tmp 24, .tmp 27]) rfl ?_); at_builtin; refine Kd.R_append (Kd.int .i64) (w0 := w) w.heap.size rfl (.tmp 24) (.tmp 27) 43 3 (.int .i64 0) 8 rfl Tryz.underlying43 info3_ rfl (by decide) (by omega) u7 xs p [.int .i64 p] (fun k_ => w2.heap.size ≤ k_) (fun _ => False) rfl rfl ?aP (fun _ hk => hk.elim) ?aF ?aO ?aB ?aS ?aL ?_; (case aP => exact rfl); (case aB => exact HB3.out); (case aF => exact (fun k_ hk_ => Nat.le_trans Q3.out.1 hk_)); (case aO => exact HO3.out); (case aS => exact HB3.out.size); (case aL => have := LM.out; omega); intro v302 w9 ho hb hg hat; have HO9 := ak ho; have HB9 := ak hb; have q9 := (cell_heap (hg.block T (Nat.lt_of_lt_of_le hlt Q3.out.1) (fun e_ => absurd (HO3.out.1 T e_.symm) (by omega))) 0).trans q1; have Q9 := ak ((frozen_heap (hg.block T (Nat.lt_of_lt_of_le hlt Q3.out.1) (fun e_ => absurd (HO3.out.1 T e_.symm) (by omega))) 0).trans Q2.out); have K9 := ak (Q3.out.trans (KeepBut.of_grown hg T) (own_row HO3.out)); clear ho hb hg hat q1)
        | (go_at_call 63; refine HA.out.mono ?_; rintro e w3 ⟨rfl, q1, q2, q3, q4⟩; have Q2 := ak q2; have Q3 := ak (HK.out.trans q3 (.inl rfl)); have HB3 := ak (q4 w hsz HB.out); have Q1 := ak q1; have HO3 := ak (Kd.R_keep HO.out q3 (fun k_ hk_ => by have := hlt; omega)); clear q2 q3 q4 HO HK HB)
        | (go_at_call 170; refine (Ft.place_calls b2 p _ (keep_cell Q3.out G3.out HBT.out)).mono ?_; rintro e w4 ⟨rfl, rfl⟩)
        | (go_at_call 169; refine (Ft.unwrap_calls b2 u _ (keep_cell K9.out G4.out HBT.out) HU.out).mono ?_; rintro e w10 ⟨rfl, rfl⟩))
      go_roundg rest.length
      case measure => simp
      case rel => exact ⟨xs ++ [p], rest, b2, _, G5, ⟨by have := HX.out; simpa using this⟩, rfl, ⟨by have := HL.out; simp at this ⊢; omega⟩, K9, HO9, HB9, ⟨q9⟩, Q9⟩
end Go.Proofs.YtdjkdlbokepoaaaGreatDoor.P
namespace Go.Proofs.YtdjkdlbokepoaaaGreatDoor.P
open Go.RowKit Go.Proofs.YtdjkdlbokepoaaaGreatDoorW.PrintWords Go.Proofs.YtdjkdlbokepoaaaGreatDoorW.PrintLast Go.Proofs.YtdjkdlbokepoaaaGreatDoorW.PrintMore
attribute [local go_sem] max2_int min2_int max_two min_two max_three min_three max_four min_four   -- for this text's walks alone
set_option linter.unusedVariables false
set_option linter.unusedSimpArgs false
theorem chainG_ne (l : List S41) (k : Nat) (i : Int) (hk : 0 < k) (hi : 0 ≤ i) : chainG l k i ≠ [] := by
  cases k with
  | zero => omega
  | succ k => unfold chainG; rw [if_neg (by omega)]; simp
def faults_Has.f (k : Nat) (l0 : List S41) (a1 : Int) (a2 : Int) : Option (Bool × Int) := (faults_known.f k l0 a1).bind fun e => if e = 0 then (if downsB l0 = true ∧ 0 ≤ a1 ∧ a1 < (l0.length : Int) ∧ l0.length ≤ 100 then some ((chainG l0 l0.length a1).any (fun i => decide (a2 = (rd_T41 l0 i).f0)), 0) else none) else some (false, e)
set_option maxHeartbeats 4000000 in
set_option maxRecDepth 100000 in
theorem faults_Has.calls (k : Nat) (A0 : Option Addr) (c0 : Nat) (l0 : List S41) (a1 : Int) (a2 : Int) (r1 : Bool) (r2 : Int) (w : World) (hr0 : Kd.C k41 w A0 l0.length l0) (hc0 : l0.length ≤ c0) (h : faults_Has.f k l0 a1 a2 = some (r1, r2)) (HT : Aside0 (Ft.All w)) :
    Calls Tryz.prog 32 #[.slice A0 l0.length c0, .int .i64 a1, .int .i64 a2] w fun e w' => e = .returned (.tuple #[.bool r1, .int .i64 r2]) ∧ Below w.heap.size w w' := by
  unfold faults_Has.f at h
  obtain ⟨e, hk, h⟩ := Option.bind_eq_some_iff.mp h
  have HK := ak hk
  have HR := ak hr0
  by_cases he : e = 0
  case neg =>
    rw [if_neg he] at h
    cases h
    have z1 : (r2 != 0) = true := bne_iff_ne.mpr he
    have z2 : (r2 == 0) = false := beq_eq_false_iff_ne.mpr he
    clear hk hr0
    go_enter Tryz.func32, Tryz.ntmps32
    go_wp2_with (first
      | (go_at_call 61; refine ( faults_known.calls k A0 c0 l0 a1 r2 w HR.out hc0 HK.out HT).mono ?_; rintro e w1 ⟨rfl, hb1⟩))
    go_ret2
    exact ⟨rfl, hb1⟩
  subst he
  rw [if_pos rfl] at h
  by_cases hc : downsB l0 = true ∧ 0 ≤ a1 ∧ a1 < (l0.length : Int) ∧ l0.length ≤ 100
  case neg => rw [if_neg hc] at h; cases h
  rw [if_pos hc] at h
  obtain ⟨hd, h0, h1, hl⟩ := hc
  have e1 : r1 = ((chainG l0 l0.length a1).map (linkOf l0)).any (fun x => decide (a2 = x.2)) := by
    rw [List.any_map]
    exact (congrArg Prod.fst (Option.some.inj h)).symm
  have e2 : r2 = 0 := (congrArg Prod.snd (Option.some.inj h)).symm
  subst e2
  have HW := ak (fun w => wrap_calls l0 A0 c0 (downs_of hd) l0.length a1 h1 (Nat.le_refl _) h0 w)
  have HN : Aside0 ((chainG l0 l0.length a1).map (linkOf l0) ≠ []) := ⟨by
    intro e3
    exact chainG_ne l0 l0.length a1 (by omega) h0 (List.map_eq_nil_iff.1 e3)⟩
  rw [e1]
  generalize (chainG l0 l0.length a1).map (linkOf l0) = R0 at HW HN ⊢
  generalize hA : (R0.any fun x => decide (a2 = x.2)) = ans
  have HA := ak hA
  clear hk hr0 hd h e1 hA
  go_enter Tryz.func32, Tryz.ntmps32
  go_wp2_with (first
    | (go_at_call 61; refine ( faults_known.calls k A0 c0 l0 a1 0 w HR.out hc0 HK.out HT).mono ?_; rintro e w1 ⟨rfl, hb1⟩; have HB1 := ak hb1; clear hb1)
    | (go_at_call 62; refine (HW.out _ ⟨Kd.C_below HR.out HB1.out⟩).mono ?_; rintro e w2 ⟨b, rfl, hE, hb2⟩; have HE := ak hE; have HB2 := ak (HB1.out.trans (hb2.mono HB1.out.size)); clear hE hb2)
    | (go_at_call 66; refine (Ft.Is_calls R0 _ _ a2 _ HN.out HE.out).mono ?_; rintro e w3 ⟨rfl, hb3⟩; have HB3 := ak (HB2.out.trans (hb3.mono HB2.out.size)); rw [HA.out]; clear hb3))
  go_ret2
  exact ⟨rfl, HB3.out⟩
end Go.Proofs.YtdjkdlbokepoaaaGreatDoor.P
namespace Go.Proofs.YtdjkdlbokepoaaaGreatDoor.P
open Go.RowKit Go.Proofs.YtdjkdlbokepoaaaGreatDoorW.PrintWords Go.Proofs.YtdjkdlbokepoaaaGreatDoorW.PrintLast Go.Proofs.YtdjkdlbokepoaaaGreatDoorW.PrintMore
attribute [local go_sem] max2_int min2_int max_two min_two max_three min_three max_four min_four   -- for this text's walks alone
set_option linter.unusedVariables false
set_option linter.unusedSimpArgs false
def mummerlaw08_Text.f : Option (List Int) := some [97, 98, 195, 169, 10, 99, 100]
theorem text_reads (w : World) (m : Nat × Nat) : Kd.C (Kd.int .u8) (w.alloc (.cells #[.int .u8 97, .int .u8 98, .int .u8 195, .int .u8 169, .int .u8 10, .int .u8 99, .int .u8 100] 5 m)) (some ⟨w.heap.size, 0, none⟩) 7 [97, 98, 195, 169, 10, 99, 100] := by
  refine Kd.C_of_reads (enc := fun n => Value.int .u8 n) (d := 0) ⟨rfl, by omega, fun _ => ⟨_, rfl, fun j hj => ?_⟩⟩
  rw [Addr.add_lit, Nat.zero_add]
  have h2 : (w.alloc (.cells #[.int .u8 97, .int .u8 98, .int .u8 195, .int .u8 169, .int .u8 10, .int .u8 99, .int .u8 100] 5 m)).heap[w.heap.size]? = some (.cells #[.int .u8 97, .int .u8 98, .int .u8 195, .int .u8 169, .int .u8 10, .int .u8 99, .int .u8 100] 5 m) := by
    show (w.heap.push _)[w.heap.size]? = _
    simp
  simp only [World.cell?, h2]
  match j, hj with
  | 0, _ => rfl
  | 1, _ => rfl
  | 2, _ => rfl
  | 3, _ => rfl
  | 4, _ => rfl
  | 5, _ => rfl
  | 6, _ => rfl
set_option maxRecDepth 100000 in
set_option maxHeartbeats 1000000 in
theorem mummerlaw08_Text.calls (r : List Int) (w : World) (h : mummerlaw08_Text.f = some r) :
    Calls Tryz.prog 41 #[] w fun e w' => ∃ v0_ : Value, e = .returned (v0_) ∧ Ft.Cv w' v0_ r ∧ Below w.heap.size w w' := by
  have kc := fun (w : World) (C : Array Value) (n c : Nat) => Lib.run_convert_bytes_const (P := Tryz.prog) w 29 5 C n c Tryz.underlying29 Tryz.underlying5
  unfold mummerlaw08_Text.f at h
  cases h
  go_enter Tryz.func41, Tryz.ntmps41
  go_wp2
  go_ret
  exact ⟨_, rfl, ⟨_, 7, rfl, Nat.le_refl _, text_reads w _⟩, (Below.refl _ w).alloc (Nat.le_refl _) _⟩
def mummerlaw08_Example.f  : Option ((List (S41))) := some (([(⟨10, 3, (⟨2, 4⟩ : S39), (⟨#[120]⟩ : ByteArray), (-1)⟩ : S41), (⟨14, 3, (⟨5, 7⟩ : S39), (⟨#[]⟩ : ByteArray), 0⟩ : S41)] : List (S41)))
set_option maxHeartbeats 8000000 in
set_option maxRecDepth 100000 in
theorem mummerlaw08_Example.calls  (r : List (S41)) (w : World) (h : mummerlaw08_Example.f  = some r) :
    Calls Tryz.prog 42 #[] w fun e w' => ∃ v0_ : Value, e = .returned (v0_) ∧ Kd.R k41 41 w' w.heap.size (fun _ => True) v0_ r ∧ Below w.heap.size w w' := by
  have hu39 := Tryz.underlying39
  have hu41 := Tryz.underlying41
  have HB := ak (Below.refl w.heap.size w)
  have H : (some (([(⟨10, 3, (⟨2, 4⟩ : S39), (⟨#[120]⟩ : ByteArray), (-1)⟩ : S41), (⟨14, 3, (⟨5, 7⟩ : S39), (⟨#[]⟩ : ByteArray), 0⟩ : S41)] : List (S41)))) = some r := h
  clear h
  obtain ⟨y157, hy157⟩ : ∃ y_ : List (S41), y_ = (([(⟨10, 3, (⟨2, 4⟩ : S39), (⟨#[120]⟩ : ByteArray), (-1)⟩ : S41), (⟨14, 3, (⟨5, 7⟩ : S39), (⟨#[]⟩ : ByteArray), 0⟩ : S41)] : List (S41))) := ⟨_, rfl⟩
  replace H : (some y157) = some r := by first | (rw [hy157]; with_reducible exact H) | (have H2_ := (Option.bind_some _ _).symm.trans H; rw [hy157]; with_reducible exact H2_) | (have H2_ := (Option.bind_some _ _).symm.trans H; with_reducible exact H2_) | with_reducible exact H | (rw [hy157]; exact H) | exact H
  have Ny157 := ak hy157
  clear hy157
  obtain rfl := Option.some.inj H
  go_enter Tryz.func42, Tryz.ntmps42
  go_wp2_with (first | ((with_reducible refine gate_dst (N := 5) rfl ?_); refine Kd.R_lit k41 _ 41 ?hg (N := 5) ?hd (xs := ([(⟨10, 3, (⟨2, 4⟩ : S39), (⟨#[120]⟩ : ByteArray), (-1)⟩ : S41), (⟨14, 3, (⟨5, 7⟩ : S39), (⟨#[]⟩ : ByteArray), 0⟩ : S41)] : List (S41))) (inner := [.int .i64 10, .int .i64 3, .int .i64 2, .int .i64 4, .string (⟨#[120]⟩ : ByteArray), .int .i64 (-1), .int .i64 14, .int .i64 3, .int .i64 5, .int .i64 7, .string (⟨#[]⟩ : ByteArray), .int .i64 0]) (ok := fun _ => True) (okp := fun _ => True) ?hr ?hp (fun _ hk => hk) trivial (Below.refl _ _) (Nat.le_refl _) (by simp) ?_; (case hd => rfl); (case hg => rfl); (case hr => first | (go_simp; done) | (go_simp; rfl)); (case hp => exact (Reps.c6 (show Kd.M k41 _ _ _ (⟨10, 3, (⟨2, 4⟩ : S39), (⟨#[120]⟩ : ByteArray), (-1)⟩ : S41) [.int .i64 10, .int .i64 3, .int .i64 2, .int .i64 4, .string (⟨#[120]⟩ : ByteArray), .int .i64 (-1)] from (k41_mkM _ _ _ (⟨10, 3, (⟨2, 4⟩ : S39), (⟨#[120]⟩ : ByteArray), (-1)⟩ : S41) )) (Reps.c6 (show Kd.M k41 _ _ _ (⟨14, 3, (⟨5, 7⟩ : S39), (⟨#[]⟩ : ByteArray), 0⟩ : S41) [.int .i64 14, .int .i64 3, .int .i64 5, .int .i64 7, .string (⟨#[]⟩ : ByteArray), .int .i64 0] from (k41_mkM _ _ _ (⟨14, 3, (⟨5, 7⟩ : S39), (⟨#[]⟩ : ByteArray), 0⟩ : S41) )) (Reps.none _ _)))); intro v158 w1 ho2 hb hg_ hnew_; clear hg_ hnew_; (first | rw [← Ny157.out] at ho2 | (simp only [Int.reduceToNat] at ho2; rw [← Ny157.out] at ho2)); have n0_ := ak (Kd.R_lower ho2 (below_size (by repeat (first | (with_reducible first | exact HB.out | apply wA | apply wN | apply wD) | exact HB.out)))); have n1_ := ak (below_step (by repeat (first | (with_reducible first | exact HB.out | apply wA | apply wN | apply wD) | exact HB.out)) hb); clear HB; have HO159 := n0_; have HB := n1_; clear n0_ n1_; clear hb ho2))
  go_ret
  exact ⟨_, by first | rfl | (simp [errW_none, errW_some] <;> rfl) | (simp [*, errW_none, errW_some] <;> rfl), by (with_reducible repeat (first | apply Kd.R_alloc | apply Kd.R_drewN | apply Kd.R_drew)); exact HO159.out, by repeat (first | (with_reducible first | exact HB.out | apply wA | apply wN | apply wD) | exact HB.out)⟩
def mummerlaw08_shown.f : Option Bool := some true
def shT : List Int := [97, 98, 195, 169, 10, 99, 100]
def shE : List S41 := [⟨10, 3, ⟨2, 4⟩, ⟨#[120]⟩, -1⟩, ⟨14, 3, ⟨5, 7⟩, ⟨#[]⟩, 0⟩]
def shM : ByteArray := ⟨#[49, 58, 51, 58, 32, 101, 120, 112, 97, 110, 100, 58, 32, 117, 110, 98, 111, 117, 110, 100, 32, 120]⟩
def shP : ByteArray := ⟨#[50, 58, 49, 58, 32, 101, 120, 112, 97, 110, 100, 58, 32, 109, 97, 116, 99, 104, 10, 32, 32, 99, 100, 10, 32, 32, 94, 94, 10, 49, 58, 51, 58, 32, 101, 120, 112, 97, 110, 100, 58, 32, 117, 110, 98, 111, 117, 110, 100, 32, 120, 10, 32, 32, 97, 98, 195, 169, 10, 32, 32, 32, 32, 94, 10]⟩
theorem sh_place : faults_Place.f 60 shT 5 = some (2, 1, 0) := by decide +kernel
theorem sh_message : faults_Message.f 60 shT 10 3 2 4 ⟨#[120]⟩ (-1) = some (shM, 0) := by decide +kernel
theorem sh_picture : faults_Picture.f 60 shT shE 1 = some (shP, 0) := by decide +kernel
theorem sh_chain : faults_Chain.f 60 shE 1 = some ([1, 0], 0) := by decide +kernel
theorem sh_has : faults_Has.f 60 shE 1 10 = some (true, 0) := by decide +kernel
theorem sh_ints : mummerref04_Ints.f 60 [1, 0] [1, 0] = some true := by decide +kernel
theorem sh_lit (w : World) : Kd.C (Kd.int .i64) (w.alloc (.cells #[.int .i64 1, .int .i64 0] 3)) (some ⟨w.heap.size, 0, none⟩) ([1, 0] : List Int).length [1, 0] := by
  refine Kd.C_of_reads (enc := fun n => Value.int .i64 n) (d := 0) ⟨rfl, by decide, fun _ => ⟨_, rfl, fun j hj => ?_⟩⟩
  rw [Addr.add_lit, Nat.zero_add]
  have h2 : (w.alloc (.cells #[.int .i64 1, .int .i64 0] 3)).heap[w.heap.size]? = some (.cells #[.int .i64 1, .int .i64 0] 3) := by
    show (w.heap.push _)[w.heap.size]? = _
    simp
  simp only [World.cell?, h2]
  match j, hj with
  | 0, _ => rfl
  | 1, _ => rfl
theorem addr_zero (a : Addr) : a.add (Int.toNat 0 * 6) = a := by
  obtain ⟨b, o, s⟩ := a
  cases s <;> simp [Addr.add]
theorem sh_first {w : World} {A : Option Addr} (h : Kd.C k41 w A shE.length shE) : ∃ ad, A = some ad ∧ w.cell? ad = some (.int .i64 10) ∧ w.cell? ⟨ad.block, ad.off + 1, none⟩ = some (.int .i64 3) ∧ w.cell? ⟨ad.block, ad.off + 2, none⟩ = some (.int .i64 2) ∧ w.cell? ⟨ad.block, ad.off + 3, none⟩ = some (.int .i64 4) ∧ w.cell? ⟨ad.block, ad.off + 4, none⟩ = some (.string ⟨#[120]⟩) ∧ w.cell? ⟨ad.block, ad.off + 5, none⟩ = some (.int .i64 (-1)) := by
  obtain ⟨ad, e, x0, x1, x2, x3, x4, x5⟩ := at_T41 h 0 (by decide) (by decide)
  rw [addr_zero] at x0 x1 x2 x3 x4 x5
  exact ⟨ad, e, x0, x1, x2, x3, x4, x5⟩
set_option maxHeartbeats 8000000 in
set_option maxRecDepth 100000 in
theorem mummerlaw08_shown.calls (r : Bool) (w : World) (hrt : Aside0 (r = true)) (h : mummerlaw08_shown.f = some r) (HT : Aside0 (Ft.All w)) :
    Calls Tryz.prog 12 #[] w fun e w' => e = .returned (.bool r) ∧ Below w.heap.size w w' := by
  unfold mummerlaw08_shown.f at h
  cases h
  clear hrt
  have HB := ak (Below.refl w.heap.size w)
  have hl2 : shE.length = 2 := rfl
  have hl7 : shT.length = 7 := rfl
  have hM : shM.toList = [49, 58, 51, 58, 32, 101, 120, 112, 97, 110, 100, 58, 32, 117, 110, 98, 111, 117, 110, 100, 32, 120] := by decide +kernel
  have hP : shP.toList = [50, 58, 49, 58, 32, 101, 120, 112, 97, 110, 100, 58, 32, 109, 97, 116, 99, 104, 10, 32, 32, 99, 100, 10, 32, 32, 94, 94, 10, 49, 58, 51, 58, 32, 101, 120, 112, 97, 110, 100, 58, 32, 117, 110, 98, 111, 117, 110, 100, 32, 120, 10, 32, 32, 97, 98, 195, 169, 10, 32, 32, 32, 32, 94, 10] := by decide +kernel
  go_enter Tryz.func12, Tryz.ntmps12
  go_wp2_with (first
    | (go_at_call 41; refine (mummerlaw08_Text.calls shT _ rfl).mono ?_; rintro e wt ⟨vt, rfl, ⟨At, ct, rfl, hct, hCt⟩, hb⟩; have n_ := ak (HB.out.trans (hb.mono HB.out.size)); clear HB; have HB := n_; clear n_ hb; (try clear HCT HCc); have HCT := ak hCt; have HCc := ak hct; clear hCt hct)
    | (go_at_call 15; refine ( faults_Place.calls 60 At ct shT 5 2 1 0 _ HCT.out HCc.out sh_place ⟨HT.out.stay HB.out⟩).mono ?_; rintro e wp ⟨rfl, hb⟩; have n_ := ak (HB.out.trans (hb.mono HB.out.size)); clear HB; have HB := n_; clear n_ hb)
    | (go_at_call 42; refine (mummerlaw08_Example.calls shE _ rfl).mono ?_; rintro e we ⟨ve, rfl, hR, hb⟩; have n_ := ak (HB.out.trans (hb.mono HB.out.size)); clear HB; have HB := n_; clear n_; (try (have n_ := ak (Kd.C_below HCT.out hb); clear HCT; have HCT := n_; clear n_)); (try (have n_ := ak (Kd.C_below HCL.out hb); clear HCL; have HCL := n_; clear n_)); clear hb; obtain ⟨Ae, ce, rfl, hce, hCe⟩ := Kd.R_reads hR; clear hR; (try clear HCE HEc); have HCE := ak hCe; have HEc := ak hce; obtain ⟨ad, rfl, x0, x1, x2, x3, x4, x5⟩ := sh_first hCe; clear hCe hce)
    | (go_at_call 23; refine ( faults_Message.calls 60 At ct shT 10 3 2 4 ⟨#[120]⟩ (-1) shM 0 _ HCT.out HCc.out sh_message ⟨HT.out.stay HB.out⟩).mono ?_; rintro e wm ⟨rfl, hb⟩; have n_ := ak (HB.out.trans (hb.mono HB.out.size)); clear HB; have HB := n_; clear n_ hb)
    | (go_at_call 21; refine ( faults_Picture.calls 60 At ct shT _ ce shE 1 shP 0 _ HCT.out HCc.out HCE.out HEc.out sh_picture ⟨HT.out.stay HB.out⟩).mono ?_; rintro e wq ⟨rfl, hb⟩; have n_ := ak (HB.out.trans (hb.mono HB.out.size)); clear HB; have HB := n_; clear n_ hb)
    | (go_at_call 26; refine ( faults_Chain.calls 60 _ ce shE 1 [1, 0] 0 _ HCE.out HEc.out sh_chain ⟨HT.out.stay HB.out⟩).mono ?_; rintro e wc ⟨vl, rfl, hR, hb⟩; have n_ := ak (HB.out.trans (hb.mono HB.out.size)); clear HB; have HB := n_; clear n_ hb; obtain ⟨Al, cl, rfl, hcl, hCl⟩ := Kd.R_reads hR; clear hR; have HCL := ak hCl; have HLc := ak hcl; clear hCl hcl)
    | (go_at_call 32; refine ( faults_Has.calls 60 _ ce shE 1 10 true 0 _ HCE.out HEc.out sh_has ⟨HT.out.stay HB.out⟩).mono ?_; rintro e wh ⟨rfl, hb⟩; have n_ := ak (HB.out.trans (hb.mono HB.out.size)); clear HB; have HB := n_; clear n_; have n_ := ak (Kd.C_below HCL.out hb); clear HCL; have HCL := n_; clear n_ hb)
    | (go_at_call 34; refine (mummerref04_Ints.calls 60 Al cl [1, 0] _ 2 [1, 0] true _ (Kd.C_alloc HCL.out _) HLc.out (sh_lit _) (Nat.le_refl _) sh_ints).mono ?_; rintro e wi ⟨rfl, hd⟩; have HBi := ak (by obtain ⟨n, rfl⟩ := hd.out; exact wN (wA HB.out _) n : Below w.heap.size w wi); clear hd))
  go_ret
  exact ⟨rfl, HBi.out⟩
end Go.Proofs.YtdjkdlbokepoaaaGreatDoor.P
namespace Go.Proofs.YtdjkdlbokepoaaaGreatDoor.P
open Go.RowKit Go.Proofs.YtdjkdlbokepoaaaGreatDoorW.PrintWords Go.Proofs.YtdjkdlbokepoaaaGreatDoorW.PrintLast Go.Proofs.YtdjkdlbokepoaaaGreatDoorW.PrintMore
attribute [local go_sem] max2_int min2_int max_two min_two max_three min_three max_four min_four   -- for this text's walks alone
set_option linter.unusedVariables false
set_option linter.unusedSimpArgs false
theorem row41 {w : World} {A : Option Addr} {xs : List S41} (h : Kd.C k41 w A xs.length xs) (hne : xs ≠ []) : ∃ b off, A = some ⟨b, off, none⟩ ∧ b < w.heap.size ∧ ∀ j, j < xs.length → ∀ i v, (cells41 xs[j]!)[i]? = some v → w.cell? ⟨b, off + j * 6 + i, none⟩ = some v := by
  have hl : 0 < xs.length := List.length_pos_iff.2 hne
  obtain ⟨ad, rfl, h0, _⟩ := at_T41 h 0 (by omega) (by omega)
  have hs := Sc.cell_spot h0
  obtain ⟨b, off, s⟩ := ad
  cases s with
  | some s => simp [Addr.add] at hs
  | none =>
    refine ⟨b, off, rfl, ?_, fun j hj i v hv => ?_⟩
    · exact World.block_lt_of_cell? w _ h0
    · obtain ⟨ad, e, x0, x1, x2, x3, x4, x5⟩ := at_T41 h (j : Int) (by omega) (by omega)
      cases e
      have ej : rd_T41 xs (j : Int) = xs[j]! := by
        unfold rd_T41
        rw [Int.toNat_natCast, List.getD_eq_getElem?_getD, getElem!_def, List.getElem?_eq_getElem hj]
        rfl
      rw [ej] at x0 x1 x2 x3 x4 x5
      simp only [Addr.add_lit, Int.toNat_natCast] at x0 x1 x2 x3 x4 x5
      unfold cells41 at hv
      match i, hv with
      | 0, hv => cases hv; exact x0
      | 1, hv => cases hv; exact x1
      | 2, hv => cases hv; exact x2
      | 3, hv => cases hv; exact x3
      | 4, hv => cases hv; exact x4
      | 5, hv => cases hv; exact x5
      | i + 6, hv => simp at hv
theorem agg41 (w : World) : (isAgg 41).run Tryz.prog w = .ok true w := by kernel_rfl
theorem size41 (w : World) : (Go.sizeOf 41).run Tryz.prog w = .ok 6 w := by kernel_rfl
theorem first1_calls (x : S41) (g : Nat) (code : Int) (w : World) (h : w.cell? ⟨g, 0, none⟩ = some (.int .i64 code)) :
    Calls Tryz.prog 74 #[.agg (cells41 x).toArray, .pointer (some ⟨g, 0, none⟩)] w fun e w' => e = .returned (.bool (decide (x.f0 = code))) ∧ Below w.heap.size w w' := by
  have e1 : (x.f0 == code) = decide (x.f0 = code) := rfl
  have hg : g < w.heap.size := World.block_lt_of_cell? w ⟨g, 0, none⟩ h
  have h2 : ∀ o, (w.alloc o).cell? ⟨g, 0, none⟩ = some (.int .i64 code) := fun o => by rw [World.cell?_alloc_lt _ _ ⟨g, 0, none⟩ hg]; exact h
  unfold cells41
  go_enter Tryz.func74, Tryz.ntmps74
  go_wp2
  go_ret
  exact ⟨rfl, (Below.refl _ w).alloc (Nat.le_refl _) _⟩
theorem root1_calls (x : S41) (g : Nat) (i : Int) (w : World) (h : w.cell? ⟨g, 0, none⟩ = some (.int .i64 i)) :
    Calls Tryz.prog 65 #[.agg (cells41 x).toArray, .pointer (some ⟨g, 0, none⟩)] w fun e w' => e = .returned (.bool (decide (x.f4 = i))) ∧ Below w.heap.size w w' := by
  have e1 : (x.f4 == i) = decide (x.f4 = i) := rfl
  have hg : g < w.heap.size := World.block_lt_of_cell? w ⟨g, 0, none⟩ h
  have h2 : ∀ o, (w.alloc o).cell? ⟨g, 0, none⟩ = some (.int .i64 i) := fun o => by rw [World.cell?_alloc_lt _ _ ⟨g, 0, none⟩ hg]; exact h
  unfold cells41
  go_enter Tryz.func65, Tryz.ntmps65
  go_wp2
  go_ret
  exact ⟨rfl, (Below.refl _ w).alloc (Nat.le_refl _) _⟩
theorem idx_empty (A : Option Addr) (c f : Nat) (lb : Array Value) (w : World) : Calls Tryz.prog 73 #[.slice A 0 c, .func (.func f) #[] lb] w fun e w' => e = .returned (.int .i64 (-1)) ∧ w' = w := by
  go_enter Tryz.func73, Tryz.ntmps73
  go_wp2
  refine wp_loop_rounds 1 ?_
  rw [rounds_succ]
  go_wp2
  go_ret
  exact ⟨rfl, rfl⟩
theorem has_empty (A : Option Addr) (c f : Nat) (lb : Array Value) (w : World) : Calls Tryz.prog 64 #[.slice A 0 c, .func (.func f) #[] lb] w fun e w' => e = .returned (.bool false) ∧ w' = w := by
  go_enter Tryz.func64, Tryz.ntmps64
  go_wp2_with (go_at_call 73; refine (idx_empty A c f lb _).mono ?_; rintro e w' ⟨rfl, rfl⟩)
  go_ret
  exact ⟨rfl, rfl⟩
/-- Where the first fault with a code stands; -1. -/
def firstIx (l : List S41) (c : Int) : Int := Lib.idxBy (fun _ y => decide (y.f0 = c)) l default
theorem idx_calls (l0 : List S41) (A0 : Option Addr) (c0 g : Nat) (code : Int) (w : World) (hr : Kd.C k41 w A0 l0.length l0) (hl : l0.length ≤ 1000) (hg : w.cell? ⟨g, 0, none⟩ = some (.int .i64 code)) :
    Calls Tryz.prog 73 #[.slice A0 l0.length c0, .func (.func 74) #[] #[.pointer (some ⟨g, 0, none⟩)]] w fun e w' => e = .returned (.int .i64 (firstIx l0 code)) ∧ Below w.heap.size w w' := by
  by_cases hne : l0 = []
  · subst hne
    refine (idx_empty A0 c0 74 _ w).mono ?_
    rintro e w' ⟨rfl, rfl⟩
    exact ⟨rfl, Below.refl _ _⟩
  · obtain ⟨b, off, rfl, hb, hc⟩ := row41 hr hne
    have h := Tryz.slices_IndexFunc 6 agg41 size41 cells41 (fun _ => rfl) (fun y => decide (y.f0 = code)) 74 #[.pointer (some ⟨g, 0, none⟩)] (enters_of Tryz.func74 (by kernel_rfl) rfl) b off l0.length c0 l0 w
      (fun W x hB => (first1_calls x g code W (Ft.cell_stay hg hB)).mono fun e w' he => ⟨he.1, hB.trans (he.2.mono hB.size)⟩) (Nat.le_refl _) (by omega) hb hc
    rw [List.take_length] at h
    exact h
theorem hasRoot_calls (l0 : List S41) (A0 : Option Addr) (c0 g : Nat) (i : Int) (w : World) (hr : Kd.C k41 w A0 l0.length l0) (hl : l0.length ≤ 1000) (hg : w.cell? ⟨g, 0, none⟩ = some (.int .i64 i)) :
    Calls Tryz.prog 64 #[.slice A0 l0.length c0, .func (.func 65) #[] #[.pointer (some ⟨g, 0, none⟩)]] w fun e w' => e = .returned (.bool (l0.any fun y => decide (y.f4 = i))) ∧ Below w.heap.size w w' := by
  by_cases hne : l0 = []
  · subst hne
    refine (has_empty A0 c0 65 _ w).mono ?_
    rintro e w' ⟨rfl, rfl⟩
    exact ⟨rfl, Below.refl _ _⟩
  · obtain ⟨b, off, rfl, hb, hc⟩ := row41 hr hne
    have h := Tryz.slices_ContainsFunc 6 agg41 size41 cells41 (fun _ => rfl) (fun y => decide (y.f4 = i)) 65 #[.pointer (some ⟨g, 0, none⟩)] (enters_of Tryz.func65 (by kernel_rfl) rfl) b off l0.length c0 l0 w
      (fun W x hB => (root1_calls x g i W (Ft.cell_stay hg hB)).mono fun e w' he => ⟨he.1, hB.trans (he.2.mono hB.size)⟩) (Nat.le_refl _) (by omega) hb hc
    rw [List.take_length] at h
    exact h
def isRoot (l : List S41) (i : Nat) : Bool := !(l.any fun y => decide (y.f4 = (i : Int)))
def rootsUp (l : List S41) (i : Nat) : List Int := ((List.range i).filter (isRoot l)).map (fun j : Nat => (j : Int))
theorem rootsUp_succ (l : List S41) (i : Nat) : rootsUp l (i + 1) = if isRoot l i = true then rootsUp l i ++ [(i : Int)] else rootsUp l i := by
  unfold rootsUp
  rw [List.range_succ, List.filter_append, List.map_append]
  by_cases h : isRoot l i = true
  · rw [if_pos h]; simp [h]
  · rw [if_neg h]; simp [h]
theorem rootsUp_len (l : List S41) (i : Nat) : (rootsUp l i).length ≤ i := by
  unfold rootsUp
  rw [List.length_map]
  exact Nat.le_trans (List.length_filter_le _ _) (by simp)
def faults_Roots.f (k : Nat) (l0 : List S41) : Option (List Int × Int) := (faults_Check.f k 8000 l0).bind fun c => if c.2 = 0 then (if l0.length ≤ 1000 then some (rootsUp l0 l0.length, 0) else none) else some ([], c.2)
theorem box1_cell (w : World) (v : Value) (t : TypeId) : (w.alloc (.cells #[v] t)).cell? ⟨w.heap.size, 0, none⟩ = some v := by
  rw [World.cell?_alloc_at _ _ _ _ rfl]
  rfl
set_option maxHeartbeats 4000000 in
set_option maxRecDepth 100000 in
theorem faults_Roots.calls (k : Nat) (A0 : Option Addr) (c0 : Nat) (l0 : List S41) (r1 : List Int) (r2 : Int) (w : World) (hr0 : Kd.C k41 w A0 l0.length l0) (hc0 : l0.length ≤ c0) (h : faults_Roots.f k l0 = some (r1, r2)) (HT : Aside0 (Ft.All w)) :
    Calls Tryz.prog 31 #[.slice A0 l0.length c0] w fun e w' => ∃ v0_ : Value, e = .returned (.tuple #[v0_, .int .i64 r2]) ∧ Kd.R (Kd.int .i64) 3 w' w.heap.size (fun _ => True) v0_ r1 ∧ Below w.heap.size w w' := by
  unfold faults_Roots.f at h
  obtain ⟨⟨z1, z2⟩, hk, h⟩ := Option.bind_eq_some_iff.mp h
  have HK := ak hk
  have HR := ak hr0
  by_cases he : z2 = 0
  case neg =>
    rw [if_neg he] at h
    cases h
    have b1 : (z2 != 0) = true := bne_iff_ne.mpr he
    have b2 : (z2 == 0) = false := beq_eq_false_iff_ne.mpr he
    clear hk hr0
    go_enter Tryz.func31, Tryz.ntmps31
    go_wp2_with (first
      | (go_at_call 13; refine ( faults_Check.calls k 8000 A0 c0 l0 z1 z2 _ HR.out hc0 HK.out HT).mono ?_; rintro e w1 ⟨rfl, hb1⟩))
    go_ret2
    exact ⟨_, rfl, Kd.R_nil _ _ _ _ _, hb1⟩
  subst he
  rw [if_pos rfl] at h
  by_cases hl : l0.length ≤ 1000
  case neg => rw [if_neg hl] at h; cases h
  rw [if_pos hl] at h
  have e1 : r1 = rootsUp l0 l0.length := (congrArg Prod.fst (Option.some.inj h)).symm
  have e2 : r2 = 0 := (congrArg Prod.snd (Option.some.inj h)).symm
  subst e2
  have E1 := ak e1
  have HL := ak hl
  clear hk hr0 h e1 hl
  go_enter Tryz.func31, Tryz.ntmps31
  go_wp2_with (first
    | (go_at_call 13; refine ( faults_Check.calls k 8000 A0 c0 l0 z1 0 _ HR.out hc0 HK.out HT).mono ?_; rintro e w1 ⟨rfl, hb1⟩; have HB1 := ak hb1; clear hb1))
  go_loopg [6, 18] l0.length (fun gh v6 v18 wr => ∃ (i : Nat), v18 = .int .i64 (i : Int) ∧ i ≤ l0.length ∧ gh = l0.length - i ∧ Aside0 (Kd.R (Kd.int .i64) 3 wr w.heap.size (fun _ => True) v6 (rootsUp l0 i)) ∧ Aside0 (Below w.heap.size w wr))
  case atStart => exact ⟨0, rfl, Nat.zero_le _, rfl, ⟨Kd.R_nil _ _ _ _ _⟩, HB1⟩
  case round =>
    obtain ⟨i, rfl, hi, rfl, HO, HB⟩ := hrel
    clear HB1
    by_cases hil : i < l0.length
    · have hii : ((i : Nat) : Int) < (l0.length : Int) := by omega
      have hw : IntKind.i64.wrap ((i : Int) + 1) = ((i + 1 : Nat) : Int) := by rw [IntKind.wrap_i64]; have := HL.out; omega
      have HC := ak (fun W (hB : Below w.heap.size w W) (hg : W.cell? ⟨wr.heap.size, 0, none⟩ = some (.int .i64 (i : Int))) => hasRoot_calls l0 A0 c0 wr.heap.size (i : Int) W (Kd.C_below HR.out hB) HL.out hg)
      obtain ⟨b, hb⟩ : ∃ b, (l0.any fun y => decide (y.f4 = (i : Int))) = b := ⟨_, rfl⟩
      have HN : Aside0 (rootsUp l0 (i + 1) = if b = true then rootsUp l0 i else rootsUp l0 i ++ [(i : Int)]) := ⟨by
        rw [rootsUp_succ]; unfold isRoot; rw [hb]; cases b <;> rfl⟩
      rw [hb] at HC
      clear hb
      have LM := ak (show (rootsUp l0 i).length < 1001 by have := rootsUp_len l0 i; have := HL.out; omega)
      cases b with
      | true =>
        rw [if_pos rfl] at HN
        go_wp2_with (first
          | (go_at_call 64; refine (HC.out _ (wA HB.out _) (box1_cell wr _ _)).mono ?_; rintro e w3 ⟨rfl, hb3⟩; have HO3 := ak (Kd.R_below (Kd.R_alloc HO.out _) hb3); have HB3 := ak ((wA HB.out _).trans (hb3.mono (wA HB.out _).size)); clear hb3))
        go_roundg (l0.length - (i + 1))
        case measure => omega
        case rel => exact ⟨i + 1, rfl, by omega, rfl, ⟨by rw [HN.out]; exact HO3.out⟩, HB3⟩
      | false =>
        rw [if_neg (by decide)] at HN
        go_wp2_with (first
          | ((with_reducible refine gate_builtin (b := .append) (xs := #[.tmp 25, .tmp 27]) rfl ?_); at_builtin; refine Kd.R_append (Kd.int .i64) (w0 := w) w.heap.size rfl (.tmp 25) (.tmp 27) 43 3 (.int .i64 0) 8 rfl Tryz.underlying43 info3_ rfl (by decide) (by omega) u6 (rootsUp l0 i) (i : Int) [.int .i64 (i : Int)] (fun _ => True) (fun _ => False) rfl rfl ?aP (fun _ hk => hk.elim) ?aF ?aO ?aB ?aS ?aL ?_; (case aP => exact rfl); (case aB => exact HB3.out); (case aF => exact (fun _ _ => trivial)); (case aO => exact HO3.out); (case aS => exact HB3.out.size); (case aL => have := LM.out; omega); intro v302 w9 ho hb hg hat; have HO9 := ak ho; have HB9 := ak hb; clear ho hb hg hat)
          | (go_at_call 64; refine (HC.out _ (wA HB.out _) (box1_cell wr _ _)).mono ?_; rintro e w3 ⟨rfl, hb3⟩; have HO3 := ak (Kd.R_below (Kd.R_alloc HO.out _) hb3); have HB3 := ak ((wA HB.out _).trans (hb3.mono (wA HB.out _).size)); have hi3 := Ft.cell_stay (box1_cell wr (.int .i64 (i : Int)) 3) hb3; clear hb3))
        go_roundg (l0.length - (i + 1))
        case measure => omega
        case rel => exact ⟨i + 1, rfl, by omega, rfl, ⟨by rw [HN.out]; exact HO9.out⟩, HB9⟩
    · obtain rfl : i = l0.length := by omega
      have hii : ¬ ((l0.length : Nat) : Int) < (l0.length : Int) := by omega
      go_wp2
      go_ret2
      rw [E1.out]
      exact ⟨_, rfl, HO.out, HB.out⟩
end Go.Proofs.YtdjkdlbokepoaaaGreatDoor.P
namespace Go.Proofs.YtdjkdlbokepoaaaGreatDoor.P
open Go.RowKit Go.Proofs.YtdjkdlbokepoaaaGreatDoorW.PrintWords Go.Proofs.YtdjkdlbokepoaaaGreatDoorW.PrintLast Go.Proofs.YtdjkdlbokepoaaaGreatDoorW.PrintMore
attribute [local go_sem] max2_int min2_int max_two min_two max_three min_three max_four min_four   -- for this text's walks alone
set_option linter.unusedVariables false
set_option linter.unusedSimpArgs false
def cI (x y : Int) : Int := if x < y then -1 else if y < x then 1 else 0
theorem nan_calls (x : Int) (w : World) : Calls Tryz.prog 101 #[.int .i64 x] w fun e w' => e = .returned (.bool false) ∧ w' = w := by
  have e : (x != x) = false := by simp
  go_enter Tryz.func101, Tryz.ntmps101
  go_wp2
  go_ret
  exact ⟨rfl, rfl⟩
theorem cmp_calls (x y : Int) (w : World) : Calls Tryz.prog 71 #[.int .i64 x, .int .i64 y] w fun e w' => e = .returned (.int .i64 (cI x y)) ∧ w' = w := by
  unfold cI
  by_cases h1 : x < y
  · rw [if_pos h1]
    go_enter Tryz.func71, Tryz.ntmps71
    go_wp2_with (first
      | (go_at_call 101; refine (nan_calls _ _).mono ?_; rintro e w1 ⟨rfl, rfl⟩))
    go_ret
    exact ⟨rfl, rfl⟩
  · rw [if_neg h1]
    by_cases h2 : y < x
    · rw [if_pos h2]
      have h3 : x > y := h2
      go_enter Tryz.func71, Tryz.ntmps71
      go_wp2_with (first
        | (go_at_call 101; refine (nan_calls _ _).mono ?_; rintro e w1 ⟨rfl, rfl⟩))
      go_ret
      exact ⟨rfl, rfl⟩
    · rw [if_neg h2]
      have h3 : ¬ x > y := h2
      go_enter Tryz.func71, Tryz.ntmps71
      go_wp2_with (first
        | (go_at_call 101; refine (nan_calls _ _).mono ?_; rintro e w1 ⟨rfl, rfl⟩))
      go_ret
      exact ⟨rfl, rfl⟩
def orI (p q : Int) : Int := if p = 0 then q else p
theorem or_calls (g : Nat) (p q : Int) (w : World) (h0 : w.cell? ⟨g, 0, none⟩ = some (.int .i64 p)) (h1 : w.cell? ⟨g, 1, none⟩ = some (.int .i64 q)) :
    Calls Tryz.prog 70 #[.slice (some ⟨g, 0, none⟩) 2 2] w fun e w' => e = .returned (.int .i64 (orI p q)) ∧ ∃ n, w' = w.drewN n := by
  unfold orI
  by_cases c : p = 0
  · rw [if_pos c]
    subst c
    by_cases d : q = 0
    · subst d
      go_enter Tryz.func70, Tryz.ntmps70
      go_wp2
      refine wp_loop_rounds 3 ?_
      rw [rounds_succ]
      go_wp2
      rw [rounds_succ]
      go_wp2
      rw [rounds_succ]
      go_wp2
      go_ret
      exact ⟨rfl, 0, rfl⟩
    · have e : (q != 0) = true := by simpa using d
      go_enter Tryz.func70, Tryz.ntmps70
      go_wp2
      refine wp_loop_rounds 3 ?_
      rw [rounds_succ]
      go_wp2
      rw [rounds_succ]
      go_wp2
      go_ret
      exact ⟨rfl, 0, rfl⟩
  · rw [if_neg c]
    have e : (p != 0) = true := by simpa using c
    go_enter Tryz.func70, Tryz.ntmps70
    go_wp2
    refine wp_loop_rounds 3 ?_
    rw [rounds_succ]
    go_wp2
    go_ret
    exact ⟨rfl, 0, rfl⟩
/-- What Order's comparison answers of two places of the list. -/
def cfO (l : List S41) (a b : Int) : Int := orI (cI (rd_T41 l a).f2.f0 (rd_T41 l b).f2.f0) (cI (rd_T41 l a).f2.f1 (rd_T41 l b).f2.f1)
theorem var_box (w : World) (u v : Value) : (w.alloc (.cells #[u, v] 3)).drew.cell? ⟨w.heap.size, 0, none⟩ = some u ∧ (w.alloc (.cells #[u, v] 3)).drew.cell? ⟨w.heap.size, 1, none⟩ = some v := by
  refine ⟨?_, ?_⟩
  · show (w.alloc (.cells #[u, v] 3)).cell? _ = _
    rw [World.cell?_alloc_at _ _ _ _ rfl]; rfl
  · show (w.alloc (.cells #[u, v] 3)).cell? _ = _
    rw [World.cell?_alloc_at _ _ _ _ rfl]; rfl
theorem grow_more (w : World) (n m : Nat) (os : Array Obj) (o : Obj) : ((Go.Sort.grow (w.drewN n) os).alloc o).drewN m = Go.Sort.grow (w.drewN (n + m)) (os ++ #[o]) := by
  rw [Go.Sort.alloc_eq_grow, Go.Sort.grow_grow, ← World.drewN_drewN]
  rfl
theorem two_boxes (w : World) (u1 u2 v1 v2 : Value) :
    ((w.alloc (.cells #[v1, v2] 39)).alloc (.cells #[u1, u2] 39)).drew.cell? ⟨w.heap.size + 1, 0, none⟩ = some u1 ∧ ((w.alloc (.cells #[v1, v2] 39)).alloc (.cells #[u1, u2] 39)).drew.cell? ⟨w.heap.size + 1, 1, none⟩ = some u2 ∧
    ((w.alloc (.cells #[v1, v2] 39)).alloc (.cells #[u1, u2] 39)).drew.cell? ⟨w.heap.size, 0, none⟩ = some v1 ∧ ((w.alloc (.cells #[v1, v2] 39)).alloc (.cells #[u1, u2] 39)).drew.cell? ⟨w.heap.size, 1, none⟩ = some v2 := by
  refine ⟨?_, ?_, ?_, ?_⟩
  · show ((w.alloc (.cells #[v1, v2] 39)).alloc (.cells #[u1, u2] 39)).cell? _ = _
    rw [World.cell?_alloc_at _ _ _ _ (by simp)]; rfl
  · show ((w.alloc (.cells #[v1, v2] 39)).alloc (.cells #[u1, u2] 39)).cell? _ = _
    rw [World.cell?_alloc_at _ _ _ _ (by simp)]; rfl
  · show ((w.alloc (.cells #[v1, v2] 39)).alloc (.cells #[u1, u2] 39)).cell? _ = _
    rw [World.cell?_alloc_lt _ _ _ (by simp), World.cell?_alloc_at _ _ _ _ rfl]; rfl
  · show ((w.alloc (.cells #[v1, v2] 39)).alloc (.cells #[u1, u2] 39)).cell? _ = _
    rw [World.cell?_alloc_lt _ _ _ (by simp), World.cell?_alloc_at _ _ _ _ rfl]; rfl
set_option maxHeartbeats 4000000 in
set_option maxRecDepth 100000 in
theorem order1_calls (l : List S41) (A : Option Addr) (c g : Nat) (a b : Int) (w : World) (hr : Kd.C k41 w A l.length l) (hg : w.cell? ⟨g, 0, none⟩ = some (.slice A l.length c)) (ha : 0 ≤ a ∧ a < (l.length : Int)) (hb : 0 ≤ b ∧ b < (l.length : Int)) :
    Calls Tryz.prog 69 #[.int .i64 a, .int .i64 b, .pointer (some ⟨g, 0, none⟩)] w fun e w' => e = .returned (.int .i64 (cfO l a b)) ∧ ∃ n os, w' = Go.Sort.grow (w.drewN n) os := by
  obtain ⟨ad, rfl, x0, x1, x2, x3, x4, x5⟩ := at_T41 hr a ha.1 ha.2
  obtain ⟨ad', e', y0, y1, y2, y3, y4, y5⟩ := at_T41 hr b hb.1 hb.2
  cases e'
  obtain ⟨ha0, ha1⟩ := ha
  obtain ⟨hb0, hb1⟩ := hb
  unfold cfO
  generalize (rd_T41 l a).f2.f0 = p1 at *
  generalize (rd_T41 l a).f2.f1 = p2 at *
  generalize (rd_T41 l b).f2.f0 = q1 at *
  generalize (rd_T41 l b).f2.f1 = q2 at *
  clear hr
  go_enter Tryz.func69, Tryz.ntmps69
  go_wp2_with fail
  clear x0 x1 x4 x5 y0 y1 y4 y5
  go_region_held3 (fun w' => w'.cell? ⟨g, 0, none⟩ = some (.slice (some ad) l.length c) ∧ w'.cell? ⟨(ad.add (a.toNat * 6)).block, (ad.add (a.toNat * 6)).off + 2, none⟩ = some (.int .i64 p1) ∧ w'.cell? ⟨(ad.add (a.toNat * 6)).block, (ad.add (a.toNat * 6)).off + 3, none⟩ = some (.int .i64 p2) ∧ w'.cell? ⟨(ad.add (b.toNat * 6)).block, (ad.add (b.toNat * 6)).off + 2, none⟩ = some (.int .i64 q1) ∧ w'.cell? ⟨(ad.add (b.toNat * 6)).block, (ad.add (b.toNat * 6)).off + 3, none⟩ = some (.int .i64 q2))
    (first | go_keep | trivial)
    (fail)
  · have E1 : ∃ n os, ((w.alloc (.cells #[.int .i64 p1, .int .i64 p2] 39)).alloc (.cells #[.int .i64 q1, .int .i64 q2] 39)).drew = Go.Sort.grow (w.drewN n) os := ⟨1, #[.cells #[.int .i64 p1, .int .i64 p2] 39, .cells #[.int .i64 q1, .int .i64 q2] 39], by rw [Go.Sort.alloc_eq_grow, Go.Sort.alloc_eq_grow, Go.Sort.grow_grow]; rfl⟩
    obtain ⟨b1, b2, b3, b4⟩ := two_boxes w (.int .i64 q1) (.int .i64 q2) (.int .i64 p1) (.int .i64 p2)
    rename_i hHeld
    clear hHeld hg x2 x3 y2 y3
    obtain ⟨B, hB⟩ : ∃ B, w.heap.size + 1 = B := ⟨_, rfl⟩
    obtain ⟨D, hD⟩ : ∃ D, w.heap.size = D := ⟨_, rfl⟩
    have E2 := ak E1
    rw [hB] at b1 b2
    rw [hD] at b3 b4
    simp only [hB]
    simp only [hD]
    clear hB hD E1
    generalize ((w.alloc (.cells #[.int .i64 p1, .int .i64 p2] 39)).alloc (.cells #[.int .i64 q1, .int .i64 q2] 39)).drew = w1 at *
    go_wp2_with fail
    go_region_held3 (fun w' => w'.cell? ⟨B, 0, none⟩ = some (.int .i64 q1) ∧ w'.cell? ⟨B, 1, none⟩ = some (.int .i64 q2) ∧ w'.cell? ⟨D, 0, none⟩ = some (.int .i64 p1) ∧ w'.cell? ⟨D, 1, none⟩ = some (.int .i64 p2))
      (first | go_keep | trivial)
      (first
      | (go_at_call 71; refine (cmp_calls _ _ _).mono ?_; rintro e w1 ⟨rfl, rfl⟩)
      | (go_at_call 70; refine (or_calls _ (cI p1 q1) (cI p2 q2) _ (var_box _ _ _).1 (var_box _ _ _).2).mono ?_; rintro e w2 ⟨rfl, n2, rfl⟩))
    go_wp2
    go_ret
    obtain ⟨n, os, rfl⟩ := E2.out
    exact ⟨rfl, n + (1 + n2), os ++ #[.cells #[.int .i64 (cI p1 q1), .int .i64 (cI p2 q2)] 3], grow_more _ _ _ _ _⟩
  · have E1 : ∃ n os, ((w.alloc (.cells #[.int .i64 q1, .int .i64 q2] 39)).alloc (.cells #[.int .i64 p1, .int .i64 p2] 39)).drew = Go.Sort.grow (w.drewN n) os := ⟨1, #[.cells #[.int .i64 q1, .int .i64 q2] 39, .cells #[.int .i64 p1, .int .i64 p2] 39], by rw [Go.Sort.alloc_eq_grow, Go.Sort.alloc_eq_grow, Go.Sort.grow_grow]; rfl⟩
    obtain ⟨b1, b2, b3, b4⟩ := two_boxes w (.int .i64 p1) (.int .i64 p2) (.int .i64 q1) (.int .i64 q2)
    rename_i hHeld
    clear hHeld hg x2 x3 y2 y3
    obtain ⟨B, hB⟩ : ∃ B, w.heap.size + 1 = B := ⟨_, rfl⟩
    obtain ⟨D, hD⟩ : ∃ D, w.heap.size = D := ⟨_, rfl⟩
    have E2 := ak E1
    rw [hB] at b1 b2
    rw [hD] at b3 b4
    simp only [hB]
    simp only [hD]
    clear hB hD E1
    generalize ((w.alloc (.cells #[.int .i64 q1, .int .i64 q2] 39)).alloc (.cells #[.int .i64 p1, .int .i64 p2] 39)).drew = w1 at *
    go_wp2_with fail
    go_region_held3 (fun w' => w'.cell? ⟨B, 0, none⟩ = some (.int .i64 p1) ∧ w'.cell? ⟨B, 1, none⟩ = some (.int .i64 p2) ∧ w'.cell? ⟨D, 0, none⟩ = some (.int .i64 q1) ∧ w'.cell? ⟨D, 1, none⟩ = some (.int .i64 q2))
      (first | go_keep | trivial)
      (first
      | (go_at_call 71; refine (cmp_calls _ _ _).mono ?_; rintro e w1 ⟨rfl, rfl⟩)
      | (go_at_call 70; refine (or_calls _ (cI p1 q1) (cI p2 q2) _ (var_box _ _ _).1 (var_box _ _ _).2).mono ?_; rintro e w2 ⟨rfl, n2, rfl⟩))
    go_wp2
    go_ret
    obtain ⟨n, os, rfl⟩ := E2.out
    exact ⟨rfl, n + (1 + n2), os ++ #[.cells #[.int .i64 (cI p1 q1), .int .i64 (cI p2 q2)] 3], grow_more _ _ _ _ _⟩
section
variable {α : Type} [Inhabited α] (en : α → Value)
theorem so_holds {w : World} {g : Nat} {cur : Array Value} {e : TypeId} {d : Array α} (hb : w.heap[g]? = some (.cells cur e (0, 0))) (ht : cur.toList.take d.size = d.toList.map en) : Go.Sort.Holds en w g 0 d := by
  intro j hj
  refine ⟨?_, by simp [World.frozen?, hb]⟩
  have h1 : (cur.toList.take d.size)[j]? = (d.toList.map en)[j]? := by rw [ht]
  rw [List.getElem?_take_of_lt hj] at h1
  simp only [World.cell?, hb, Nat.zero_add]
  simp only [Option.isSome_none, Bool.false_eq_true, if_false]
  rw [← Array.getElem?_toList, h1]
  simp [hj]
theorem so_heap {w : World} {g n : Nat} {os : Array Obj} {cur : Array Value} {e : TypeId} {fr : Nat × Nat} (d : Array α) (hb : w.heap[g]? = some (.cells cur e fr)) :
    (Go.Sort.grow (Go.Sort.putRow en (Go.Sort.ahead w n) g 0 d) os).heap[g]? = some (.cells (Go.Sort.putCells en 0 d cur) e fr) := by
  have hg : g < w.heap.size := (Array.getElem?_eq_some_iff.1 hb).1
  rw [Go.Sort.heap_grow_old _ _ (by simpa using hg)]
  simp [Go.Sort.putRow, Go.Sort.mapBlock, Go.Sort.ahead, Array.getElem?_modify, hb, Go.Sort.onCells]
theorem so_grown {w : World} {g n : Nat} {os : Array Obj} (d : Array α) : w.grownBy (Go.Sort.grow (Go.Sort.putRow en (Go.Sort.ahead w n) g 0 d) os) (some g) := by
  refine ⟨rfl, rfl, rfl, by simp, fun k hk hne => ?_⟩
  rw [Go.Sort.heap_grow_old _ _ (by simpa using hk)]
  have : g ≠ k := fun e => hne (by rw [e])
  simp [Go.Sort.putRow, Go.Sort.mapBlock, Go.Sort.ahead, Array.getElem?_modify, this]
theorem so_take (cur : Array Value) (d : Array α) (h : d.size ≤ cur.size) : (Go.Sort.putCells en 0 d cur).toList.take d.size = d.toList.map en := by
  apply List.ext_getElem?
  intro j
  by_cases hj : j < d.size
  · rw [List.getElem?_take_of_lt hj, Array.getElem?_toList]
    simp [Go.Sort.putCells, hj, show j < cur.size by omega]
  · rw [List.getElem?_take_eq_none (by omega), List.getElem?_eq_none (by simp; omega)]
end
/-- The places of a list of n, as a row. -/
def enF (n : Nat) (i : Fin n) : Value := .int .i64 ((i.val : Nat) : Int)
theorem enF_one (n : Nat) : Go.Proofs.OneCell (enF n) := fun _ => rfl
def cfF (l : List S41) (a b : Fin l.length) : Int := cfO l (a.val : Int) (b.val : Int)
set_option maxHeartbeats 4000000 in
set_option maxRecDepth 100000 in
theorem stable_calls (l : List S41) [Inhabited (Fin l.length)] (hn : l.length < 20) (g cap gb : Nat) (d0 : Array (Fin l.length)) (w0 w : World) (hs : d0.size = l.length)
    (hC : CmpLays1 Tryz.prog 69 #[.pointer (some ⟨gb, 0, none⟩)] (enF l.length) (cfF l) g 0 d0.size w0) (R : Row1 (enF l.length) w0 g 0 d0) (S : SW (enF l.length) w0 g 0 d0 w) :
    Calls Tryz.prog 100 #[.slice (some ⟨g, 0, none⟩) l.length cap, .int .i64 (l.length : Int), .func (.func 69) #[] #[.pointer (some ⟨gb, 0, none⟩)]] w fun e w' => e = .returned (.tuple #[]) ∧ SW (enF l.length) w0 g 0 (Go.Sort.insertionSort (ltOf (cfF l)) d0 0 l.length) w' := by
  have eg : ∀ args w, (callFunc 69 args).run Tryz.prog w = .ok (.enter 69 args) w := enters_of Tryz.func69 (by kernel_rfl) rfl
  have HI : ∀ W, SW (enF l.length) w0 g 0 d0 W → Calls Tryz.prog 123 #[.slice (some ⟨g, 0, none⟩) l.length cap, .int .i64 0, .int .i64 (l.length : Int), .func (.func 69) #[] #[.pointer (some ⟨gb, 0, none⟩)]] W fun e w' => e = .returned (.tuple #[]) ∧ SW (enF l.length) w0 g 0 (Go.Sort.insertionSort (ltOf (cfF l)) d0 0 l.length) w' := fun W hS => by
    have h := Any.insertionSortCmpFunc_s Tryz.sortInsL (enF l.length) (cfF l) 69 #[.pointer (some ⟨gb, 0, none⟩)] g 0 cap 0 l.length d0 d0 w0 W eg hC R rfl hS (Nat.zero_le _) (by omega) (by omega)
    rw [hs] at h
    exact h
  have HH := ak HI
  have HS := ak S
  have hl1 : ¬ (20 : Int) ≤ (l.length : Int) := by omega
  have hl2 : ¬ (20 : Int) < (l.length : Int) := by omega
  clear hC R S HI eg hs
  generalize (l.length : Int) = n at *
  go_enter Tryz.func100, Tryz.ntmps100
  go_wp2
  refine wp_loop_rounds 1 ?_
  rw [rounds_succ]
  go_wp2_with (first
    | (go_at_call 123; refine (HH.out _ HS.out).mono ?_; rintro e w1 ⟨rfl, hs1⟩; have HS1 := ak hs1; clear hs1))
  refine wp_loop_rounds 1 ?_
  rw [rounds_succ]
  go_wp2
  go_end0
  exact ⟨rfl, HS1.out⟩
set_option maxHeartbeats 4000000 in
set_option maxRecDepth 100000 in
theorem sort_calls (l : List S41) [Inhabited (Fin l.length)] (hn : l.length < 20) (g cap gb : Nat) (d0 : Array (Fin l.length)) (w0 : World) (hs : d0.size = l.length)
    (hC : CmpLays1 Tryz.prog 69 #[.pointer (some ⟨gb, 0, none⟩)] (enF l.length) (cfF l) g 0 d0.size w0) (R : Row1 (enF l.length) w0 g 0 d0) :
    Calls Tryz.prog 68 #[.slice (some ⟨g, 0, none⟩) l.length cap, .func (.func 69) #[] #[.pointer (some ⟨gb, 0, none⟩)]] w0 fun e w' => e = .returned (.tuple #[]) ∧ SW (enF l.length) w0 g 0 (Go.Sort.insertionSort (ltOf (cfF l)) d0 0 l.length) w' := by
  have HH := ak (stable_calls l hn g cap gb d0 w0 w0 hs hC R (SW.start R.hH))
  clear hC R
  go_enter Tryz.func68, Tryz.ntmps68
  go_wp2_with (first
    | (go_at_call 100; refine HH.out.mono ?_; rintro e w1 ⟨rfl, hs1⟩; have HS1 := ak hs1; clear hs1))
  go_end0
  exact ⟨rfl, HS1.out⟩
def upL (i : Nat) : List Int := (List.range i).map (fun j : Nat => (j : Int))
theorem upL_succ (i : Nat) : upL (i + 1) = upL i ++ [(i : Int)] := by unfold upL; rw [List.range_succ, List.map_append]; rfl
theorem upL_len (i : Nat) : (upL i).length = i := by unfold upL; simp
@[reducible] def inhF (l : List S41) (h : 0 < l.length) : Inhabited (Fin l.length) := ⟨⟨0, h⟩⟩
/-- The places of a list in the order of their spans (of fewer than 20). -/
def ordL (l : List S41) : List Int :=
  if h : 0 < l.length then
    (@Go.Sort.insertionSort (Fin l.length) (inhF l h) (ltOf (cfF l)) (Array.ofFn (fun i : Fin l.length => i)) 0 l.length).toList.map (fun i => ((i.val : Nat) : Int))
  else []
def faults_Order.f (k : Nat) (l0 : List S41) : Option (List Int × Int) := (faults_Check.f k 8000 l0).bind fun c => if c.2 = 0 then (if 0 < l0.length ∧ l0.length < 20 then some (ordL l0, 0) else none) else some ([], c.2)
theorem so_size {α : Type} [Inhabited α] (lt : α → α → Bool) : ∀ (j a : Nat) (d : Array α), (Go.Sort.insInner lt a j d).size = d.size
  | 0, a, d => by rw [Go.Sort.insInner]
  | j + 1, a, d => by
    rw [Go.Sort.insInner]
    split
    · rw [so_size lt j a, Go.Sort.size_swp]
    · rfl
theorem so_size2 {α : Type} [Inhabited α] (lt : α → α → Bool) (a b : Nat) : ∀ (m i : Nat) (d : Array α), b - i = m → (Go.Sort.insOuter lt a b i d).size = d.size := by
  intro m
  induction m with
  | zero => intro i d h; rw [Go.Proofs.insOuter_stop _ _ _ _ _ (by omega)]
  | succ m ih => intro i d h; rw [Go.Proofs.insOuter_go _ _ _ _ _ (by omega), ih _ _ (by omega), so_size]
theorem upL_ofFn (n : Nat) : (Array.ofFn (fun i : Fin n => i)).toList.map (enF n) = encs (Value.int .i64) (upL n) := by
  apply List.ext_getElem
  · simp [encs, upL]
  · intro i h1 h2
    simp [encs, upL, enF]
set_option maxHeartbeats 2000000 in
theorem sorted_calls (l : List S41) (hl0 : 0 < l.length) (hl : l.length < 20) (A : Option Addr) (c gb : Nat) (X wr : World) (u : Value) (hR : (Kd.int .i64).R 3 wr X.heap.size (fun _ => True) u (upL l.length)) (hB : Below X.heap.size X wr)
    (hC : Kd.C k41 X A l.length l) (hG : X.cell? ⟨gb, 0, none⟩ = some (.slice A l.length c)) :
    Calls Tryz.prog 68 #[u, .func (.func 69) #[] #[.pointer (some ⟨gb, 0, none⟩)]] wr fun e w' => e = .returned (.tuple #[]) ∧ (Kd.int .i64).R 3 w' X.heap.size (fun _ => True) u (ordL l) ∧ Below X.heap.size X w' := by
  obtain ⟨I, hI⟩ : ∃ I : Inhabited (Fin l.length), I = inhF l hl0 := ⟨_, rfl⟩
  have own := Kd.own_of_R hR
  rw [upL_len] at own
  rcases own.2 with ⟨_, h⟩ | ⟨g, cap, cur, rfl, hbase, hb, h1, h2, h3, h4⟩
  · omega
  have hgw : g < wr.heap.size := (Array.getElem?_eq_some_iff.1 hb).1
  have hd : (Array.ofFn (fun i : Fin l.length => i)).size = l.length := by simp
  have hH : Go.Sort.Holds (enF l.length) wr g 0 (Array.ofFn (fun i : Fin l.length => i)) := so_holds (enF l.length) hb (by rw [hd, upL_ofFn, ← h4, Nat.mul_one])
  have R : Row1 (enF l.length) wr g 0 (Array.ofFn (fun i : Fin l.length => i)) := ⟨enF_one _, hH, hgw⟩
  have low : ∀ (m : Nat) (os : Array Obj) (dk : Array (Fin l.length)), Below X.heap.size X (Go.Sort.grow (Go.Sort.putRow (enF l.length) (Go.Sort.ahead wr m) g 0 dk) os) := fun m os dk =>
    hB.grown (so_grown (enF l.length) dk) hB.size (fun k hk => by cases hk; exact hbase)
  have hCm : CmpLays1 Tryz.prog 69 #[.pointer (some ⟨gb, 0, none⟩)] (enF l.length) (cfF l) g 0 (Array.ofFn (fun i : Fin l.length => i)).size wr := fun m os dk _ x y =>
    order1_calls l A c gb (x.val : Int) (y.val : Int) _ (Kd.C_below hC (low m os dk)) (Ft.cell_stay hG (low m os dk)) ⟨by omega, by omega⟩ ⟨by omega, by omega⟩
  refine (sort_calls l hl g cap gb _ wr hd hCm R).mono ?_
  rintro e w' ⟨rfl, n, os, rfl⟩
  have hsz : (Go.Sort.insertionSort (ltOf (cfF l)) (Array.ofFn (fun i : Fin l.length => i)) 0 l.length).size = l.length := by
    unfold Go.Sort.insertionSort
    rw [so_size2 _ _ _ _ _ _ rfl, hd]
  have eO : ordL l = (Go.Sort.insertionSort (ltOf (cfF l)) (Array.ofFn (fun i : Fin l.length => i)) 0 l.length).toList.map (fun i => ((i.val : Nat) : Int)) := by
    unfold ordL
    rw [dif_pos hl0, hI]
  have eL : (ordL l).length = l.length := by rw [eO, List.length_map, Array.length_toList, hsz]
  have eE : encs (Value.int .i64) (ordL l) = (Go.Sort.insertionSort (ltOf (cfF l)) (Array.ofFn (fun i : Fin l.length => i)) 0 l.length).toList.map (enF l.length) := by
    rw [eO]
    unfold encs
    rw [List.map_map]
    rfl
  refine ⟨rfl, Kd.R_of_own ?_ (fun _ _ => trivial), low n os _⟩
  rw [eL]
  refine ⟨by rw [encs_length, eL]; omega, .inr ⟨g, cap, _, rfl, hbase, so_heap (enF l.length) _ hb, h1, h2, by simp [Go.Sort.putCells, h3], ?_⟩⟩
  rw [Nat.mul_one, eE]
  have := so_take (enF l.length) cur (Go.Sort.insertionSort (ltOf (cfF l)) (Array.ofFn (fun i : Fin l.length => i)) 0 l.length) (by rw [hsz]; omega)
  rw [hsz] at this
  exact this
set_option maxHeartbeats 4000000 in
set_option maxRecDepth 100000 in
theorem faults_Order.calls (k : Nat) (A0 : Option Addr) (c0 : Nat) (l0 : List S41) (r1 : List Int) (r2 : Int) (w : World) (hr0 : Kd.C k41 w A0 l0.length l0) (hc0 : l0.length ≤ c0) (h : faults_Order.f k l0 = some (r1, r2)) (HT : Aside0 (Ft.All w)) :
    Calls Tryz.prog 36 #[.slice A0 l0.length c0] w fun e w' => ∃ v0_ : Value, e = .returned (.tuple #[v0_, .int .i64 r2]) ∧ Kd.R (Kd.int .i64) 3 w' w.heap.size (fun _ => True) v0_ r1 ∧ Below w.heap.size w w' := by
  unfold faults_Order.f at h
  obtain ⟨⟨z1, z2⟩, hk, h⟩ := Option.bind_eq_some_iff.mp h
  have HK := ak hk
  have HR := ak hr0
  have HB0 : Aside0 (∀ o, Below w.heap.size w (w.alloc o)) := ⟨fun o => (Below.refl _ w).alloc (Nat.le_refl _) o⟩
  have HG : Aside0 ((w.alloc (.cells #[.slice A0 l0.length c0] 22)).cell? ⟨w.heap.size, 0, none⟩ = some (.slice A0 l0.length c0)) := ⟨by rw [World.cell?_alloc_at _ _ _ _ rfl]; rfl⟩
  by_cases he : z2 = 0
  case neg =>
    rw [if_neg he] at h
    cases h
    have b1 : (z2 != 0) = true := bne_iff_ne.mpr he
    have b2 : (z2 == 0) = false := beq_eq_false_iff_ne.mpr he
    clear hk hr0
    go_enter Tryz.func36, Tryz.ntmps36
    go_wp2_with (first
      | (go_at_call 13; refine ( faults_Check.calls k 8000 A0 c0 l0 z1 z2 _ (Kd.C_alloc HR.out _) hc0 HK.out ⟨HT.out.stay (HB0.out _)⟩).mono ?_; rintro e w1 ⟨rfl, hb1⟩))
    go_ret2
    exact ⟨_, rfl, Kd.R_nil _ _ _ _ _, (HB0.out _).trans (hb1.mono (HB0.out _).size)⟩
  subst he
  rw [if_pos rfl] at h
  by_cases hl : 0 < l0.length ∧ l0.length < 20
  case neg => rw [if_neg hl] at h; cases h
  rw [if_pos hl] at h
  have e1 : r1 = ordL l0 := (congrArg Prod.fst (Option.some.inj h)).symm
  have e2 : r2 = 0 := (congrArg Prod.snd (Option.some.inj h)).symm
  subst e2
  have E1 := ak e1
  have HL := ak hl
  clear hk hr0 h e1 hl
  go_enter Tryz.func36, Tryz.ntmps36
  have HX : Aside0 (Below w.heap.size w (w.alloc (.cells #[.slice A0 l0.length c0] 22))) := ⟨HB0.out _⟩
  have HS0 : Aside0 ((w.alloc (.cells #[.slice A0 l0.length c0] 22)).heap.size = w.heap.size + 1) := ⟨by simp⟩
  go_wp2_with (first
    | (go_at_call 13; refine ( faults_Check.calls k 8000 A0 c0 l0 z1 0 _ (Kd.C_alloc HR.out _) hc0 HK.out ⟨HT.out.stay (HB0.out _)⟩).mono ?_; rintro e w1 ⟨rfl, hb1⟩; have HB1 := ak hb1; have hg1 := Ft.cell_stay HG.out hb1; clear hb1))
  clear h
  generalize hXX : w.alloc (.cells #[.slice A0 l0.length c0] 22) = X at HG HX HS0 HB1
  clear hXX
  have HX1 := ak hg1
  go_loopg [6, 18] l0.length (fun gh v6 v18 wr => ∃ (i : Nat), v18 = .int .i64 (i : Int) ∧ i ≤ l0.length ∧ gh = l0.length - i ∧ Aside0 (Kd.R (Kd.int .i64) 3 wr X.heap.size (fun _ => True) v6 (upL i)) ∧ Aside0 (Below X.heap.size X wr)  )
  case atStart => exact ⟨0, rfl, Nat.zero_le _, rfl, ⟨Kd.R_nil _ _ _ _ _⟩, HB1⟩
  case round =>
    obtain ⟨i, rfl, hi, rfl, HO, HB⟩ := hrel
    clear HB1 hg1 HX1
    by_cases hil : i < l0.length
    · have hii : ((i : Nat) : Int) < (l0.length : Int) := by omega
      have hw : IntKind.i64.wrap ((i : Int) + 1) = ((i + 1 : Nat) : Int) := by rw [IntKind.wrap_i64]; have := HL.out; omega
      have LM := ak (show (upL i).length < 1001 by rw [upL_len]; have := HL.out; omega)
      have HN : Aside0 (upL (i + 1) = upL i ++ [(i : Int)]) := ⟨upL_succ i⟩
      go_wp2_with (first
        | ((with_reducible refine gate_builtin (b := .append) (xs := #[.tmp 21, .tmp 23]) rfl ?_); at_builtin; refine Kd.R_append (Kd.int .i64) (w0 := X) X.heap.size rfl (.tmp 21) (.tmp 23) 43 3 (.int .i64 0) 8 rfl Tryz.underlying43 info3_ rfl (by decide) (by omega) u6 (upL i) (i : Int) [.int .i64 (i : Int)] (fun _ => True) (fun _ => False) rfl rfl ?aP (fun _ hk => hk.elim) ?aF ?aO ?aB ?aS ?aL ?_; (case aP => exact rfl); (case aB => exact HB.out); (case aF => exact (fun _ _ => trivial)); (case aO => exact HO.out); (case aS => exact HB.out.size); (case aL => have := LM.out; omega); intro v302 w9 ho hb hg hat; have HO9 := ak ho; have HB9 := ak hb; clear ho hb hg hat))
      go_roundg (l0.length - (i + 1))
      case measure => omega
      case rel => exact ⟨i + 1, rfl, by omega, rfl, ⟨by rw [HN.out]; exact HO9.out⟩, HB9⟩
    · obtain rfl : i = l0.length := by omega
      have hii : ¬ ((l0.length : Nat) : Int) < (l0.length : Int) := by omega
      have HC := ak (sorted_calls l0 HL.out.1 HL.out.2 A0 c0 w.heap.size X wr u6 HO.out HB.out (Kd.C_below HR.out HX.out) HG.out)
      clear HO
      go_wp2_with (first
        | (go_at_call 68; refine HC.out.mono ?_; rintro e w3 ⟨rfl, ho3, hb3⟩; have HO3 := ak ho3; have HB3 := ak hb3; clear ho3 hb3))
      go_ret2
      rw [E1.out]
      exact ⟨_, rfl, Kd.R_lower HO3.out HX.out.size, HX.out.trans (HB3.out.mono HX.out.size)⟩
end Go.Proofs.YtdjkdlbokepoaaaGreatDoor.P
namespace Go.Proofs.YtdjkdlbokepoaaaGreatDoor.P
open Go.RowKit Go.Proofs.YtdjkdlbokepoaaaGreatDoorW.PrintWords Go.Proofs.YtdjkdlbokepoaaaGreatDoorW.PrintLast Go.Proofs.YtdjkdlbokepoaaaGreatDoorW.PrintMore
attribute [local go_sem] max2_int min2_int max_two min_two max_three min_three max_four min_four   -- for this text's walks alone
set_option linter.unusedVariables false
set_option linter.unusedSimpArgs false
def faults_First.f (k : Nat) (l0 : List S41) (a1 : Int) : Option (Int × Int) := (faults_Check.f k 8000 l0).bind fun c => if c.2 = 0 then (if l0.length ≤ 1000 then (if firstIx l0 a1 < 0 then some (0, 4) else some (firstIx l0 a1, 0)) else none) else some (0, c.2)
set_option maxHeartbeats 4000000 in
set_option maxRecDepth 100000 in
theorem faults_First.calls (k : Nat) (A0 : Option Addr) (c0 : Nat) (l0 : List S41) (a1 : Int) (r1 : Int) (r2 : Int) (w : World) (hr0 : Kd.C k41 w A0 l0.length l0) (hc0 : l0.length ≤ c0) (h : faults_First.f k l0 a1 = some (r1, r2)) (HT : Aside0 (Ft.All w)) :
    Calls Tryz.prog 39 #[.slice A0 l0.length c0, .int .i64 a1] w fun e w' => e = .returned (.tuple #[.int .i64 r1, .int .i64 r2]) ∧ Below w.heap.size w w' := by
  unfold faults_First.f at h
  obtain ⟨⟨z1, z2⟩, hk, h⟩ := Option.bind_eq_some_iff.mp h
  have HK := ak hk
  have HR := ak hr0
  have HB0 : Aside0 (∀ o, Below w.heap.size w (w.alloc o)) := ⟨fun o => (Below.refl _ w).alloc (Nat.le_refl _) o⟩
  have HG : Aside0 ((w.alloc (.cells #[.int .i64 a1] 25)).cell? ⟨w.heap.size, 0, none⟩ = some (.int .i64 a1)) := ⟨by rw [World.cell?_alloc_at _ _ _ _ rfl]; rfl⟩
  by_cases he : z2 = 0
  case neg =>
    rw [if_neg he] at h
    cases h
    have b1 : (z2 != 0) = true := bne_iff_ne.mpr he
    have b2 : (z2 == 0) = false := beq_eq_false_iff_ne.mpr he
    clear hk hr0
    go_enter Tryz.func39, Tryz.ntmps39
    go_wp2_with (first
      | (go_at_call 13; refine ( faults_Check.calls k 8000 A0 c0 l0 z1 z2 _ (Kd.C_alloc HR.out _) hc0 HK.out ⟨HT.out.stay (HB0.out _)⟩).mono ?_; rintro e w1 ⟨rfl, hb1⟩))
    go_ret2
    exact ⟨rfl, (HB0.out _).trans (hb1.mono (HB0.out _).size)⟩
  subst he
  rw [if_pos rfl] at h
  by_cases hl : l0.length ≤ 1000
  case neg => rw [if_neg hl] at h; cases h
  rw [if_pos hl] at h
  have HI := ak (idx_calls l0 A0 c0 w.heap.size a1)
  generalize firstIx l0 a1 = ix at h HI
  have HL := ak hl
  clear hk hr0 hl
  by_cases hi : ix < 0
  · rw [if_pos hi] at h
    cases h
    have b3 : decide (ix < 0) = true := decide_eq_true hi
    go_enter Tryz.func39, Tryz.ntmps39
    go_wp2_with (first
      | (go_at_call 13; refine ( faults_Check.calls k 8000 A0 c0 l0 z1 0 _ (Kd.C_alloc HR.out _) hc0 HK.out ⟨HT.out.stay (HB0.out _)⟩).mono ?_; rintro e w1 ⟨rfl, hb1⟩; have HB1 := ak hb1; clear hb1)
      | (go_at_call 73; refine (HI.out _ (Kd.C_below (Kd.C_alloc HR.out _) HB1.out) HL.out (Ft.cell_stay HG.out HB1.out)).mono ?_; rintro e w2 ⟨rfl, hb2⟩))
    go_ret2
    exact ⟨rfl, ((HB0.out _).trans (HB1.out.mono (HB0.out _).size)).trans (hb2.mono ((HB0.out _).trans (HB1.out.mono (HB0.out _).size)).size)⟩
  · rw [if_neg hi] at h
    cases h
    have b3 : decide (r1 < 0) = false := decide_eq_false hi
    go_enter Tryz.func39, Tryz.ntmps39
    go_wp2_with (first
      | (go_at_call 13; refine ( faults_Check.calls k 8000 A0 c0 l0 z1 0 _ (Kd.C_alloc HR.out _) hc0 HK.out ⟨HT.out.stay (HB0.out _)⟩).mono ?_; rintro e w1 ⟨rfl, hb1⟩; have HB1 := ak hb1; clear hb1)
      | (go_at_call 73; refine (HI.out _ (Kd.C_below (Kd.C_alloc HR.out _) HB1.out) HL.out (Ft.cell_stay HG.out HB1.out)).mono ?_; rintro e w2 ⟨rfl, hb2⟩))
    go_ret2
    exact ⟨rfl, ((HB0.out _).trans (HB1.out.mono (HB0.out _).size)).trans (hb2.mono ((HB0.out _).trans (HB1.out.mono (HB0.out _).size)).size)⟩
end Go.Proofs.YtdjkdlbokepoaaaGreatDoor.P
namespace Go.Proofs.YtdjkdlbokepoaaaGreatDoor.P
open Go.RowKit Go.Proofs.YtdjkdlbokepoaaaGreatDoorW.PrintWords Go.Proofs.YtdjkdlbokepoaaaGreatDoorW.PrintLast Go.Proofs.YtdjkdlbokepoaaaGreatDoorW.PrintMore
attribute [local go_sem] max2_int min2_int max_two min_two max_three min_three max_four min_four   -- for this text's walks alone
set_option linter.unusedVariables false
set_option linter.unusedSimpArgs false
def mummerlaw08_FaultsKnown.f : Option Bool := some true
def knW1 : ByteArray := ⟨#[108, 101, 116, 114, 101, 99]⟩
def knW2 : ByteArray := ⟨#[101, 114, 114, 111, 114, 32, 50, 52, 48]⟩
theorem kn_place2 : faults_Place.f 60 shT 2 = some (1, 3, 0) := by decide +kernel
theorem kn_place3 : faults_Place.f 60 shT 3 = some (1, 3, 0) := by decide +kernel
theorem kn_place4 : faults_Place.f 60 shT 4 = some (1, 4, 0) := by decide +kernel
theorem kn_place5 : faults_Place.f 60 shT 5 = some (2, 1, 0) := by decide +kernel
theorem kn_place7 : faults_Place.f 60 shT 7 = some (2, 3, 0) := by decide +kernel
theorem kn_roots : faults_Roots.f 60 shE = some ([1], 0) := by decide +kernel
theorem kn_first : faults_First.f 60 shE 14 = some (1, 0) := by decide +kernel
theorem kn_check : faults_Check.f 60 8000 shE = some (0, 0) := by decide +kernel
theorem kn_pos : 0 < shE.length := by decide
theorem kn_ord : ordL shE = [0, 1] := by
  unfold ordL
  rw [dif_pos kn_pos]
  unfold Go.Sort.insertionSort
  rw [@Go.Proofs.insOuter_go (Fin shE.length) (inhF shE kn_pos) _ _ _ _ _ (by decide), @Go.Proofs.insOuter_stop (Fin shE.length) (inhF shE kn_pos) _ _ _ _ _ (by decide)]
  decide +kernel
theorem kn_order : faults_Order.f 60 shE = some ([0, 1], 0) := by
  unfold faults_Order.f
  rw [kn_check, Option.bind_some, if_pos rfl, if_pos (by decide), kn_ord]
theorem kn_word1 : faults_Word.f 16 = some (knW1, 0) := by decide +kernel
theorem kn_word2 : faults_Word.f 240 = some (knW2, 0) := by decide +kernel
theorem kn_pass : faults_Pass.f 9 = some (⟨#[]⟩, 2) := by decide +kernel
theorem kn_ints1 : mummerref04_Ints.f 60 [1] [1] = some true := by decide +kernel
theorem kn_ints2 : mummerref04_Ints.f 60 [0, 1] [0, 1] = some true := by decide +kernel
theorem kn_lit1 (w : World) : Kd.C (Kd.int .i64) (w.alloc (.cells #[.int .i64 1] 3)) (some ⟨w.heap.size, 0, none⟩) ([1] : List Int).length [1] := by
  refine Kd.C_of_reads (enc := fun n => Value.int .i64 n) (d := 0) ⟨rfl, by decide, fun _ => ⟨_, rfl, fun j hj => ?_⟩⟩
  rw [Addr.add_lit, Nat.zero_add]
  have h2 : (w.alloc (.cells #[.int .i64 1] 3)).heap[w.heap.size]? = some (.cells #[.int .i64 1] 3) := by
    show (w.heap.push _)[w.heap.size]? = _
    simp
  simp only [World.cell?, h2]
  match j, hj with
  | 0, _ => rfl
theorem kn_lit2 (w : World) : Kd.C (Kd.int .i64) (w.alloc (.cells #[.int .i64 0, .int .i64 1] 3)) (some ⟨w.heap.size, 0, none⟩) ([0, 1] : List Int).length [0, 1] := by
  refine Kd.C_of_reads (enc := fun n => Value.int .i64 n) (d := 0) ⟨rfl, by decide, fun _ => ⟨_, rfl, fun j hj => ?_⟩⟩
  rw [Addr.add_lit, Nat.zero_add]
  have h2 : (w.alloc (.cells #[.int .i64 0, .int .i64 1] 3)).heap[w.heap.size]? = some (.cells #[.int .i64 0, .int .i64 1] 3) := by
    show (w.heap.push _)[w.heap.size]? = _
    simp
  simp only [World.cell?, h2]
  match j, hj with
  | 0, _ => rfl
  | 1, _ => rfl
theorem kn_i1 (A : Option Addr) (c : Nat) (w : World) (h : Kd.C (Kd.int .i64) w A 1 [1]) (hc : 1 ≤ c) : Calls Tryz.prog 34 #[.slice A 1 c, .slice (some ⟨w.heap.size, 0, none⟩) 1 1] (w.alloc (.cells #[.int .i64 1] 3)) fun e w' => e = .returned (.bool true) ∧ Below w.heap.size w w' := by
  refine (mummerref04_Ints.calls 60 A c [1] (some ⟨w.heap.size, 0, none⟩) 1 [1] true (w.alloc (.cells #[.int .i64 1] 3)) (Kd.C_alloc h _) hc (kn_lit1 _) (Nat.le_refl _) kn_ints1).mono ?_
  rintro e wi ⟨rfl, hd⟩
  obtain ⟨n1, rfl⟩ := hd.out
  exact ⟨rfl, wN (wA (Below.refl _ _) _) n1⟩
theorem kn_i2 (A : Option Addr) (c : Nat) (w : World) (h : Kd.C (Kd.int .i64) w A 2 [0, 1]) (hc : 2 ≤ c) : Calls Tryz.prog 34 #[.slice A 2 c, .slice (some ⟨w.heap.size, 0, none⟩) 2 2] (w.alloc (.cells #[.int .i64 0, .int .i64 1] 3)) fun e w' => e = .returned (.bool true) ∧ Below w.heap.size w w' := by
  refine (mummerref04_Ints.calls 60 A c [0, 1] (some ⟨w.heap.size, 0, none⟩) 2 [0, 1] true (w.alloc (.cells #[.int .i64 0, .int .i64 1] 3)) (Kd.C_alloc h _) hc (kn_lit2 _) (Nat.le_refl _) kn_ints2).mono ?_
  rintro e wi ⟨rfl, hd⟩
  obtain ⟨n1, rfl⟩ := hd.out
  exact ⟨rfl, wN (wA (Below.refl _ _) _) n1⟩
def knA : Array Value := #[.int .i64 2, .int .i64 3, .int .i64 4, .int .i64 5, .int .i64 7]
def knB : Array Value := #[.int .i64 1, .int .i64 3, .int .i64 1, .int .i64 3, .int .i64 1, .int .i64 4, .int .i64 2, .int .i64 1, .int .i64 2, .int .i64 3]
theorem kn_one (w : World) (i : Nat) (v : Value) (h : knA[i]? = some v) : ((w.alloc (.cells knA 61)).alloc (.cells knB 63)).cell? ⟨w.heap.size, i, none⟩ = some v := by
  rw [World.cell?_alloc_lt _ _ _ (by simp), World.cell?_alloc_at _ _ _ _ rfl]
  simpa [World.cell?] using h
theorem kn_two (w : World) (i : Nat) (v : Value) (h : knB[i]? = some v) : ((w.alloc (.cells knA 61)).alloc (.cells knB 63)).cell? ⟨w.heap.size + 1, i, none⟩ = some v := by
  rw [World.cell?_alloc_at _ _ _ _ (by simp)]
  simpa [World.cell?] using h
theorem kn_boxes (w : World) : ((w.alloc (.cells knA 61)).alloc (.cells knB 63)).cell? ⟨w.heap.size, 0, none⟩ = some (.int .i64 2) ∧ ((w.alloc (.cells knA 61)).alloc (.cells knB 63)).cell? ⟨w.heap.size, 1, none⟩ = some (.int .i64 3) ∧ ((w.alloc (.cells knA 61)).alloc (.cells knB 63)).cell? ⟨w.heap.size, 2, none⟩ = some (.int .i64 4) ∧ ((w.alloc (.cells knA 61)).alloc (.cells knB 63)).cell? ⟨w.heap.size, 3, none⟩ = some (.int .i64 5) ∧ ((w.alloc (.cells knA 61)).alloc (.cells knB 63)).cell? ⟨w.heap.size, 4, none⟩ = some (.int .i64 7) ∧ ((w.alloc (.cells knA 61)).alloc (.cells knB 63)).cell? ⟨w.heap.size + 1, 0, none⟩ = some (.int .i64 1) ∧ ((w.alloc (.cells knA 61)).alloc (.cells knB 63)).cell? ⟨w.heap.size + 1, 1, none⟩ = some (.int .i64 3) ∧ ((w.alloc (.cells knA 61)).alloc (.cells knB 63)).cell? ⟨w.heap.size + 1, 2, none⟩ = some (.int .i64 1) ∧ ((w.alloc (.cells knA 61)).alloc (.cells knB 63)).cell? ⟨w.heap.size + 1, 3, none⟩ = some (.int .i64 3) ∧ ((w.alloc (.cells knA 61)).alloc (.cells knB 63)).cell? ⟨w.heap.size + 1, 4, none⟩ = some (.int .i64 1) ∧ ((w.alloc (.cells knA 61)).alloc (.cells knB 63)).cell? ⟨w.heap.size + 1, 5, none⟩ = some (.int .i64 4) ∧ ((w.alloc (.cells knA 61)).alloc (.cells knB 63)).cell? ⟨w.heap.size + 1, 6, none⟩ = some (.int .i64 2) ∧ ((w.alloc (.cells knA 61)).alloc (.cells knB 63)).cell? ⟨w.heap.size + 1, 7, none⟩ = some (.int .i64 1) ∧ ((w.alloc (.cells knA 61)).alloc (.cells knB 63)).cell? ⟨w.heap.size + 1, 8, none⟩ = some (.int .i64 2) ∧ ((w.alloc (.cells knA 61)).alloc (.cells knB 63)).cell? ⟨w.heap.size + 1, 9, none⟩ = some (.int .i64 3) ∧ Below w.heap.size w ((w.alloc (.cells knA 61)).alloc (.cells knB 63)) :=
  ⟨kn_one w 0 _ rfl, kn_one w 1 _ rfl, kn_one w 2 _ rfl, kn_one w 3 _ rfl, kn_one w 4 _ rfl, kn_two w 0 _ rfl, kn_two w 1 _ rfl, kn_two w 2 _ rfl, kn_two w 3 _ rfl, kn_two w 4 _ rfl, kn_two w 5 _ rfl, kn_two w 6 _ rfl, kn_two w 7 _ rfl, kn_two w 8 _ rfl, kn_two w 9 _ rfl, ((Below.refl _ w).alloc (Nat.le_refl _) _).alloc (by simp) _⟩
set_option maxHeartbeats 16000000 in
set_option maxRecDepth 100000 in
theorem mummerlaw08_FaultsKnown.calls (r : Bool) (w : World) (hrt : Aside0 (r = true)) (h : mummerlaw08_FaultsKnown.f = some r) (HT : Aside0 (Ft.All w)) :
    Calls Tryz.prog 10 #[] w fun e w' => e = .returned (.bool r) ∧ Below w.heap.size w w' := by
  unfold mummerlaw08_FaultsKnown.f at h
  cases h
  clear hrt
  have hl2 : shE.length = 2 := rfl
  have hl7 : shT.length = 7 := rfl
  have hW1 : knW1.toList = [108, 101, 116, 114, 101, 99] := by decide +kernel
  have hW2 : knW2.toList = [101, 114, 114, 111, 114, 32, 50, 52, 48] := by decide +kernel
  go_enter Tryz.func10, Tryz.ntmps10
  go_wp2
  obtain ⟨f0, f1, f2, f3, f4, e0, e1, e2, e3, e4, e5, e6, e7, e8, e9, hX⟩ := kn_boxes w
  have HX := ak hX
  obtain ⟨g1, h1⟩ : ∃ g, w.heap.size = g := ⟨_, rfl⟩
  obtain ⟨g2, h2⟩ : ∃ g, w.heap.size + 1 = g := ⟨_, rfl⟩
  have q1 : g1 < ((w.alloc (.cells knA 61)).alloc (.cells knB 63)).heap.size := by simp; omega
  have q2 : g2 < ((w.alloc (.cells knA 61)).alloc (.cells knB 63)).heap.size := by simp; omega
  rw [h2] at e0 e1 e2 e3 e4 e5 e6 e7 e8 e9
  rw [h1] at f0 f1 f2 f3 f4
  simp only [h2]
  simp only [h1]
  clear h1 h2 hX
  change Code.wp _ _ _ _ ((w.alloc (.cells knA 61)).alloc (.cells knB 63))
  generalize (w.alloc (.cells knA 61)).alloc (.cells knB 63) = W at *
  have HB := ak (Below.refl W.heap.size W)
  have HW := ak HX.out
  have n_ : Aside0 (Ft.All W) := ⟨HT.out.stay HX.out⟩
  clear HT
  have HT := n_
  clear n_
  go_loopg [3] 5 (fun gh v3 wr => ∃ i : Int, v3 = .int .i64 i ∧ 0 ≤ i ∧ i ≤ 5 ∧ gh = (5 - i).toNat ∧ Aside0 (Below W.heap.size W wr))
  case atStart => exact ⟨0, rfl, by omega, by omega, rfl, HB⟩
  case round =>
    clear HB
    obtain ⟨i, rfl, hi0, hi5, rfl, HB⟩ := hrel
    rcases (show i = 0 ∨ i = 1 ∨ i = 2 ∨ i = 3 ∨ i = 4 ∨ i = 5 by omega) with rfl | rfl | rfl | rfl | rfl | rfl
    · have fa : Aside0 (∀ U, Below W.heap.size W U → U.cell? ⟨g1, 0, none⟩ = some (.int .i64 2)) := ⟨fun U hU => (hU.cell q1).trans f0⟩
      have cc := fa.out _ HB.out
      have d1 : Aside0 (∀ U, Below W.heap.size W U → U.cell? ⟨g2, 0, none⟩ = some (.int .i64 1)) := ⟨fun U hU => (hU.cell q2).trans e0⟩
      have d2 : Aside0 (∀ U, Below W.heap.size W U → U.cell? ⟨g2, 1, none⟩ = some (.int .i64 3)) := ⟨fun U hU => (hU.cell q2).trans e1⟩
      clear f0 f1 f2 f3 f4 e0 e1 e2 e3 e4 e5 e6 e7 e8 e9 q1 q2 hi0 hi5
      go_wp2_with fail
      go_region_held3 (fun w' => w'.cell? ⟨g1, 0, none⟩ = some (.int .i64 2))
        (first | exact fa.out _ (wD HB.out) | exact fa.out _ HB1.out | exact fa.out _ HB2.out)
        ((first
          | (go_at_call 41; refine (mummerlaw08_Text.calls shT _ rfl).mono ?_; rintro e wt ⟨vt, rfl, ⟨At, ct, rfl, hct, hCt⟩, hb⟩; have HB1 := ak ((wD HB.out).trans (hb.mono (wD HB.out).size)); have HCT := ak hCt; have HCc := ak hct; clear hCt hct hb)
          | (go_at_call 15; refine ( faults_Place.calls 60 _ _ shT 2 1 3 0 _ HCT.out HCc.out kn_place2 ⟨HT.out.stay HB1.out⟩).mono ?_; rintro e wp ⟨rfl, hb⟩; have HB2 := ak (HB1.out.trans (hb.mono HB1.out.size)); clear hb)))
      have c1 := d1.out _ HB2.out
      have c2 := d2.out _ HB2.out
      rename_i hHeld
      clear hHeld cc
      go_wp2
      go_roundg (5 - (0 + 1))
      case measure => omega
      case rel => exact ⟨1, rfl, by omega, by omega, rfl, HB2⟩
    · have fa : Aside0 (∀ U, Below W.heap.size W U → U.cell? ⟨g1, 1, none⟩ = some (.int .i64 3)) := ⟨fun U hU => (hU.cell q1).trans f1⟩
      have cc := fa.out _ HB.out
      have d1 : Aside0 (∀ U, Below W.heap.size W U → U.cell? ⟨g2, 2, none⟩ = some (.int .i64 1)) := ⟨fun U hU => (hU.cell q2).trans e2⟩
      have d2 : Aside0 (∀ U, Below W.heap.size W U → U.cell? ⟨g2, 3, none⟩ = some (.int .i64 3)) := ⟨fun U hU => (hU.cell q2).trans e3⟩
      clear f0 f1 f2 f3 f4 e0 e1 e2 e3 e4 e5 e6 e7 e8 e9 q1 q2 hi0 hi5
      go_wp2_with fail
      go_region_held3 (fun w' => w'.cell? ⟨g1, 1, none⟩ = some (.int .i64 3))
        (first | exact fa.out _ (wD HB.out) | exact fa.out _ HB1.out | exact fa.out _ HB2.out)
        ((first
          | (go_at_call 41; refine (mummerlaw08_Text.calls shT _ rfl).mono ?_; rintro e wt ⟨vt, rfl, ⟨At, ct, rfl, hct, hCt⟩, hb⟩; have HB1 := ak ((wD HB.out).trans (hb.mono (wD HB.out).size)); have HCT := ak hCt; have HCc := ak hct; clear hCt hct hb)
          | (go_at_call 15; refine ( faults_Place.calls 60 _ _ shT 3 1 3 0 _ HCT.out HCc.out kn_place3 ⟨HT.out.stay HB1.out⟩).mono ?_; rintro e wp ⟨rfl, hb⟩; have HB2 := ak (HB1.out.trans (hb.mono HB1.out.size)); clear hb)))
      have c1 := d1.out _ HB2.out
      have c2 := d2.out _ HB2.out
      rename_i hHeld
      clear hHeld cc
      go_wp2
      go_roundg (5 - (1 + 1))
      case measure => omega
      case rel => exact ⟨2, rfl, by omega, by omega, rfl, HB2⟩
    · have fa : Aside0 (∀ U, Below W.heap.size W U → U.cell? ⟨g1, 2, none⟩ = some (.int .i64 4)) := ⟨fun U hU => (hU.cell q1).trans f2⟩
      have cc := fa.out _ HB.out
      have d1 : Aside0 (∀ U, Below W.heap.size W U → U.cell? ⟨g2, 4, none⟩ = some (.int .i64 1)) := ⟨fun U hU => (hU.cell q2).trans e4⟩
      have d2 : Aside0 (∀ U, Below W.heap.size W U → U.cell? ⟨g2, 5, none⟩ = some (.int .i64 4)) := ⟨fun U hU => (hU.cell q2).trans e5⟩
      clear f0 f1 f2 f3 f4 e0 e1 e2 e3 e4 e5 e6 e7 e8 e9 q1 q2 hi0 hi5
      go_wp2_with fail
      go_region_held3 (fun w' => w'.cell? ⟨g1, 2, none⟩ = some (.int .i64 4))
        (first | exact fa.out _ (wD HB.out) | exact fa.out _ HB1.out | exact fa.out _ HB2.out)
        ((first
          | (go_at_call 41; refine (mummerlaw08_Text.calls shT _ rfl).mono ?_; rintro e wt ⟨vt, rfl, ⟨At, ct, rfl, hct, hCt⟩, hb⟩; have HB1 := ak ((wD HB.out).trans (hb.mono (wD HB.out).size)); have HCT := ak hCt; have HCc := ak hct; clear hCt hct hb)
          | (go_at_call 15; refine ( faults_Place.calls 60 _ _ shT 4 1 4 0 _ HCT.out HCc.out kn_place4 ⟨HT.out.stay HB1.out⟩).mono ?_; rintro e wp ⟨rfl, hb⟩; have HB2 := ak (HB1.out.trans (hb.mono HB1.out.size)); clear hb)))
      have c1 := d1.out _ HB2.out
      have c2 := d2.out _ HB2.out
      rename_i hHeld
      clear hHeld cc
      go_wp2
      go_roundg (5 - (2 + 1))
      case measure => omega
      case rel => exact ⟨3, rfl, by omega, by omega, rfl, HB2⟩
    · have fa : Aside0 (∀ U, Below W.heap.size W U → U.cell? ⟨g1, 3, none⟩ = some (.int .i64 5)) := ⟨fun U hU => (hU.cell q1).trans f3⟩
      have cc := fa.out _ HB.out
      have d1 : Aside0 (∀ U, Below W.heap.size W U → U.cell? ⟨g2, 6, none⟩ = some (.int .i64 2)) := ⟨fun U hU => (hU.cell q2).trans e6⟩
      have d2 : Aside0 (∀ U, Below W.heap.size W U → U.cell? ⟨g2, 7, none⟩ = some (.int .i64 1)) := ⟨fun U hU => (hU.cell q2).trans e7⟩
      clear f0 f1 f2 f3 f4 e0 e1 e2 e3 e4 e5 e6 e7 e8 e9 q1 q2 hi0 hi5
      go_wp2_with fail
      go_region_held3 (fun w' => w'.cell? ⟨g1, 3, none⟩ = some (.int .i64 5))
        (first | exact fa.out _ (wD HB.out) | exact fa.out _ HB1.out | exact fa.out _ HB2.out)
        ((first
          | (go_at_call 41; refine (mummerlaw08_Text.calls shT _ rfl).mono ?_; rintro e wt ⟨vt, rfl, ⟨At, ct, rfl, hct, hCt⟩, hb⟩; have HB1 := ak ((wD HB.out).trans (hb.mono (wD HB.out).size)); have HCT := ak hCt; have HCc := ak hct; clear hCt hct hb)
          | (go_at_call 15; refine ( faults_Place.calls 60 _ _ shT 5 2 1 0 _ HCT.out HCc.out kn_place5 ⟨HT.out.stay HB1.out⟩).mono ?_; rintro e wp ⟨rfl, hb⟩; have HB2 := ak (HB1.out.trans (hb.mono HB1.out.size)); clear hb)))
      have c1 := d1.out _ HB2.out
      have c2 := d2.out _ HB2.out
      rename_i hHeld
      clear hHeld cc
      go_wp2
      go_roundg (5 - (3 + 1))
      case measure => omega
      case rel => exact ⟨4, rfl, by omega, by omega, rfl, HB2⟩
    · have fa : Aside0 (∀ U, Below W.heap.size W U → U.cell? ⟨g1, 4, none⟩ = some (.int .i64 7)) := ⟨fun U hU => (hU.cell q1).trans f4⟩
      have cc := fa.out _ HB.out
      have d1 : Aside0 (∀ U, Below W.heap.size W U → U.cell? ⟨g2, 8, none⟩ = some (.int .i64 2)) := ⟨fun U hU => (hU.cell q2).trans e8⟩
      have d2 : Aside0 (∀ U, Below W.heap.size W U → U.cell? ⟨g2, 9, none⟩ = some (.int .i64 3)) := ⟨fun U hU => (hU.cell q2).trans e9⟩
      clear f0 f1 f2 f3 f4 e0 e1 e2 e3 e4 e5 e6 e7 e8 e9 q1 q2 hi0 hi5
      go_wp2_with fail
      go_region_held3 (fun w' => w'.cell? ⟨g1, 4, none⟩ = some (.int .i64 7))
        (first | exact fa.out _ (wD HB.out) | exact fa.out _ HB1.out | exact fa.out _ HB2.out)
        ((first
          | (go_at_call 41; refine (mummerlaw08_Text.calls shT _ rfl).mono ?_; rintro e wt ⟨vt, rfl, ⟨At, ct, rfl, hct, hCt⟩, hb⟩; have HB1 := ak ((wD HB.out).trans (hb.mono (wD HB.out).size)); have HCT := ak hCt; have HCc := ak hct; clear hCt hct hb)
          | (go_at_call 15; refine ( faults_Place.calls 60 _ _ shT 7 2 3 0 _ HCT.out HCc.out kn_place7 ⟨HT.out.stay HB1.out⟩).mono ?_; rintro e wp ⟨rfl, hb⟩; have HB2 := ak (HB1.out.trans (hb.mono HB1.out.size)); clear hb)))
      have c1 := d1.out _ HB2.out
      have c2 := d2.out _ HB2.out
      rename_i hHeld
      clear hHeld cc
      go_wp2
      go_roundg (5 - (4 + 1))
      case measure => omega
      case rel => exact ⟨5, rfl, by omega, by omega, rfl, HB2⟩
    · clear f0 f1 f2 f3 f4 e0 e1 e2 e3 e4 e5 e6 e7 e8 e9 q1 q2 hi0 hi5
      go_wp2_with (first
        | (go_at_call 42; refine (mummerlaw08_Example.calls shE _ rfl).mono ?_; rintro e we ⟨ve, rfl, hR, hb⟩; have n_ := ak (HB.out.trans (hb.mono HB.out.size)); clear HB; have HB := n_; clear n_; (try (have n_ := ak (Kd.C_below HCR.out hb); clear HCR; have HCR := n_; clear n_)); (try (have n_ := ak (Kd.C_below HCO.out hb); clear HCO; have HCO := n_; clear n_)); clear hb; obtain ⟨Ae, ce, rfl, hce, hCe⟩ := Kd.R_reads hR; clear hR; (try clear HCE HEc); have HCE := ak hCe; have HEc := ak hce; clear hCe hce)
        | (go_at_call 31; refine ( faults_Roots.calls 60 _ _ shE [1] 0 _ HCE.out HEc.out kn_roots ⟨HT.out.stay HB.out⟩).mono ?_; rintro e wo ⟨vr, rfl, hR, hb⟩; have n_ := ak (HB.out.trans (hb.mono HB.out.size)); clear HB; have HB := n_; clear n_; (try (have n_ := ak (Kd.C_below HCR.out hb); clear HCR; have HCR := n_; clear n_)); (try (have n_ := ak (Kd.C_below HCO.out hb); clear HCO; have HCO := n_; clear n_)); clear hb; obtain ⟨Ar, cr, rfl, hcr, hCr⟩ := Kd.R_reads hR; clear hR; have HCR : Aside0 (Kd.C (Kd.int .i64) _ Ar 1 [1]) := ⟨hCr⟩; have HRc : Aside0 (1 ≤ cr) := ⟨hcr⟩; clear hCr hcr)
        | (go_at_call 39; refine ( faults_First.calls 60 _ _ shE 14 1 0 _ HCE.out HEc.out kn_first ⟨HT.out.stay HB.out⟩).mono ?_; rintro e wf ⟨rfl, hb⟩; have n_ := ak (HB.out.trans (hb.mono HB.out.size)); clear HB; have HB := n_; clear n_; (try (have n_ := ak (Kd.C_below HCR.out hb); clear HCR; have HCR := n_; clear n_)); (try (have n_ := ak (Kd.C_below HCO.out hb); clear HCO; have HCO := n_; clear n_)); clear hb)
        | (go_at_call 36; refine ( faults_Order.calls 60 _ _ shE [0, 1] 0 _ HCE.out HEc.out kn_order ⟨HT.out.stay HB.out⟩).mono ?_; rintro e wo ⟨vo, rfl, hR, hb⟩; have n_ := ak (HB.out.trans (hb.mono HB.out.size)); clear HB; have HB := n_; clear n_; (try (have n_ := ak (Kd.C_below HCR.out hb); clear HCR; have HCR := n_; clear n_)); (try (have n_ := ak (Kd.C_below HCO.out hb); clear HCO; have HCO := n_; clear n_)); clear hb; obtain ⟨Ao, co, rfl, hco, hCo⟩ := Kd.R_reads hR; clear hR; have HCO : Aside0 (Kd.C (Kd.int .i64) _ Ao 2 [0, 1]) := ⟨hCo⟩; have HOc : Aside0 (2 ≤ co) := ⟨hco⟩; clear hCo hco)
        | (go_at_call 17; (with_reducible refine ( faults_Word.calls 16 knW1 0 _ kn_word1 ⟨HT.out.stay HB.out⟩).mono ?_); rintro e ww ⟨rfl, hb⟩; have n_ := ak (HB.out.trans (hb.mono HB.out.size)); clear HB; have HB := n_; clear n_; (try (have n_ := ak (Kd.C_below HCR.out hb); clear HCR; have HCR := n_; clear n_)); (try (have n_ := ak (Kd.C_below HCO.out hb); clear HCO; have HCO := n_; clear n_)); clear hb)
        | (go_at_call 17; (with_reducible refine ( faults_Word.calls 240 knW2 0 _ kn_word2 ⟨HT.out.stay HB.out⟩).mono ?_); rintro e ww ⟨rfl, hb⟩; have n_ := ak (HB.out.trans (hb.mono HB.out.size)); clear HB; have HB := n_; clear n_; (try (have n_ := ak (Kd.C_below HCR.out hb); clear HCR; have HCR := n_; clear n_)); (try (have n_ := ak (Kd.C_below HCO.out hb); clear HCO; have HCO := n_; clear n_)); clear hb)
        | (go_at_call 19; refine ( faults_Pass.calls 9 ⟨#[]⟩ 2 _ kn_pass ⟨HT.out.stay HB.out⟩).mono ?_; rintro e ww ⟨rfl, hb⟩; have n_ := ak (HB.out.trans (hb.mono HB.out.size)); clear HB; have HB := n_; clear n_; (try (have n_ := ak (Kd.C_below HCR.out hb); clear HCR; have HCR := n_; clear n_)); (try (have n_ := ak (Kd.C_below HCO.out hb); clear HCO; have HCO := n_; clear n_)); clear hb)
        | (go_at_call 34; (with_reducible refine (kn_i1 _ _ _ HCR.out HRc.out).mono ?_); rintro e wi ⟨rfl, hb⟩; have n_ := ak (HB.out.trans (hb.mono HB.out.size)); clear HB; have HB := n_; clear n_; (try (have n_ := ak (Kd.C_below HCR.out hb); clear HCR; have HCR := n_; clear n_)); (try (have n_ := ak (Kd.C_below HCO.out hb); clear HCO; have HCO := n_; clear n_)); clear hb)
        | (go_at_call 34; (with_reducible refine (kn_i2 _ _ _ HCO.out HOc.out).mono ?_); rintro e wi ⟨rfl, hb⟩; have n_ := ak (HB.out.trans (hb.mono HB.out.size)); clear HB; have HB := n_; clear n_; (try (have n_ := ak (Kd.C_below HCR.out hb); clear HCR; have HCR := n_; clear n_)); (try (have n_ := ak (Kd.C_below HCO.out hb); clear HCO; have HCO := n_; clear n_)); clear hb)
        | (go_at_call 12; refine ( mummerlaw08_shown.calls true _ ⟨rfl⟩ rfl ⟨HT.out.stay HB.out⟩).mono ?_; rintro e ws ⟨rfl, hb⟩; have n_ := ak (HB.out.trans (hb.mono HB.out.size)); clear HB; have HB := n_; clear n_; (try (have n_ := ak (Kd.C_below HCR.out hb); clear HCR; have HCR := n_; clear n_)); (try (have n_ := ak (Kd.C_below HCO.out hb); clear HCO; have HCO := n_; clear n_)); clear hb))
      go_ret
      exact ⟨rfl, HW.out.trans (HB.out.mono HW.out.size)⟩
end Go.Proofs.YtdjkdlbokepoaaaGreatDoor.P
