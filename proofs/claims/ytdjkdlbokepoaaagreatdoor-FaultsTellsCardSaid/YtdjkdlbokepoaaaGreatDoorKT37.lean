import Derived.Test.YtdjkdlbokepoaaaGreatDoorKT36
namespace Go.Proofs.YtdjkdlbokepoaaaGreatDoor.P
open Go.RowKit Go.Proofs.YtdjkdlbokepoaaaGreatDoorW.PrintWords Go.Proofs.YtdjkdlbokepoaaaGreatDoorW.PrintLast Go.Proofs.YtdjkdlbokepoaaaGreatDoorW.PrintMore
attribute [local go_sem] max2_int min2_int max_two min_two max_three min_three max_four min_four
set_option linter.unusedVariables false
set_option linter.unusedSimpArgs false
theorem wrap_none (l : List S41) (A : Option Addr) (c : Nat) (w : World) :
  Calls Tryz.prog 62 #[.slice A l.length c, .int .i64 (-1)] w fun e w' => e = .returned .nilIface ∧ Below w.heap.size w w' := by
 go_enter Tryz.func62, Tryz.ntmps62
 go_wp2
 go_ret
 exact ⟨rfl, Below.refl _ _⟩
theorem wrap_new (w w1 : World) (i y0 y1 y2 y3 y5 : Int) (y4 : ByteArray) (v : Value) (r : List (Int × Int)) (hb : Below w.heap.size w w1) (hE : Ft.ErrAt w1 w1.heap.size r v) (W : World) (hW : W = w1.alloc (.cells #[.int .i64 y0, .int .i64 y1, .int .i64 y2, .int .i64 y3, .string y4, .int .i64 y5, .int .i64 i, v] 127)) :
  Ft.ErrAt W W.heap.size ((i, y0) :: r) (.iface 125 (.pointer (some ⟨w1.heap.size, 0, none⟩))) ∧ Below w.heap.size w W := by
 subst hW
 refine ⟨⟨w1.heap.size, v, by simp, rfl, ?_, ?_, ?_, ?_⟩, hb.alloc hb.size _⟩
 ·rw [World.cell?_alloc_at _ _ _ _ (by simp)]; rfl
 ·rw [World.cell?_alloc_at _ _ _ _ (by simp)]; rfl
 ·rw [World.cell?_alloc_at _ _ _ _ (by simp)]; rfl
 ·exact Ft.ErrAt.stay ((Below.refl _ w1).alloc (Nat.le_refl _) _) _ _ _ hE
set_option maxHeartbeats 2000000 in
set_option maxRecDepth 100000 in
theorem wrap_calls (l : List S41) (A : Option Addr) (c : Nat) (hD : Downs l) : ∀ (k : Nat) (i : Int), i < (k : Int) → k ≤ l.length → 0 ≤ i → ∀ (w : World), Aside0 (Kd.C k41 w A l.length l) →
  Calls Tryz.prog 62 #[.slice A l.length c, .int .i64 i] w fun e w' => ∃ b, e = .returned (.iface 125 (.pointer (some ⟨b, 0, none⟩))) ∧ Ft.ErrAt w' w'.heap.size ((chainG l k i).map (linkOf l)) (.iface 125 (.pointer (some ⟨b, 0, none⟩))) ∧ Below w.heap.size w w' := by
 intro k
 induction k with
 | zero => intro i hi _ h1; omega
 | succ k ih =>
  intro i hi hk h0 w HR
  obtain ⟨ad, rfl, x0, x1, x2, x3, x4, x5⟩ := at_T41 HR.out i (by omega) (by omega)
  have hd := hD i.toNat (by omega)
  rw [show ((i.toNat : Nat) : Int) = i by omega] at hd
  have e1 : (chainG l (k + 1) i).map (linkOf l) = (i, (rd_T41 l i).f0) :: (chainG l k (rd_T41 l i).f4).map (linkOf l) := by
   rw [chainG, if_neg (by omega)]; rfl
  rw [e1]
  clear e1
  have c1 : decide (i < 0) = false := decide_eq_false (by omega)
  have hi1 : i < (l.length : Int) := by omega
  by_cases hn : (rd_T41 l i).f4 < 0
  ·have hz : (rd_T41 l i).f4 = -1 := by omega
   have e2 : chainG l k (rd_T41 l i).f4 = [] := by cases k with
    | zero => rfl
    | succ k => rw [chainG, if_pos hn]
   rw [e2]
   rw [hz] at x5
   clear ih e2 hn hz hd
   generalize (rd_T41 l i).f0 = y0 at *
   generalize (rd_T41 l i).f1 = y1 at *
   generalize (rd_T41 l i).f2.f0 = y2 at *
   generalize (rd_T41 l i).f2.f1 = y3 at *
   generalize (rd_T41 l i).f3 = y4 at *
   go_enter Tryz.func62, Tryz.ntmps62
   go_wp2
   go_region_held3 (fun w' => w'.cell? (ad.add (i.toNat * 6)) = some (.int .i64 y0) ∧ w'.cell? ⟨(ad.add (i.toNat * 6)).block, (ad.add (i.toNat * 6)).off + 1, none⟩ = some (.int .i64 y1) ∧ w'.cell? ⟨(ad.add (i.toNat * 6)).block, (ad.add (i.toNat * 6)).off + 2, none⟩ = some (.int .i64 y2) ∧ w'.cell? ⟨(ad.add (i.toNat * 6)).block, (ad.add (i.toNat * 6)).off + 3, none⟩ = some (.int .i64 y3) ∧ w'.cell? ⟨(ad.add (i.toNat * 6)).block, (ad.add (i.toNat * 6)).off + 4, none⟩ = some (.string y4) ∧ w'.cell? ⟨(ad.add (i.toNat * 6)).block, (ad.add (i.toNat * 6)).off + 5, none⟩ = some (.int .i64 (-1)))
    (first | go_keep | exact ⟨(hb.cell (World.block_lt_of_cell? w _ x0)).trans x0, (hb.cell (World.block_lt_of_cell? w _ x1)).trans x1, (hb.cell (World.block_lt_of_cell? w _ x2)).trans x2, (hb.cell (World.block_lt_of_cell? w _ x3)).trans x3, (hb.cell (World.block_lt_of_cell? w _ x4)).trans x4, (hb.cell (World.block_lt_of_cell? w _ x5)).trans x5⟩ | trivial)
    ((go_at_call 62; refine (wrap_none l (some ad) c _).mono ?_; rintro e w1 ⟨rfl, hb⟩))
   go_wp2
   go_ret
   obtain ⟨g1, g2⟩ := wrap_new w w1 i y0 y1 y2 y3 (-1) y4 .nilIface [] (((Below.refl _ w).drew).trans hb) rfl _ rfl
   exact ⟨_, rfl, g1, g2⟩
  ·have IH := ak (ih (rd_T41 l i).f4 (by omega) (by omega) (by omega))
   clear ih hn hd
   generalize (rd_T41 l i).f0 = y0 at *
   generalize (rd_T41 l i).f1 = y1 at *
   generalize (rd_T41 l i).f2.f0 = y2 at *
   generalize (rd_T41 l i).f2.f1 = y3 at *
   generalize (rd_T41 l i).f3 = y4 at *
   generalize (rd_T41 l i).f4 = y5 at *
   go_enter Tryz.func62, Tryz.ntmps62
   go_wp2
   go_region_held3 (fun w' => w'.cell? (ad.add (i.toNat * 6)) = some (.int .i64 y0) ∧ w'.cell? ⟨(ad.add (i.toNat * 6)).block, (ad.add (i.toNat * 6)).off + 1, none⟩ = some (.int .i64 y1) ∧ w'.cell? ⟨(ad.add (i.toNat * 6)).block, (ad.add (i.toNat * 6)).off + 2, none⟩ = some (.int .i64 y2) ∧ w'.cell? ⟨(ad.add (i.toNat * 6)).block, (ad.add (i.toNat * 6)).off + 3, none⟩ = some (.int .i64 y3) ∧ w'.cell? ⟨(ad.add (i.toNat * 6)).block, (ad.add (i.toNat * 6)).off + 4, none⟩ = some (.string y4) ∧ w'.cell? ⟨(ad.add (i.toNat * 6)).block, (ad.add (i.toNat * 6)).off + 5, none⟩ = some (.int .i64 y5))
    (first | go_keep | exact ⟨(hb.cell (World.block_lt_of_cell? w _ x0)).trans x0, (hb.cell (World.block_lt_of_cell? w _ x1)).trans x1, (hb.cell (World.block_lt_of_cell? w _ x2)).trans x2, (hb.cell (World.block_lt_of_cell? w _ x3)).trans x3, (hb.cell (World.block_lt_of_cell? w _ x4)).trans x4, (hb.cell (World.block_lt_of_cell? w _ x5)).trans x5⟩ | trivial)
    ((go_at_call 62; refine (IH.out _ ⟨Kd.C_drew HR.out⟩).mono ?_; rintro e w1 ⟨b, rfl, hE, hb⟩; have HE := ak hE; clear hE))
   go_wp2
   go_ret
   obtain ⟨g1, g2⟩ := wrap_new w w1 i y0 y1 y2 y3 y5 y4 _ _ (((Below.refl _ w).drew).trans hb) HE.out _ rfl
   exact ⟨_, rfl, g1, g2⟩
theorem info3_ : (Tryz.prog.info? 3).map (fun i => (i.zero, i.size, i.bytes)) = some (some (.int .i64 0), 1, 8) := by kernel_rfl
theorem frozen_new (w : World) (v : Value) (t : TypeId) : (w.alloc (.cells #[v] t)).frozen? ⟨w.heap.size, 0, none⟩ = false := by
 have h2 : (w.alloc (.cells #[v] t)).heap[w.heap.size]? = some (.cells #[v] t) := by
  show (w.heap.push (.cells #[v] t))[w.heap.size]? = _
  simp
 simp only [World.frozen?, h2]
 rfl
theorem methodPlace (a : Addr) (w : World) : (Go.method 330 125 (.pointer (some a)) "mummer/faults.place").run Tryz.prog w = .ok (170, .pointer (some a)) w := by kernel_rfl
theorem cell_heap {W W' : World} {b : Nat} (h : W'.heap[b]? = W.heap[b]?) (o : Nat) : W'.cell? ⟨b, o, none⟩ = W.cell? ⟨b, o, none⟩ := by simp only [World.cell?, h]
theorem frozen_heap {W W' : World} {b : Nat} (h : W'.heap[b]? = W.heap[b]?) (o : Nat) : W'.frozen? ⟨b, o, none⟩ = W.frozen? ⟨b, o, none⟩ := by simp only [World.frozen?, h]
/-- errors.As at a *wrapped, its doing on the world told by what stays. -/
theorem as_keep (b tb : Nat) (old : Value) (w : World) (ht0 : w.cell? ⟨tb, 0, none⟩ = some old) (hf0 : w.frozen? ⟨tb, 0, none⟩ = false) :
  Calls Tryz.prog 63 #[.iface 125 (.pointer (some ⟨b, 0, none⟩)), .iface 93 (.pointer (some ⟨tb, 0, none⟩))] w fun ev w' => ev = .returned (.bool true) ∧ w'.cell? ⟨tb, 0, none⟩ = some (.iface 125 (.pointer (some ⟨b, 0, none⟩))) ∧ w'.frozen? ⟨tb, 0, none⟩ = false ∧ KeepBut w w' tb none ∧ (∀ w0 : World, w0.heap.size ≤ tb → Below w0.heap.size w0 w → Below w0.heap.size w0 w') := by
 refine (Ft.as_hit ⟨b, 0, none⟩ ⟨tb, 0, none⟩ old w ht0 hf0).mono ?_
 rintro ev w' ⟨rfl, rfl⟩
 have htl : tb < w.heap.size := World.block_lt_of_cell? w ⟨tb, 0, none⟩ ht0
 have hk : ∀ (o1 o2 o3 o4 : Obj), KeepBut w ((((w.alloc o1).alloc o2).alloc o3).alloc o4) tb none := fun o1 o2 o3 o4 => keep_alloc (keep_alloc (keep_alloc (keep_alloc (KeepBut.refl w tb none) _) _) _) _
 unfold Ft.asW
 refine ⟨rfl, ?_, ?_, (hk _ _ _ _).set_ 0 _, fun w0 h0 hb => ?_⟩
 ·refine World.cell?_setCell_same' _ _ _ ?_
  rw [World.cell?_alloc_lt _ _ _ (by simp; omega), World.cell?_alloc_lt _ _ _ (by simp; omega), World.cell?_alloc_lt _ _ _ (by simp; omega), World.cell?_alloc_lt _ _ _ htl, ht0]
  rfl
 ·rw [World.frozen?_setCell, World.frozen?_alloc_old _ _ _ (by simp; omega), World.frozen?_alloc_old _ _ _ (by simp; omega), World.frozen?_alloc_old _ _ _ (by simp; omega), World.frozen?_alloc_old _ _ _ (Nat.ne_of_lt htl)]
  exact hf0
 ·have h4 : ∀ (o1 o2 o3 o4 : Obj), Below w0.heap.size w0 ((((w.alloc o1).alloc o2).alloc o3).alloc o4) := fun o1 o2 o3 o4 => wA (wA (wA (wA hb _) _) _) _
  exact (h4 _ _ _ _).setCell (p := ⟨tb, 0, none⟩) h0 _
def faults_Chain.f (k : Nat) (l0 : List S41) (a1 : Int) : Option (List Int × Int) := (faults_known.f k l0 a1).bind fun e => if e = 0 then (if downsB l0 = true ∧ 0 ≤ a1 ∧ a1 < (l0.length : Int) ∧ l0.length ≤ 100 then some (chainG l0 l0.length a1, 0) else none) else some ([], e)
theorem own_row {α : Type} {d : Kd α} {e base N : Nat} {W : World} {v : Value} {xs : List α} (h : d.R e W base (fun k_ => N ≤ k_) v xs) : v.ownBlock = none ∨ ∃ b, v.ownBlock = some b ∧ N ≤ b := by
 cases hv : v.ownBlock with
 | none => exact .inl rfl
 | some b => exact .inr ⟨b, rfl, h.1 b hv⟩
theorem chainG_len (l : List S41) : ∀ (k : Nat) (i : Int), (chainG l k i).length ≤ k
 | 0, _ => Nat.le_refl _
 | k + 1, i => by
  unfold chainG
  split
  ·simp
  ·simp only [List.length_cons]; exact Nat.succ_le_succ (chainG_len l k _)
set_option maxHeartbeats 4000000 in
set_option maxRecDepth 100000 in
theorem faults_Chain.calls (k : Nat) (A0 : Option Addr) (c0 : Nat) (l0 : List S41) (a1 : Int) (r1 : List Int) (r2 : Int) (w : World) (hr0 : Kd.C k41 w A0 l0.length l0) (hc0 : l0.length ≤ c0) (h : faults_Chain.f k l0 a1 = some (r1, r2)) (HT : Aside0 (Ft.All w)) :
  Calls Tryz.prog 26 #[.slice A0 l0.length c0, .int .i64 a1] w fun e w' => ∃ v0_ : Value, e = .returned (.tuple #[v0_, .int .i64 r2]) ∧ Kd.R (Kd.int .i64) 3 w' w.heap.size (fun _ => True) v0_ r1 ∧ Below w.heap.size w w' := by
 unfold faults_Chain.f at h
 obtain ⟨e, hk, h⟩ := Option.bind_eq_some_iff.mp h
 have HK := ak hk
 have HR := ak hr0
 by_cases he : e = 0
 case neg =>
  rw [if_neg he] at h
  cases h
  have z1 : (r2 != 0) = true := bne_iff_ne.mpr he
  have z2 : (r2 == 0) = false := beq_eq_false_iff_ne.mpr he
  clear hk hr0
  go_enter Tryz.func26, Tryz.ntmps26
  go_wp2_with (first
   | (go_at_call 61; refine ( faults_known.calls k A0 c0 l0 a1 r2 w HR.out hc0 HK.out HT).mono ?_; rintro e w1 ⟨rfl, hb1⟩))
  go_ret2
  exact ⟨_, rfl, Kd.R_nil _ _ _ _ _, hb1⟩
 subst he
 rw [if_pos rfl] at h
 by_cases hc : downsB l0 = true ∧ 0 ≤ a1 ∧ a1 < (l0.length : Int) ∧ l0.length ≤ 100
 case neg => rw [if_neg hc] at h; cases h
 rw [if_pos hc] at h
 cases h
 obtain ⟨hd, h0, h1, hl⟩ := hc
 have HW := ak (fun w => wrap_calls l0 A0 c0 (downs_of hd) l0.length a1 h1 (Nat.le_refl _) h0 w)
 have HL := ak (Nat.le_trans (chainG_len l0 l0.length a1) hl)
 have mP := methodPlace
 have mU := Ft.methodUnwrap
 clear hk hr0 hd
 go_enter Tryz.func26, Tryz.ntmps26
 go_wp2_with (first
  | (go_at_call 61; refine ( faults_known.calls k A0 c0 l0 a1 0 w HR.out hc0 HK.out HT).mono ?_; rintro e w1 ⟨rfl, hb1⟩)
  | (go_at_call 62; refine (HW.out _ ⟨Kd.C_alloc (Kd.C_below HR.out hb1) _⟩).mono ?_; rintro e w2 ⟨b, rfl, hE, hb2⟩))
 have hnil : w2.cell? ⟨w1.heap.size, 0, none⟩ = some .nilIface := (hb2.cell (p := ⟨w1.heap.size, 0, none⟩) (by simp)).trans (by rw [World.cell?_alloc_at _ _ _ _ rfl]; rfl)
 have hfr : w2.frozen? ⟨w1.heap.size, 0, none⟩ = false := (frozen_heap (hb2.block w1.heap.size (by simp)) 0).trans (frozen_new _ _ _)
 have hB2 : Below w.heap.size w w2 := (wA hb1 _).trans (hb2.mono (by simp; have := hb1.size; omega))
 have hsz : w.heap.size ≤ w1.heap.size := hb1.size
 have hlt : w1.heap.size < w2.heap.size := World.block_lt_of_cell? w2 _ hnil
 obtain ⟨T, hT⟩ : ∃ T, w1.heap.size = T := ⟨_, rfl⟩
 have htm : ((chainG l0 l0.length a1).map (linkOf l0)).map (·.1) = chainG l0 l0.length a1 := by rw [List.map_map]; exact List.map_id'' (fun _ => rfl) _
 have HTM := ak htm
 have HN := ak (show ((chainG l0 l0.length a1).map (linkOf l0)).length ≤ 100 by rw [List.length_map]; exact HL.out)
 simp only [World.size_alloc, hT] at hnil hfr hlt hsz ⊢
 generalize (chainG l0 l0.length a1).map (linkOf l0) = R0 at hE HTM HN ⊢
 obtain ⟨C0, hC0⟩ : ∃ C0, chainG l0 l0.length a1 = C0 := ⟨_, rfl⟩
 rw [hC0] at HTM HL
 have HC0 := ak hC0
 clear hC0
 have HE := ak hE
 have HNil := ak hnil
 have HFr := ak hfr
 have HB2 := ak hB2
 clear hE hnil hfr hB2 hb2 hb1 hT HW HR HK HT htm HL h
 go_loopg [7, 9] R0.length (fun gh v7 v9 wr => ∃ (xs : List Int) (rest : List (Int × Int)) (m : Nat) (old : Value), Aside0 (Ft.ErrAt w2 m rest v9) ∧ Aside0 (xs ++ rest.map (·.1) = C0) ∧ gh = rest.length ∧ Aside0 (xs.length + rest.length ≤ 100) ∧ Aside0 (KeepBut w2 wr T none) ∧ Aside0 (Kd.R (Kd.int .i64) 3 wr w.heap.size (fun k_ => w2.heap.size ≤ k_) v7 xs) ∧ Aside0 (Below w.heap.size w wr) ∧ Aside0 (wr.cell? ⟨T, 0, none⟩ = some old) ∧ Aside0 (wr.frozen? ⟨T, 0, none⟩ = false))
 case atStart => exact ⟨[], R0, _, _, HE, HTM, rfl, by simpa using HN, ⟨KeepBut.refl _ _ _⟩, ⟨Kd.R_nil _ _ _ _ _⟩, HB2, HNil, HFr⟩
 case round =>
  obtain ⟨xs, rest, m, old, HE1, HX, rfl, HL, HK, HO, HB, HC, HF⟩ := hrel
  clear HE HB2 HTM HN
  cases rest with
  | nil =>
   obtain rfl : _ = Value.nilIface := HE1.out
   go_wp2_with (go_at_call 63; refine (Ft.as_nil _ _).mono ?_; rintro e w3 ⟨rfl, rfl⟩)
   go_ret2
   have e1 : xs = C0 := by have := HX.out; simpa using this
   rw [HC0.out, ← e1]
   exact ⟨_, rfl, Kd.R_mono HO.out (fun _ _ => trivial), HB.out⟩
  | cons x rest =>
   obtain ⟨p, d⟩ := x
   obtain ⟨b2, u, g1, rfl, g2, g3, g4, g5⟩ := HE1.out
   have hbt : b2 ≠ T := fun e => by subst e; have h3 := HNil.out; simp only at g2; rw [g2] at h3; cases h3
   have hbl : b2 < w2.heap.size := World.block_lt_of_cell? w2 ⟨b2, 0, none⟩ g2
   have HA := ak (as_keep b2 T old wr HC.out HF.out)
   simp only at g3
   have G3 := ak g3
   have G4 := ak g4
   have G5 := ak g5
   have HBT := ak hbt
   have HU : Aside0 (u = .nilIface ∨ ∃ e, u = .iface 125 (.pointer (some e))) := ⟨by
    cases rest with
    | nil => exact .inl g5
    | cons y rest => obtain ⟨b3, u3, _, h3, _⟩ := g5; exact .inr ⟨_, h3⟩⟩
   clear g1 g2 g3 g4 g5 HE1 HC HF hbt
   have LM := ak (show xs.length < 101 by have := HL.out; simp at this; omega)
   go_wp2_with (first
    | ((with_reducible refine gate_builtin (b := .append) (xs := #[.tmp 24, .tmp 27]) rfl ?_); at_builtin; refine Kd.R_append (Kd.int .i64) (w0 := w) w.heap.size rfl (.tmp 24) (.tmp 27) 43 3 (.int .i64 0) 8 rfl Tryz.underlying43 info3_ rfl (by decide) (by omega) u7 xs p [.int .i64 p] (fun k_ => w2.heap.size ≤ k_) (fun _ => False) rfl rfl ?aP (fun _ hk => hk.elim) ?aF ?aO ?aB ?aS ?aL ?_; (case aP => exact rfl); (case aB => exact HB3.out); (case aF => exact (fun k_ hk_ => Nat.le_trans Q3.out.1 hk_)); (case aO => exact HO3.out); (case aS => exact HB3.out.size); (case aL => have := LM.out; omega); intro v302 w9 ho hb hg hat; have HO9 := ak ho; have HB9 := ak hb; have q9 := (cell_heap (hg.block T (Nat.lt_of_lt_of_le hlt Q3.out.1) (fun e_ => absurd (HO3.out.1 T e_.symm) (by omega))) 0).trans q1; have Q9 := ak ((frozen_heap (hg.block T (Nat.lt_of_lt_of_le hlt Q3.out.1) (fun e_ => absurd (HO3.out.1 T e_.symm) (by omega))) 0).trans Q2.out); have K9 := ak (Q3.out.trans (KeepBut.of_grown hg T) (own_row HO3.out)); clear ho hb hg hat q1)
    | (go_at_call 63; refine HA.out.mono ?_; rintro e w3 ⟨rfl, q1, q2, q3, q4⟩; have Q2 := ak q2; have Q3 := ak (HK.out.trans q3 (.inl rfl)); have HB3 := ak (q4 w hsz HB.out); have Q1 := ak q1; have HO3 := ak (Kd.R_keep HO.out q3 (fun k_ hk_ => by have := hlt; omega)); clear q2 q3 q4 HO HK HB)
    | (go_at_call 170; refine (Ft.place_calls b2 p _ (keep_cell Q3.out G3.out HBT.out)).mono ?_; rintro e w4 ⟨rfl, rfl⟩)
    | (go_at_call 169; refine (Ft.unwrap_calls b2 u _ (keep_cell K9.out G4.out HBT.out) HU.out).mono ?_; rintro e w10 ⟨rfl, rfl⟩))
   go_roundg rest.length
   case measure => simp
   case rel => exact ⟨xs ++ [p], rest, b2, _, G5, ⟨by have := HX.out; simpa using this⟩, rfl, ⟨by have := HL.out; simp at this ⊢; omega⟩, K9, HO9, HB9, ⟨q9⟩, Q9⟩
end Go.Proofs.YtdjkdlbokepoaaaGreatDoor.P
namespace Go.Proofs.YtdjkdlbokepoaaaGreatDoor.P
open Go.RowKit Go.Proofs.YtdjkdlbokepoaaaGreatDoorW.PrintWords Go.Proofs.YtdjkdlbokepoaaaGreatDoorW.PrintLast Go.Proofs.YtdjkdlbokepoaaaGreatDoorW.PrintMore
attribute [local go_sem] max2_int min2_int max_two min_two max_three min_three max_four min_four
set_option linter.unusedVariables false
set_option linter.unusedSimpArgs false
theorem chainG_ne (l : List S41) (k : Nat) (i : Int) (hk : 0 < k) (hi : 0 ≤ i) : chainG l k i ≠ [] := by
 cases k with
 | zero => omega
 | succ k => unfold chainG; rw [if_neg (by omega)]; simp
def faults_Has.f (k : Nat) (l0 : List S41) (a1 : Int) (a2 : Int) : Option (Bool × Int) := (faults_known.f k l0 a1).bind fun e => if e = 0 then (if downsB l0 = true ∧ 0 ≤ a1 ∧ a1 < (l0.length : Int) ∧ l0.length ≤ 100 then some ((chainG l0 l0.length a1).any (fun i => decide (a2 = (rd_T41 l0 i).f0)), 0) else none) else some (false, e)
set_option maxHeartbeats 4000000 in
set_option maxRecDepth 100000 in
theorem faults_Has.calls (k : Nat) (A0 : Option Addr) (c0 : Nat) (l0 : List S41) (a1 : Int) (a2 : Int) (r1 : Bool) (r2 : Int) (w : World) (hr0 : Kd.C k41 w A0 l0.length l0) (hc0 : l0.length ≤ c0) (h : faults_Has.f k l0 a1 a2 = some (r1, r2)) (HT : Aside0 (Ft.All w)) :
  Calls Tryz.prog 32 #[.slice A0 l0.length c0, .int .i64 a1, .int .i64 a2] w fun e w' => e = .returned (.tuple #[.bool r1, .int .i64 r2]) ∧ Below w.heap.size w w' := by
 unfold faults_Has.f at h
 obtain ⟨e, hk, h⟩ := Option.bind_eq_some_iff.mp h
 have HK := ak hk
 have HR := ak hr0
 by_cases he : e = 0
 case neg =>
  rw [if_neg he] at h
  cases h
  have z1 : (r2 != 0) = true := bne_iff_ne.mpr he
  have z2 : (r2 == 0) = false := beq_eq_false_iff_ne.mpr he
  clear hk hr0
  go_enter Tryz.func32, Tryz.ntmps32
  go_wp2_with (first
   | (go_at_call 61; refine ( faults_known.calls k A0 c0 l0 a1 r2 w HR.out hc0 HK.out HT).mono ?_; rintro e w1 ⟨rfl, hb1⟩))
  go_ret2
  exact ⟨rfl, hb1⟩
 subst he
 rw [if_pos rfl] at h
 by_cases hc : downsB l0 = true ∧ 0 ≤ a1 ∧ a1 < (l0.length : Int) ∧ l0.length ≤ 100
 case neg => rw [if_neg hc] at h; cases h
 rw [if_pos hc] at h
 obtain ⟨hd, h0, h1, hl⟩ := hc
 have e1 : r1 = ((chainG l0 l0.length a1).map (linkOf l0)).any (fun x => decide (a2 = x.2)) := by
  rw [List.any_map]
  exact (congrArg Prod.fst (Option.some.inj h)).symm
 have e2 : r2 = 0 := (congrArg Prod.snd (Option.some.inj h)).symm
 subst e2
 have HW := ak (fun w => wrap_calls l0 A0 c0 (downs_of hd) l0.length a1 h1 (Nat.le_refl _) h0 w)
 have HN : Aside0 ((chainG l0 l0.length a1).map (linkOf l0) ≠ []) := ⟨by
  intro e3
  exact chainG_ne l0 l0.length a1 (by omega) h0 (List.map_eq_nil_iff.1 e3)⟩
 rw [e1]
 generalize (chainG l0 l0.length a1).map (linkOf l0) = R0 at HW HN ⊢
 generalize hA : (R0.any fun x => decide (a2 = x.2)) = ans
 have HA := ak hA
 clear hk hr0 hd h e1 hA
 go_enter Tryz.func32, Tryz.ntmps32
 go_wp2_with (first
  | (go_at_call 61; refine ( faults_known.calls k A0 c0 l0 a1 0 w HR.out hc0 HK.out HT).mono ?_; rintro e w1 ⟨rfl, hb1⟩; have HB1 := ak hb1; clear hb1)
  | (go_at_call 62; refine (HW.out _ ⟨Kd.C_below HR.out HB1.out⟩).mono ?_; rintro e w2 ⟨b, rfl, hE, hb2⟩; have HE := ak hE; have HB2 := ak (HB1.out.trans (hb2.mono HB1.out.size)); clear hE hb2)
  | (go_at_call 66; refine (Ft.Is_calls R0 _ _ a2 _ HN.out HE.out).mono ?_; rintro e w3 ⟨rfl, hb3⟩; have HB3 := ak (HB2.out.trans (hb3.mono HB2.out.size)); rw [HA.out]; clear hb3))
 go_ret2
 exact ⟨rfl, HB3.out⟩
end Go.Proofs.YtdjkdlbokepoaaaGreatDoor.P
namespace Go.Proofs.YtdjkdlbokepoaaaGreatDoor.P
open Go.RowKit Go.Proofs.YtdjkdlbokepoaaaGreatDoorW.PrintWords Go.Proofs.YtdjkdlbokepoaaaGreatDoorW.PrintLast Go.Proofs.YtdjkdlbokepoaaaGreatDoorW.PrintMore
attribute [local go_sem] max2_int min2_int max_two min_two max_three min_three max_four min_four
set_option linter.unusedVariables false
set_option linter.unusedSimpArgs false
def mummerref04_Ints.l0 : Nat → List Int → List Int → Int → Option (Bool)
 | 0, _, _, _ => none
 | k + 1, x0, x1, x5 => if x5 < (x0.length : Int) then (if 0 ≤ x5 then (if x5 < (x1.length : Int) then (if (rd x0 x5) = (rd x1 x5) then (mummerref04_Ints.l0 k x0 x1 (wrap64 (x5 + 1))) else (some false)) else (none)) else (none)) else (some true)
def mummerref04_Ints.f (k : Nat) (l0 : List Int) (l1 : List Int) : Option (Bool) := if (l0.length : Int) = (l1.length : Int) then (mummerref04_Ints.l0 k l0 l1 0) else (some false)
set_option maxHeartbeats 8000000 in
set_option maxRecDepth 100000 in
theorem mummerref04_Ints.calls (k : Nat) (A0 : Option Addr) (c0 : Nat) (l0 : List Int) (A1 : Option Addr) (c1 : Nat) (l1 : List Int) (r : Bool) (w : World) (hr0 : Kd.C (Kd.int .i64) w A0 l0.length l0) (hc0 : l0.length ≤ c0) (hr1 : Kd.C (Kd.int .i64) w A1 l1.length l1) (hc1 : l1.length ≤ c1) (h : mummerref04_Ints.f k l0 l1 = some r) :
  Calls Tryz.prog 34 #[.slice A0 l0.length c0, .slice A1 l1.length c1] w fun e w' => e = .returned (.bool r) ∧ Drawn0 w w' := by
 have HR0 := ak hr0
 have HC0 := ak hc0
 clear hr0 hc0
 have HR1 := ak hr1
 have HC1 := ak hc1
 clear hr1 hc1
 have H : (if (l0.length : Int) = (l1.length : Int) then (mummerref04_Ints.l0 k l0 l1 0) else (some false)) = some r := h
 clear h
 by_cases c3 : (l0.length : Int) = (l1.length : Int)
 ·rw [if_pos c3] at H
  have c3b0 : ((l0.length : Int) == (l1.length : Int)) = true := beq_iff_eq.mpr c3
  have c3b1 : ((l0.length : Int) != (l1.length : Int)) = false := bne_eq_false_iff_eq.mpr c3
  have c3b2 : (l0.length == l1.length) = true := by first | simpa using c3 | (simp at c3 ⊢; omega)
  clear c3
  have H' := ak H
  clear H
  go_enter Tryz.func34, Tryz.ntmps34
  go_wp2
  repeat (go_quiet (fail); try go_wp2)
  go_loopg [5] k (fun kq v5 w' => ∃ (x5_1 : Int), v5 = .int .i64 x5_1 ∧ Aside0 (mummerref04_Ints.l0 kq l0 l1 x5_1 = some r) ∧ Aside0 (kq ≤ k) ∧ Drawn0 w w')
  case atStart => exact ⟨(0), (by first | rfl | (simp; done) | (simp [*]; done)), H', ⟨Nat.le_refl _⟩, by repeat (first | exact Drawn0.refl _ | apply Drawn0.step)⟩
  case round =>
   clear H'
   try clear c1
   try clear p2
   try clear c3
   try clear c3b0
   try clear c3b1
   try clear c3b2
   obtain ⟨x5_1, rfl, HA, HK1, ⟨m1, rfl⟩⟩ := hrel
   cases gk with
   | zero => exact absurd HA.out (by simp [mummerref04_Ints.l0])
   | succ k1 =>
    have H := HA.out
    clear HA
    simp only [mummerref04_Ints.l0] at H
    by_cases c4 : x5_1 < (l0.length : Int)
    ·rw [if_pos c4] at H
     have c4b0 : decide (x5_1 < (l0.length : Int)) = true := decide_eq_true c4
     clear c4
     by_cases c5 : 0 ≤ x5_1
     ·rw [if_pos c5] at H
      have c5b0 : decide (0 ≤ x5_1) = true := decide_eq_true c5
      clear c5
      by_cases c6 : x5_1 < (l1.length : Int)
      ·rw [if_pos c6] at H
       have c6b0 : decide (x5_1 < (l1.length : Int)) = true := decide_eq_true c6
       clear c6
       by_cases c7 : (rd l0 x5_1) = (rd l1 x5_1)
       ·rw [if_pos c7] at H
        have c7b0 : ((rd l0 x5_1) == (rd l1 x5_1)) = true := beq_iff_eq.mpr c7
        have c7b1 : ((rd l0 x5_1) != (rd l1 x5_1)) = false := bne_eq_false_iff_eq.mpr c7
        clear c7
        have H' := ak H
        clear H
        have p155 : 0 ≤ (x5_1 : Int) := of_decide_eq_true (by first | (with_reducible assumption) | assumption)
        have q155 : x5_1 < (l0.length : Int) := of_decide_eq_true (by first | (with_reducible assumption) | assumption)
        obtain ⟨ad155, e155, hx155_0⟩ := Kd.at_int HR0.out x5_1 p155 q155
        cases e155
        replace p155 := eq_true p155
        replace q155 := eq_true q155
        have p156 : 0 ≤ (x5_1 : Int) := of_decide_eq_true (by first | (with_reducible assumption) | assumption)
        have q156 : x5_1 < (l1.length : Int) := of_decide_eq_true (by first | (with_reducible assumption) | assumption)
        obtain ⟨ad156, e156, hx156_0⟩ := Kd.at_int HR1.out x5_1 p156 q156
        cases e156
        replace p156 := eq_true p156
        replace q156 := eq_true q156
        go_wp2
        repeat (go_quiet (fail); try go_wp2)
        go_roundg k1
        case measure => have := HK1.out; omega
        case rel => exact ⟨(wrap64 (x5_1 + 1)), (by first | rfl | (simp; done) | (simp [*]; done)), H', ⟨by have := HK1.out; omega⟩, by repeat (first | exact Drawn0.refl _ | apply Drawn0.step)⟩
       ·rw [if_neg c7] at H
        have c7b0 : ((rd l0 x5_1) == (rd l1 x5_1)) = false := beq_eq_false_iff_ne.mpr c7
        have c7b1 : ((rd l0 x5_1) != (rd l1 x5_1)) = true := bne_iff_ne.mpr c7
        obtain rfl := Option.some.inj H
        have p155 : 0 ≤ (x5_1 : Int) := of_decide_eq_true (by first | (with_reducible assumption) | assumption)
        have q155 : x5_1 < (l0.length : Int) := of_decide_eq_true (by first | (with_reducible assumption) | assumption)
        obtain ⟨ad155, e155, hx155_0⟩ := Kd.at_int HR0.out x5_1 p155 q155
        cases e155
        replace p155 := eq_true p155
        replace q155 := eq_true q155
        have p156 : 0 ≤ (x5_1 : Int) := of_decide_eq_true (by first | (with_reducible assumption) | assumption)
        have q156 : x5_1 < (l1.length : Int) := of_decide_eq_true (by first | (with_reducible assumption) | assumption)
        obtain ⟨ad156, e156, hx156_0⟩ := Kd.at_int HR1.out x5_1 p156 q156
        cases e156
        replace p156 := eq_true p156
        replace q156 := eq_true q156
        go_wp2
        repeat (go_quiet (fail); try go_wp2)
        go_ret
        exact ⟨by first | rfl | (simp; done) | (simp [*]; done), by repeat (first | exact Drawn0.refl _ | apply Drawn0.step)⟩
      ·rw [if_neg c6] at H
       exact absurd H (by simp)
     ·rw [if_neg c5] at H
      exact absurd H (by simp)
    ·rw [if_neg c4] at H
     have c4b0 : decide (x5_1 < (l0.length : Int)) = false := decide_eq_false c4
     clear c4
     obtain rfl := Option.some.inj H
     go_wp2
     repeat (go_quiet (fail); try go_wp2)
     go_ret
     exact ⟨by first | rfl | (simp; done) | (simp [*]; done), by repeat (first | exact Drawn0.refl _ | apply Drawn0.step)⟩
 ·rw [if_neg c3] at H
  have c3b0 : ((l0.length : Int) == (l1.length : Int)) = false := beq_eq_false_iff_ne.mpr c3
  have c3b1 : ((l0.length : Int) != (l1.length : Int)) = true := bne_iff_ne.mpr c3
  have c3b2 : (l0.length == l1.length) = false := by first | simpa using c3 | (simp at c3 ⊢; omega)
  obtain rfl := Option.some.inj H
  go_enter Tryz.func34, Tryz.ntmps34
  go_wp2
  repeat (go_quiet (fail); try go_wp2)
  go_ret
  exact ⟨by first | rfl | (simp; done) | (simp [*]; done), by repeat (first | exact Drawn0.refl _ | apply Drawn0.step)⟩
end Go.Proofs.YtdjkdlbokepoaaaGreatDoor.P
namespace Go.Proofs.YtdjkdlbokepoaaaGreatDoor.P
open Go.RowKit Go.Proofs.YtdjkdlbokepoaaaGreatDoorW.PrintWords Go.Proofs.YtdjkdlbokepoaaaGreatDoorW.PrintLast Go.Proofs.YtdjkdlbokepoaaaGreatDoorW.PrintMore
attribute [local go_sem] max2_int min2_int max_two min_two max_three min_three max_four min_four
set_option linter.unusedVariables false
set_option linter.unusedSimpArgs false
def mummerlaw08_Text.f : Option (List Int) := some [97, 98, 195, 169, 10, 99, 100]
theorem text_reads (w : World) (m : Nat × Nat) : Kd.C (Kd.int .u8) (w.alloc (.cells #[.int .u8 97, .int .u8 98, .int .u8 195, .int .u8 169, .int .u8 10, .int .u8 99, .int .u8 100] 5 m)) (some ⟨w.heap.size, 0, none⟩) 7 [97, 98, 195, 169, 10, 99, 100] := by
 refine Kd.C_of_reads (enc := fun n => Value.int .u8 n) (d := 0) ⟨rfl, by omega, fun _ => ⟨_, rfl, fun j hj => ?_⟩⟩
 rw [Addr.add_lit, Nat.zero_add]
 have h2 : (w.alloc (.cells #[.int .u8 97, .int .u8 98, .int .u8 195, .int .u8 169, .int .u8 10, .int .u8 99, .int .u8 100] 5 m)).heap[w.heap.size]? = some (.cells #[.int .u8 97, .int .u8 98, .int .u8 195, .int .u8 169, .int .u8 10, .int .u8 99, .int .u8 100] 5 m) := by
  show (w.heap.push _)[w.heap.size]? = _
  simp
 simp only [World.cell?, h2]
 match j, hj with
 | 0, _ => rfl
 | 1, _ => rfl
 | 2, _ => rfl
 | 3, _ => rfl
 | 4, _ => rfl
 | 5, _ => rfl
 | 6, _ => rfl
set_option maxRecDepth 100000 in
set_option maxHeartbeats 1000000 in
theorem mummerlaw08_Text.calls (r : List Int) (w : World) (h : mummerlaw08_Text.f = some r) :
  Calls Tryz.prog 41 #[] w fun e w' => ∃ v0_ : Value, e = .returned (v0_) ∧ Ft.Cv w' v0_ r ∧ Below w.heap.size w w' := by
 have kc := fun (w : World) (C : Array Value) (n c : Nat) => Lib.run_convert_bytes_const (P := Tryz.prog) w 29 5 C n c Tryz.underlying29 Tryz.underlying5
 unfold mummerlaw08_Text.f at h
 cases h
 go_enter Tryz.func41, Tryz.ntmps41
 go_wp2
 go_ret
 exact ⟨_, rfl, ⟨_, 7, rfl, Nat.le_refl _, text_reads w _⟩, (Below.refl _ w).alloc (Nat.le_refl _) _⟩
def mummerlaw08_Example.f  : Option ((List (S41))) := some (([(⟨10, 3, (⟨2, 4⟩ : S39), (⟨#[120]⟩ : ByteArray), (-1)⟩ : S41), (⟨14, 3, (⟨5, 7⟩ : S39), (⟨#[]⟩ : ByteArray), 0⟩ : S41)] : List (S41)))
set_option maxHeartbeats 8000000 in
set_option maxRecDepth 100000 in
theorem mummerlaw08_Example.calls  (r : List (S41)) (w : World) (h : mummerlaw08_Example.f  = some r) :
  Calls Tryz.prog 42 #[] w fun e w' => ∃ v0_ : Value, e = .returned (v0_) ∧ Kd.R k41 41 w' w.heap.size (fun _ => True) v0_ r ∧ Below w.heap.size w w' := by
 have hu39 := Tryz.underlying39
 have hu41 := Tryz.underlying41
 have HB := ak (Below.refl w.heap.size w)
 have H : (some (([(⟨10, 3, (⟨2, 4⟩ : S39), (⟨#[120]⟩ : ByteArray), (-1)⟩ : S41), (⟨14, 3, (⟨5, 7⟩ : S39), (⟨#[]⟩ : ByteArray), 0⟩ : S41)] : List (S41)))) = some r := h
 clear h
 obtain ⟨y157, hy157⟩ : ∃ y_ : List (S41), y_ = (([(⟨10, 3, (⟨2, 4⟩ : S39), (⟨#[120]⟩ : ByteArray), (-1)⟩ : S41), (⟨14, 3, (⟨5, 7⟩ : S39), (⟨#[]⟩ : ByteArray), 0⟩ : S41)] : List (S41))) := ⟨_, rfl⟩
 replace H : (some y157) = some r := by first | (rw [hy157]; with_reducible exact H) | (have H2_ := (Option.bind_some _ _).symm.trans H; rw [hy157]; with_reducible exact H2_) | (have H2_ := (Option.bind_some _ _).symm.trans H; with_reducible exact H2_) | with_reducible exact H | (rw [hy157]; exact H) | exact H
 have Ny157 := ak hy157
 clear hy157
 obtain rfl := Option.some.inj H
 go_enter Tryz.func42, Tryz.ntmps42
 go_wp2_with (first | ((with_reducible refine gate_dst (N := 5) rfl ?_); refine Kd.R_lit k41 _ 41 ?hg (N := 5) ?hd (xs := ([(⟨10, 3, (⟨2, 4⟩ : S39), (⟨#[120]⟩ : ByteArray), (-1)⟩ : S41), (⟨14, 3, (⟨5, 7⟩ : S39), (⟨#[]⟩ : ByteArray), 0⟩ : S41)] : List (S41))) (inner := [.int .i64 10, .int .i64 3, .int .i64 2, .int .i64 4, .string (⟨#[120]⟩ : ByteArray), .int .i64 (-1), .int .i64 14, .int .i64 3, .int .i64 5, .int .i64 7, .string (⟨#[]⟩ : ByteArray), .int .i64 0]) (ok := fun _ => True) (okp := fun _ => True) ?hr ?hp (fun _ hk => hk) trivial (Below.refl _ _) (Nat.le_refl _) (by simp) ?_; (case hd => rfl); (case hg => rfl); (case hr => first | (go_simp; done) | (go_simp; rfl)); (case hp => exact (Reps.c6 (show Kd.M k41 _ _ _ (⟨10, 3, (⟨2, 4⟩ : S39), (⟨#[120]⟩ : ByteArray), (-1)⟩ : S41) [.int .i64 10, .int .i64 3, .int .i64 2, .int .i64 4, .string (⟨#[120]⟩ : ByteArray), .int .i64 (-1)] from (k41_mkM _ _ _ (⟨10, 3, (⟨2, 4⟩ : S39), (⟨#[120]⟩ : ByteArray), (-1)⟩ : S41) )) (Reps.c6 (show Kd.M k41 _ _ _ (⟨14, 3, (⟨5, 7⟩ : S39), (⟨#[]⟩ : ByteArray), 0⟩ : S41) [.int .i64 14, .int .i64 3, .int .i64 5, .int .i64 7, .string (⟨#[]⟩ : ByteArray), .int .i64 0] from (k41_mkM _ _ _ (⟨14, 3, (⟨5, 7⟩ : S39), (⟨#[]⟩ : ByteArray), 0⟩ : S41) )) (Reps.none _ _)))); intro v158 w1 ho2 hb hg_ hnew_; clear hg_ hnew_; (first | rw [← Ny157.out] at ho2 | (simp only [Int.reduceToNat] at ho2; rw [← Ny157.out] at ho2)); have n0_ := ak (Kd.R_lower ho2 (below_size (by repeat (first | (with_reducible first | exact HB.out | apply wA | apply wN | apply wD) | exact HB.out)))); have n1_ := ak (below_step (by repeat (first | (with_reducible first | exact HB.out | apply wA | apply wN | apply wD) | exact HB.out)) hb); clear HB; have HO159 := n0_; have HB := n1_; clear n0_ n1_; clear hb ho2))
 go_ret
 exact ⟨_, by first | rfl | (simp [errW_none, errW_some] <;> rfl) | (simp [*, errW_none, errW_some] <;> rfl), by (with_reducible repeat (first | apply Kd.R_alloc | apply Kd.R_drewN | apply Kd.R_drew)); exact HO159.out, by repeat (first | (with_reducible first | exact HB.out | apply wA | apply wN | apply wD) | exact HB.out)⟩
def mummerlaw08_shown.f : Option Bool := some true
def shT : List Int := [97, 98, 195, 169, 10, 99, 100]
def shE : List S41 := [⟨10, 3, ⟨2, 4⟩, ⟨#[120]⟩, -1⟩, ⟨14, 3, ⟨5, 7⟩, ⟨#[]⟩, 0⟩]
def shM : ByteArray := ⟨#[49, 58, 51, 58, 32, 101, 120, 112, 97, 110, 100, 58, 32, 117, 110, 98, 111, 117, 110, 100, 32, 120]⟩
def shP : ByteArray := ⟨#[50, 58, 49, 58, 32, 101, 120, 112, 97, 110, 100, 58, 32, 109, 97, 116, 99, 104, 10, 32, 32, 99, 100, 10, 32, 32, 94, 94, 10, 49, 58, 51, 58, 32, 101, 120, 112, 97, 110, 100, 58, 32, 117, 110, 98, 111, 117, 110, 100, 32, 120, 10, 32, 32, 97, 98, 195, 169, 10, 32, 32, 32, 32, 94, 10]⟩
theorem sh_place : faults_Place.f 60 shT 5 = some (2, 1, 0) := by decide +kernel
theorem sh_message : faults_Message.f 60 shT 10 3 2 4 ⟨#[120]⟩ (-1) = some (shM, 0) := by decide +kernel
theorem sh_picture : faults_Picture.f 60 shT shE 1 = some (shP, 0) := by decide +kernel
theorem sh_chain : faults_Chain.f 60 shE 1 = some ([1, 0], 0) := by decide +kernel
theorem sh_has : faults_Has.f 60 shE 1 10 = some (true, 0) := by decide +kernel
theorem sh_ints : mummerref04_Ints.f 60 [1, 0] [1, 0] = some true := by decide +kernel
theorem sh_lit (w : World) : Kd.C (Kd.int .i64) (w.alloc (.cells #[.int .i64 1, .int .i64 0] 3)) (some ⟨w.heap.size, 0, none⟩) ([1, 0] : List Int).length [1, 0] := by
 refine Kd.C_of_reads (enc := fun n => Value.int .i64 n) (d := 0) ⟨rfl, by decide, fun _ => ⟨_, rfl, fun j hj => ?_⟩⟩
 rw [Addr.add_lit, Nat.zero_add]
 have h2 : (w.alloc (.cells #[.int .i64 1, .int .i64 0] 3)).heap[w.heap.size]? = some (.cells #[.int .i64 1, .int .i64 0] 3) := by
  show (w.heap.push _)[w.heap.size]? = _
  simp
 simp only [World.cell?, h2]
 match j, hj with
 | 0, _ => rfl
 | 1, _ => rfl
theorem addr_zero (a : Addr) : a.add (Int.toNat 0 * 6) = a := by
 obtain ⟨b, o, s⟩ := a
 cases s <;> simp [Addr.add]
theorem sh_first {w : World} {A : Option Addr} (h : Kd.C k41 w A shE.length shE) : ∃ ad, A = some ad ∧ w.cell? ad = some (.int .i64 10) ∧ w.cell? ⟨ad.block, ad.off + 1, none⟩ = some (.int .i64 3) ∧ w.cell? ⟨ad.block, ad.off + 2, none⟩ = some (.int .i64 2) ∧ w.cell? ⟨ad.block, ad.off + 3, none⟩ = some (.int .i64 4) ∧ w.cell? ⟨ad.block, ad.off + 4, none⟩ = some (.string ⟨#[120]⟩) ∧ w.cell? ⟨ad.block, ad.off + 5, none⟩ = some (.int .i64 (-1)) := by
 obtain ⟨ad, e, x0, x1, x2, x3, x4, x5⟩ := at_T41 h 0 (by decide) (by decide)
 rw [addr_zero] at x0 x1 x2 x3 x4 x5
 exact ⟨ad, e, x0, x1, x2, x3, x4, x5⟩
set_option maxHeartbeats 8000000 in
set_option maxRecDepth 100000 in
theorem mummerlaw08_shown.calls (r : Bool) (w : World) (hrt : Aside0 (r = true)) (h : mummerlaw08_shown.f = some r) (HT : Aside0 (Ft.All w)) :
  Calls Tryz.prog 12 #[] w fun e w' => e = .returned (.bool r) ∧ Below w.heap.size w w' := by
 unfold mummerlaw08_shown.f at h
 cases h
 clear hrt
 have HB := ak (Below.refl w.heap.size w)
 have hl2 : shE.length = 2 := rfl
 have hl7 : shT.length = 7 := rfl
 have hM : shM.toList = [49, 58, 51, 58, 32, 101, 120, 112, 97, 110, 100, 58, 32, 117, 110, 98, 111, 117, 110, 100, 32, 120] := by decide +kernel
 have hP : shP.toList = [50, 58, 49, 58, 32, 101, 120, 112, 97, 110, 100, 58, 32, 109, 97, 116, 99, 104, 10, 32, 32, 99, 100, 10, 32, 32, 94, 94, 10, 49, 58, 51, 58, 32, 101, 120, 112, 97, 110, 100, 58, 32, 117, 110, 98, 111, 117, 110, 100, 32, 120, 10, 32, 32, 97, 98, 195, 169, 10, 32, 32, 32, 32, 94, 10] := by decide +kernel
 go_enter Tryz.func12, Tryz.ntmps12
 go_wp2_with (first
  | (go_at_call 41; refine (mummerlaw08_Text.calls shT _ rfl).mono ?_; rintro e wt ⟨vt, rfl, ⟨At, ct, rfl, hct, hCt⟩, hb⟩; have n_ := ak (HB.out.trans (hb.mono HB.out.size)); clear HB; have HB := n_; clear n_ hb; (try clear HCT HCc); have HCT := ak hCt; have HCc := ak hct; clear hCt hct)
  | (go_at_call 15; refine ( faults_Place.calls 60 At ct shT 5 2 1 0 _ HCT.out HCc.out sh_place ⟨HT.out.stay HB.out⟩).mono ?_; rintro e wp ⟨rfl, hb⟩; have n_ := ak (HB.out.trans (hb.mono HB.out.size)); clear HB; have HB := n_; clear n_ hb)
  | (go_at_call 42; refine (mummerlaw08_Example.calls shE _ rfl).mono ?_; rintro e we ⟨ve, rfl, hR, hb⟩; have n_ := ak (HB.out.trans (hb.mono HB.out.size)); clear HB; have HB := n_; clear n_; (try (have n_ := ak (Kd.C_below HCT.out hb); clear HCT; have HCT := n_; clear n_)); (try (have n_ := ak (Kd.C_below HCL.out hb); clear HCL; have HCL := n_; clear n_)); clear hb; obtain ⟨Ae, ce, rfl, hce, hCe⟩ := Kd.R_reads hR; clear hR; (try clear HCE HEc); have HCE := ak hCe; have HEc := ak hce; obtain ⟨ad, rfl, x0, x1, x2, x3, x4, x5⟩ := sh_first hCe; clear hCe hce)
  | (go_at_call 23; refine ( faults_Message.calls 60 At ct shT 10 3 2 4 ⟨#[120]⟩ (-1) shM 0 _ HCT.out HCc.out sh_message ⟨HT.out.stay HB.out⟩).mono ?_; rintro e wm ⟨rfl, hb⟩; have n_ := ak (HB.out.trans (hb.mono HB.out.size)); clear HB; have HB := n_; clear n_ hb)
  | (go_at_call 21; refine ( faults_Picture.calls 60 At ct shT _ ce shE 1 shP 0 _ HCT.out HCc.out HCE.out HEc.out sh_picture ⟨HT.out.stay HB.out⟩).mono ?_; rintro e wq ⟨rfl, hb⟩; have n_ := ak (HB.out.trans (hb.mono HB.out.size)); clear HB; have HB := n_; clear n_ hb)
  | (go_at_call 26; refine ( faults_Chain.calls 60 _ ce shE 1 [1, 0] 0 _ HCE.out HEc.out sh_chain ⟨HT.out.stay HB.out⟩).mono ?_; rintro e wc ⟨vl, rfl, hR, hb⟩; have n_ := ak (HB.out.trans (hb.mono HB.out.size)); clear HB; have HB := n_; clear n_ hb; obtain ⟨Al, cl, rfl, hcl, hCl⟩ := Kd.R_reads hR; clear hR; have HCL := ak hCl; have HLc := ak hcl; clear hCl hcl)
  | (go_at_call 32; refine ( faults_Has.calls 60 _ ce shE 1 10 true 0 _ HCE.out HEc.out sh_has ⟨HT.out.stay HB.out⟩).mono ?_; rintro e wh ⟨rfl, hb⟩; have n_ := ak (HB.out.trans (hb.mono HB.out.size)); clear HB; have HB := n_; clear n_; have n_ := ak (Kd.C_below HCL.out hb); clear HCL; have HCL := n_; clear n_ hb)
  | (go_at_call 34; refine (mummerref04_Ints.calls 60 Al cl [1, 0] _ 2 [1, 0] true _ (Kd.C_alloc HCL.out _) HLc.out (sh_lit _) (Nat.le_refl _) sh_ints).mono ?_; rintro e wi ⟨rfl, hd⟩; have HBi := ak (by obtain ⟨n, rfl⟩ := hd.out; exact wN (wA HB.out _) n : Below w.heap.size w wi); clear hd))
 go_ret
 exact ⟨rfl, HBi.out⟩
end Go.Proofs.YtdjkdlbokepoaaaGreatDoor.P
namespace Go.Proofs.YtdjkdlbokepoaaaGreatDoor.P
open Go.RowKit Go.Proofs.YtdjkdlbokepoaaaGreatDoorW.PrintWords Go.Proofs.YtdjkdlbokepoaaaGreatDoorW.PrintLast Go.Proofs.YtdjkdlbokepoaaaGreatDoorW.PrintMore
attribute [local go_sem] max2_int min2_int max_two min_two max_three min_three max_four min_four
set_option linter.unusedVariables false
set_option linter.unusedSimpArgs false
theorem name_world {P : Program} {c : Code} {Q : Exit → Act → World → Prop} {a : Act} {w : World} (F : World → Prop) (h : F w) (k : ∀ W, F W → Code.wp P c Q a W) : Code.wp P c Q a w := k w h
theorem fit32 {n : Int} (h : -2147483648 ≤ n) (h' : n ≤ 2147483647) : IntKind.i32.wrap n = n := by rw [i32_w]; unfold wrap32; omega
set_option maxHeartbeats 8000000 in
set_option maxRecDepth 100000 in
theorem num1_lo (A0 : Option Addr) (c0 : Nat) (a : Int) (w : World) (hr0 : Kd.C (Kd.int .u8) w A0 1 [a]) (hc0 : 1 ≤ c0) (ha : 0 ≤ a ∧ a < 256) (p0 : a < 128) :
  Calls Tryz.prog 118 #[.slice A0 1 c0] w fun e w' => e = .returned (.int .i32 (a)) ∧ Below w.heap.size w w' := by
 have HB := ak (Below.refl w.heap.size w)
 obtain ⟨ad, e0, hx0⟩ := Kd.at_int hr0 0 (by decide) (by decide)
 subst e0
 have hx0 : w.cell? ad = some (.int .u8 a) := by have h := hx0; simpa [rd, Addr.add] using h
 have hw_a := fit32 (n := a) (by omega) (by omega)
 have q0 := decide_eq_true p0
 go_enter Tryz.func118, Tryz.ntmps118
 go_upto_region 3 with (first | ((with_reducible refine gate_dst (N := 4) rfl ?_); refine box_event ?hg (N := 4) ?hd (cs := #[.int .i32 0, .int .i32 0, .int .i32 0, .int .i32 0, .int .i32 0]) (t := 194) ?hr ?_; (case hd => rfl); (case hg => rfl); (case hr => first | (go_simp; done) | (go_simp; rfl)); intro gb hg w5 hbox hb; have n0_ := ak (below_step (by repeat (first | (with_reducible first | exact HB.out | apply wA | apply wN | apply wD) | exact HB.out)) hb); have n1_ := ak (hbox); have n3_ := ak ((by rw [hg]; exact (below_size (by repeat (first | (with_reducible first | exact HB.out | apply wA | apply wN | apply wD) | exact HB.out))) : w.heap.size ≤ gb)); clear HB; have HB := n0_; have BK := n1_; have GE := n3_; clear n0_ n1_ n3_; clear hb hbox hg; have hcz_0 : w5.cell? ⟨gb, 0, none⟩ = some (.int .i32 0) := (blk_cell BK.out 0).trans rfl; have hcz_1 : w5.cell? ⟨gb, 1, none⟩ = some (.int .i32 0) := (blk_cell BK.out 1).trans rfl; have hcz_2 : w5.cell? ⟨gb, 2, none⟩ = some (.int .i32 0) := (blk_cell BK.out 2).trans rfl; have hcz_3 : w5.cell? ⟨gb, 3, none⟩ = some (.int .i32 0) := (blk_cell BK.out 3).trans rfl; have hcz_4 : w5.cell? ⟨gb, 4, none⟩ = some (.int .i32 0) := (blk_cell BK.out 4).trans rfl; have hfz_0 := blk_frozen BK.out 0; have hfz_1 := blk_frozen BK.out 1; have hfz_2 := blk_frozen BK.out 2; have hfz_3 := blk_frozen BK.out 3; have hfz_4 := blk_frozen BK.out 4))
 refine name_world (fun W => W.heap[gb]? = some (.cells #[.int .i32 0, .int .i32 0, .int .i32 192, .int .i32 224, .int .i32 240] 194 (0, 0)) ∧ Below w.heap.size w W) ⟨?bk, ?be⟩ (fun W ⟨BKW, HBW⟩ => ?_)
 case bk => (with_reducible repeat (first | refine bN ?_ _ | refine bD ?_ | refine bA ?_ _)); refine blk_put (cs := #[.int .i32 0, .int .i32 0, .int .i32 192, .int .i32 224, .int .i32 0]) ?_ 4 _ rfl; (with_reducible repeat (first | refine bN ?_ _ | refine bD ?_ | refine bA ?_ _)); refine blk_put (cs := #[.int .i32 0, .int .i32 0, .int .i32 192, .int .i32 0, .int .i32 0]) ?_ 3 _ rfl; (with_reducible repeat (first | refine bN ?_ _ | refine bD ?_ | refine bA ?_ _)); refine blk_put (cs := #[.int .i32 0, .int .i32 0, .int .i32 0, .int .i32 0, .int .i32 0]) ?_ 2 _ rfl; (with_reducible repeat (first | refine bN ?_ _ | refine bD ?_ | refine bA ?_ _)); refine blk_put (cs := #[.int .i32 0, .int .i32 0, .int .i32 0, .int .i32 0, .int .i32 0]) ?_ 1 _ rfl; (with_reducible repeat (first | refine bN ?_ _ | refine bD ?_ | refine bA ?_ _)); refine blk_put (cs := #[.int .i32 0, .int .i32 0, .int .i32 0, .int .i32 0, .int .i32 0]) ?_ 0 _ rfl; (with_reducible repeat (first | refine bN ?_ _ | refine bD ?_ | refine bA ?_ _)); exact BK.out
 case be => repeat (first | (with_reducible first | exact HB.out | apply wA | apply wN | apply wD | refine below_set ?_ GE.out) | exact HB.out)
 have hk2 : W.cell? ⟨gb, 2, none⟩ = some (.int .i32 192) := (blk_cell BKW 2).trans rfl
 have hk3 : W.cell? ⟨gb, 3, none⟩ = some (.int .i32 224) := (blk_cell BKW 3).trans rfl
 have hk4 : W.cell? ⟨gb, 4, none⟩ = some (.int .i32 240) := (blk_cell BKW 4).trans rfl
 have hxW0 := (HBW.cell (World.block_lt_of_cell? w _ hx0)).trans hx0
 clear HB BK
 go_wp2
 refine wp_loop_rounds 4 ?_
 rw [rounds_succ]
 go_wp2
 rw [rounds_succ]
 go_wp2
 rw [rounds_succ]
 go_wp2
 rw [rounds_succ]
 go_wp2
 go_ret
 exact ⟨by first | rfl | (simp [*] <;> rfl), HBW⟩
set_option maxHeartbeats 8000000 in
set_option maxRecDepth 100000 in
theorem num1_hi (A0 : Option Addr) (c0 : Nat) (a : Int) (w : World) (hr0 : Kd.C (Kd.int .u8) w A0 1 [a]) (hc0 : 1 ≤ c0) (ha : 0 ≤ a ∧ a < 256) (p0 : ¬ a < 128) :
  Calls Tryz.prog 118 #[.slice A0 1 c0] w fun e w' => e = .returned (.int .i32 (-1)) ∧ Below w.heap.size w w' := by
 have HB := ak (Below.refl w.heap.size w)
 obtain ⟨ad, e0, hx0⟩ := Kd.at_int hr0 0 (by decide) (by decide)
 subst e0
 have hx0 : w.cell? ad = some (.int .u8 a) := by have h := hx0; simpa [rd, Addr.add] using h
 have hw_a := fit32 (n := a) (by omega) (by omega)
 have q0 := decide_eq_false p0
 go_enter Tryz.func118, Tryz.ntmps118
 go_upto_region 3 with (first | ((with_reducible refine gate_dst (N := 4) rfl ?_); refine box_event ?hg (N := 4) ?hd (cs := #[.int .i32 0, .int .i32 0, .int .i32 0, .int .i32 0, .int .i32 0]) (t := 194) ?hr ?_; (case hd => rfl); (case hg => rfl); (case hr => first | (go_simp; done) | (go_simp; rfl)); intro gb hg w5 hbox hb; have n0_ := ak (below_step (by repeat (first | (with_reducible first | exact HB.out | apply wA | apply wN | apply wD) | exact HB.out)) hb); have n1_ := ak (hbox); have n3_ := ak ((by rw [hg]; exact (below_size (by repeat (first | (with_reducible first | exact HB.out | apply wA | apply wN | apply wD) | exact HB.out))) : w.heap.size ≤ gb)); clear HB; have HB := n0_; have BK := n1_; have GE := n3_; clear n0_ n1_ n3_; clear hb hbox hg; have hcz_0 : w5.cell? ⟨gb, 0, none⟩ = some (.int .i32 0) := (blk_cell BK.out 0).trans rfl; have hcz_1 : w5.cell? ⟨gb, 1, none⟩ = some (.int .i32 0) := (blk_cell BK.out 1).trans rfl; have hcz_2 : w5.cell? ⟨gb, 2, none⟩ = some (.int .i32 0) := (blk_cell BK.out 2).trans rfl; have hcz_3 : w5.cell? ⟨gb, 3, none⟩ = some (.int .i32 0) := (blk_cell BK.out 3).trans rfl; have hcz_4 : w5.cell? ⟨gb, 4, none⟩ = some (.int .i32 0) := (blk_cell BK.out 4).trans rfl; have hfz_0 := blk_frozen BK.out 0; have hfz_1 := blk_frozen BK.out 1; have hfz_2 := blk_frozen BK.out 2; have hfz_3 := blk_frozen BK.out 3; have hfz_4 := blk_frozen BK.out 4))
 refine name_world (fun W => W.heap[gb]? = some (.cells #[.int .i32 0, .int .i32 0, .int .i32 192, .int .i32 224, .int .i32 240] 194 (0, 0)) ∧ Below w.heap.size w W) ⟨?bk, ?be⟩ (fun W ⟨BKW, HBW⟩ => ?_)
 case bk => (with_reducible repeat (first | refine bN ?_ _ | refine bD ?_ | refine bA ?_ _)); refine blk_put (cs := #[.int .i32 0, .int .i32 0, .int .i32 192, .int .i32 224, .int .i32 0]) ?_ 4 _ rfl; (with_reducible repeat (first | refine bN ?_ _ | refine bD ?_ | refine bA ?_ _)); refine blk_put (cs := #[.int .i32 0, .int .i32 0, .int .i32 192, .int .i32 0, .int .i32 0]) ?_ 3 _ rfl; (with_reducible repeat (first | refine bN ?_ _ | refine bD ?_ | refine bA ?_ _)); refine blk_put (cs := #[.int .i32 0, .int .i32 0, .int .i32 0, .int .i32 0, .int .i32 0]) ?_ 2 _ rfl; (with_reducible repeat (first | refine bN ?_ _ | refine bD ?_ | refine bA ?_ _)); refine blk_put (cs := #[.int .i32 0, .int .i32 0, .int .i32 0, .int .i32 0, .int .i32 0]) ?_ 1 _ rfl; (with_reducible repeat (first | refine bN ?_ _ | refine bD ?_ | refine bA ?_ _)); refine blk_put (cs := #[.int .i32 0, .int .i32 0, .int .i32 0, .int .i32 0, .int .i32 0]) ?_ 0 _ rfl; (with_reducible repeat (first | refine bN ?_ _ | refine bD ?_ | refine bA ?_ _)); exact BK.out
 case be => repeat (first | (with_reducible first | exact HB.out | apply wA | apply wN | apply wD | refine below_set ?_ GE.out) | exact HB.out)
 have hk2 : W.cell? ⟨gb, 2, none⟩ = some (.int .i32 192) := (blk_cell BKW 2).trans rfl
 have hk3 : W.cell? ⟨gb, 3, none⟩ = some (.int .i32 224) := (blk_cell BKW 3).trans rfl
 have hk4 : W.cell? ⟨gb, 4, none⟩ = some (.int .i32 240) := (blk_cell BKW 4).trans rfl
 have hxW0 := (HBW.cell (World.block_lt_of_cell? w _ hx0)).trans hx0
 clear HB BK
 go_wp2
 refine wp_loop_rounds 4 ?_
 rw [rounds_succ]
 go_wp2
 rw [rounds_succ]
 go_wp2
 rw [rounds_succ]
 go_wp2
 rw [rounds_succ]
 go_wp2
 go_ret
 exact ⟨by first | rfl | (simp [*] <;> rfl), HBW⟩
set_option maxHeartbeats 8000000 in
set_option maxRecDepth 100000 in
theorem num2_below (A0 : Option Addr) (c0 : Nat) (a b : Int) (w : World) (hr0 : Kd.C (Kd.int .u8) w A0 2 [a, b]) (hc0 : 2 ≤ c0) (ha : 0 ≤ a ∧ a < 256) (hb : 0 ≤ b ∧ b < 256) (p0 : a < 192) :
  Calls Tryz.prog 118 #[.slice A0 2 c0] w fun e w' => e = .returned (.int .i32 (-1)) ∧ Below w.heap.size w w' := by
 have HB := ak (Below.refl w.heap.size w)
 obtain ⟨ad, e0, hx0⟩ := Kd.at_int hr0 0 (by decide) (by decide)
 subst e0
 have hx0 : w.cell? ad = some (.int .u8 a) := by have h := hx0; simpa [rd, Addr.add] using h
 obtain ⟨ad1, e1, hx1⟩ := Kd.at_int hr0 1 (by decide) (by decide)
 obtain rfl := Option.some.inj e1
 have hx1 : w.cell? ⟨ad.block, ad.off + 1, none⟩ = some (.int .u8 b) := by have h := hx1; simpa [rd, Addr.add] using h
 have hw_a := fit32 (n := a) (by omega) (by omega)
 have hw_b := fit32 (n := b) (by omega) (by omega)
 have q0 := decide_eq_true p0
 have z0 := fit32 (n := a - 192) (by omega) (by omega)
 go_enter Tryz.func118, Tryz.ntmps118
 go_upto_region 3 with (first | ((with_reducible refine gate_dst (N := 4) rfl ?_); refine box_event ?hg (N := 4) ?hd (cs := #[.int .i32 0, .int .i32 0, .int .i32 0, .int .i32 0, .int .i32 0]) (t := 194) ?hr ?_; (case hd => rfl); (case hg => rfl); (case hr => first | (go_simp; done) | (go_simp; rfl)); intro gb hg w5 hbox hb; have n0_ := ak (below_step (by repeat (first | (with_reducible first | exact HB.out | apply wA | apply wN | apply wD) | exact HB.out)) hb); have n1_ := ak (hbox); have n3_ := ak ((by rw [hg]; exact (below_size (by repeat (first | (with_reducible first | exact HB.out | apply wA | apply wN | apply wD) | exact HB.out))) : w.heap.size ≤ gb)); clear HB; have HB := n0_; have BK := n1_; have GE := n3_; clear n0_ n1_ n3_; clear hb hbox hg; have hcz_0 : w5.cell? ⟨gb, 0, none⟩ = some (.int .i32 0) := (blk_cell BK.out 0).trans rfl; have hcz_1 : w5.cell? ⟨gb, 1, none⟩ = some (.int .i32 0) := (blk_cell BK.out 1).trans rfl; have hcz_2 : w5.cell? ⟨gb, 2, none⟩ = some (.int .i32 0) := (blk_cell BK.out 2).trans rfl; have hcz_3 : w5.cell? ⟨gb, 3, none⟩ = some (.int .i32 0) := (blk_cell BK.out 3).trans rfl; have hcz_4 : w5.cell? ⟨gb, 4, none⟩ = some (.int .i32 0) := (blk_cell BK.out 4).trans rfl; have hfz_0 := blk_frozen BK.out 0; have hfz_1 := blk_frozen BK.out 1; have hfz_2 := blk_frozen BK.out 2; have hfz_3 := blk_frozen BK.out 3; have hfz_4 := blk_frozen BK.out 4))
 refine name_world (fun W => W.heap[gb]? = some (.cells #[.int .i32 0, .int .i32 0, .int .i32 192, .int .i32 224, .int .i32 240] 194 (0, 0)) ∧ Below w.heap.size w W) ⟨?bk, ?be⟩ (fun W ⟨BKW, HBW⟩ => ?_)
 case bk => (with_reducible repeat (first | refine bN ?_ _ | refine bD ?_ | refine bA ?_ _)); refine blk_put (cs := #[.int .i32 0, .int .i32 0, .int .i32 192, .int .i32 224, .int .i32 0]) ?_ 4 _ rfl; (with_reducible repeat (first | refine bN ?_ _ | refine bD ?_ | refine bA ?_ _)); refine blk_put (cs := #[.int .i32 0, .int .i32 0, .int .i32 192, .int .i32 0, .int .i32 0]) ?_ 3 _ rfl; (with_reducible repeat (first | refine bN ?_ _ | refine bD ?_ | refine bA ?_ _)); refine blk_put (cs := #[.int .i32 0, .int .i32 0, .int .i32 0, .int .i32 0, .int .i32 0]) ?_ 2 _ rfl; (with_reducible repeat (first | refine bN ?_ _ | refine bD ?_ | refine bA ?_ _)); refine blk_put (cs := #[.int .i32 0, .int .i32 0, .int .i32 0, .int .i32 0, .int .i32 0]) ?_ 1 _ rfl; (with_reducible repeat (first | refine bN ?_ _ | refine bD ?_ | refine bA ?_ _)); refine blk_put (cs := #[.int .i32 0, .int .i32 0, .int .i32 0, .int .i32 0, .int .i32 0]) ?_ 0 _ rfl; (with_reducible repeat (first | refine bN ?_ _ | refine bD ?_ | refine bA ?_ _)); exact BK.out
 case be => repeat (first | (with_reducible first | exact HB.out | apply wA | apply wN | apply wD | refine below_set ?_ GE.out) | exact HB.out)
 have hk2 : W.cell? ⟨gb, 2, none⟩ = some (.int .i32 192) := (blk_cell BKW 2).trans rfl
 have hk3 : W.cell? ⟨gb, 3, none⟩ = some (.int .i32 224) := (blk_cell BKW 3).trans rfl
 have hk4 : W.cell? ⟨gb, 4, none⟩ = some (.int .i32 240) := (blk_cell BKW 4).trans rfl
 have hxW0 := (HBW.cell (World.block_lt_of_cell? w _ hx0)).trans hx0
 have hxW1 := (HBW.cell (World.block_lt_of_cell? w _ hx1)).trans hx1
 clear HB BK
 go_wp2
 refine wp_loop_rounds 4 ?_
 rw [rounds_succ]
 go_wp2
 rw [rounds_succ]
 go_wp2
 rw [rounds_succ]
 go_wp2
 rw [rounds_succ]
 go_wp2
 go_ret
 exact ⟨by first | rfl | (simp [*] <;> rfl), HBW⟩
set_option maxHeartbeats 8000000 in
set_option maxRecDepth 100000 in
theorem num2_above (A0 : Option Addr) (c0 : Nat) (a b : Int) (w : World) (hr0 : Kd.C (Kd.int .u8) w A0 2 [a, b]) (hc0 : 2 ≤ c0) (ha : 0 ≤ a ∧ a < 256) (hb : 0 ≤ b ∧ b < 256) (p0 : ¬ a < 192) (p1 : 224 ≤ a) :
  Calls Tryz.prog 118 #[.slice A0 2 c0] w fun e w' => e = .returned (.int .i32 (-1)) ∧ Below w.heap.size w w' := by
 have HB := ak (Below.refl w.heap.size w)
 obtain ⟨ad, e0, hx0⟩ := Kd.at_int hr0 0 (by decide) (by decide)
 subst e0
 have hx0 : w.cell? ad = some (.int .u8 a) := by have h := hx0; simpa [rd, Addr.add] using h
 obtain ⟨ad1, e1, hx1⟩ := Kd.at_int hr0 1 (by decide) (by decide)
 obtain rfl := Option.some.inj e1
 have hx1 : w.cell? ⟨ad.block, ad.off + 1, none⟩ = some (.int .u8 b) := by have h := hx1; simpa [rd, Addr.add] using h
 have hw_a := fit32 (n := a) (by omega) (by omega)
 have hw_b := fit32 (n := b) (by omega) (by omega)
 have q0 := decide_eq_false p0
 have q1 := decide_eq_true p1
 have z0 := fit32 (n := a - 192) (by omega) (by omega)
 go_enter Tryz.func118, Tryz.ntmps118
 go_upto_region 3 with (first | ((with_reducible refine gate_dst (N := 4) rfl ?_); refine box_event ?hg (N := 4) ?hd (cs := #[.int .i32 0, .int .i32 0, .int .i32 0, .int .i32 0, .int .i32 0]) (t := 194) ?hr ?_; (case hd => rfl); (case hg => rfl); (case hr => first | (go_simp; done) | (go_simp; rfl)); intro gb hg w5 hbox hb; have n0_ := ak (below_step (by repeat (first | (with_reducible first | exact HB.out | apply wA | apply wN | apply wD) | exact HB.out)) hb); have n1_ := ak (hbox); have n3_ := ak ((by rw [hg]; exact (below_size (by repeat (first | (with_reducible first | exact HB.out | apply wA | apply wN | apply wD) | exact HB.out))) : w.heap.size ≤ gb)); clear HB; have HB := n0_; have BK := n1_; have GE := n3_; clear n0_ n1_ n3_; clear hb hbox hg; have hcz_0 : w5.cell? ⟨gb, 0, none⟩ = some (.int .i32 0) := (blk_cell BK.out 0).trans rfl; have hcz_1 : w5.cell? ⟨gb, 1, none⟩ = some (.int .i32 0) := (blk_cell BK.out 1).trans rfl; have hcz_2 : w5.cell? ⟨gb, 2, none⟩ = some (.int .i32 0) := (blk_cell BK.out 2).trans rfl; have hcz_3 : w5.cell? ⟨gb, 3, none⟩ = some (.int .i32 0) := (blk_cell BK.out 3).trans rfl; have hcz_4 : w5.cell? ⟨gb, 4, none⟩ = some (.int .i32 0) := (blk_cell BK.out 4).trans rfl; have hfz_0 := blk_frozen BK.out 0; have hfz_1 := blk_frozen BK.out 1; have hfz_2 := blk_frozen BK.out 2; have hfz_3 := blk_frozen BK.out 3; have hfz_4 := blk_frozen BK.out 4))
 refine name_world (fun W => W.heap[gb]? = some (.cells #[.int .i32 0, .int .i32 0, .int .i32 192, .int .i32 224, .int .i32 240] 194 (0, 0)) ∧ Below w.heap.size w W) ⟨?bk, ?be⟩ (fun W ⟨BKW, HBW⟩ => ?_)
 case bk => (with_reducible repeat (first | refine bN ?_ _ | refine bD ?_ | refine bA ?_ _)); refine blk_put (cs := #[.int .i32 0, .int .i32 0, .int .i32 192, .int .i32 224, .int .i32 0]) ?_ 4 _ rfl; (with_reducible repeat (first | refine bN ?_ _ | refine bD ?_ | refine bA ?_ _)); refine blk_put (cs := #[.int .i32 0, .int .i32 0, .int .i32 192, .int .i32 0, .int .i32 0]) ?_ 3 _ rfl; (with_reducible repeat (first | refine bN ?_ _ | refine bD ?_ | refine bA ?_ _)); refine blk_put (cs := #[.int .i32 0, .int .i32 0, .int .i32 0, .int .i32 0, .int .i32 0]) ?_ 2 _ rfl; (with_reducible repeat (first | refine bN ?_ _ | refine bD ?_ | refine bA ?_ _)); refine blk_put (cs := #[.int .i32 0, .int .i32 0, .int .i32 0, .int .i32 0, .int .i32 0]) ?_ 1 _ rfl; (with_reducible repeat (first | refine bN ?_ _ | refine bD ?_ | refine bA ?_ _)); refine blk_put (cs := #[.int .i32 0, .int .i32 0, .int .i32 0, .int .i32 0, .int .i32 0]) ?_ 0 _ rfl; (with_reducible repeat (first | refine bN ?_ _ | refine bD ?_ | refine bA ?_ _)); exact BK.out
 case be => repeat (first | (with_reducible first | exact HB.out | apply wA | apply wN | apply wD | refine below_set ?_ GE.out) | exact HB.out)
 have hk2 : W.cell? ⟨gb, 2, none⟩ = some (.int .i32 192) := (blk_cell BKW 2).trans rfl
 have hk3 : W.cell? ⟨gb, 3, none⟩ = some (.int .i32 224) := (blk_cell BKW 3).trans rfl
 have hk4 : W.cell? ⟨gb, 4, none⟩ = some (.int .i32 240) := (blk_cell BKW 4).trans rfl
 have hxW0 := (HBW.cell (World.block_lt_of_cell? w _ hx0)).trans hx0
 have hxW1 := (HBW.cell (World.block_lt_of_cell? w _ hx1)).trans hx1
 clear HB BK
 go_wp2
 refine wp_loop_rounds 4 ?_
 rw [rounds_succ]
 go_wp2
 rw [rounds_succ]
 go_wp2
 rw [rounds_succ]
 go_wp2
 rw [rounds_succ]
 go_wp2
 go_ret
 exact ⟨by first | rfl | (simp [*] <;> rfl), HBW⟩
set_option maxHeartbeats 8000000 in
set_option maxRecDepth 100000 in
theorem num2_lo1 (A0 : Option Addr) (c0 : Nat) (a b : Int) (w : World) (hr0 : Kd.C (Kd.int .u8) w A0 2 [a, b]) (hc0 : 2 ≤ c0) (ha : 0 ≤ a ∧ a < 256) (hb : 0 ≤ b ∧ b < 256) (p0 : ¬ a < 192) (p1 : ¬ 224 ≤ a) (p2 : b < 128) :
  Calls Tryz.prog 118 #[.slice A0 2 c0] w fun e w' => e = .returned (.int .i32 (-1)) ∧ Below w.heap.size w w' := by
 have HB := ak (Below.refl w.heap.size w)
 obtain ⟨ad, e0, hx0⟩ := Kd.at_int hr0 0 (by decide) (by decide)
 subst e0
 have hx0 : w.cell? ad = some (.int .u8 a) := by have h := hx0; simpa [rd, Addr.add] using h
 obtain ⟨ad1, e1, hx1⟩ := Kd.at_int hr0 1 (by decide) (by decide)
 obtain rfl := Option.some.inj e1
 have hx1 : w.cell? ⟨ad.block, ad.off + 1, none⟩ = some (.int .u8 b) := by have h := hx1; simpa [rd, Addr.add] using h
 have hw_a := fit32 (n := a) (by omega) (by omega)
 have hw_b := fit32 (n := b) (by omega) (by omega)
 have q0 := decide_eq_false p0
 have q1 := decide_eq_false p1
 have q2 := decide_eq_true p2
 have z0 := fit32 (n := a - 192) (by omega) (by omega)
 go_enter Tryz.func118, Tryz.ntmps118
 go_upto_region 3 with (first | ((with_reducible refine gate_dst (N := 4) rfl ?_); refine box_event ?hg (N := 4) ?hd (cs := #[.int .i32 0, .int .i32 0, .int .i32 0, .int .i32 0, .int .i32 0]) (t := 194) ?hr ?_; (case hd => rfl); (case hg => rfl); (case hr => first | (go_simp; done) | (go_simp; rfl)); intro gb hg w5 hbox hb; have n0_ := ak (below_step (by repeat (first | (with_reducible first | exact HB.out | apply wA | apply wN | apply wD) | exact HB.out)) hb); have n1_ := ak (hbox); have n3_ := ak ((by rw [hg]; exact (below_size (by repeat (first | (with_reducible first | exact HB.out | apply wA | apply wN | apply wD) | exact HB.out))) : w.heap.size ≤ gb)); clear HB; have HB := n0_; have BK := n1_; have GE := n3_; clear n0_ n1_ n3_; clear hb hbox hg; have hcz_0 : w5.cell? ⟨gb, 0, none⟩ = some (.int .i32 0) := (blk_cell BK.out 0).trans rfl; have hcz_1 : w5.cell? ⟨gb, 1, none⟩ = some (.int .i32 0) := (blk_cell BK.out 1).trans rfl; have hcz_2 : w5.cell? ⟨gb, 2, none⟩ = some (.int .i32 0) := (blk_cell BK.out 2).trans rfl; have hcz_3 : w5.cell? ⟨gb, 3, none⟩ = some (.int .i32 0) := (blk_cell BK.out 3).trans rfl; have hcz_4 : w5.cell? ⟨gb, 4, none⟩ = some (.int .i32 0) := (blk_cell BK.out 4).trans rfl; have hfz_0 := blk_frozen BK.out 0; have hfz_1 := blk_frozen BK.out 1; have hfz_2 := blk_frozen BK.out 2; have hfz_3 := blk_frozen BK.out 3; have hfz_4 := blk_frozen BK.out 4))
 refine name_world (fun W => W.heap[gb]? = some (.cells #[.int .i32 0, .int .i32 0, .int .i32 192, .int .i32 224, .int .i32 240] 194 (0, 0)) ∧ Below w.heap.size w W) ⟨?bk, ?be⟩ (fun W ⟨BKW, HBW⟩ => ?_)
 case bk => (with_reducible repeat (first | refine bN ?_ _ | refine bD ?_ | refine bA ?_ _)); refine blk_put (cs := #[.int .i32 0, .int .i32 0, .int .i32 192, .int .i32 224, .int .i32 0]) ?_ 4 _ rfl; (with_reducible repeat (first | refine bN ?_ _ | refine bD ?_ | refine bA ?_ _)); refine blk_put (cs := #[.int .i32 0, .int .i32 0, .int .i32 192, .int .i32 0, .int .i32 0]) ?_ 3 _ rfl; (with_reducible repeat (first | refine bN ?_ _ | refine bD ?_ | refine bA ?_ _)); refine blk_put (cs := #[.int .i32 0, .int .i32 0, .int .i32 0, .int .i32 0, .int .i32 0]) ?_ 2 _ rfl; (with_reducible repeat (first | refine bN ?_ _ | refine bD ?_ | refine bA ?_ _)); refine blk_put (cs := #[.int .i32 0, .int .i32 0, .int .i32 0, .int .i32 0, .int .i32 0]) ?_ 1 _ rfl; (with_reducible repeat (first | refine bN ?_ _ | refine bD ?_ | refine bA ?_ _)); refine blk_put (cs := #[.int .i32 0, .int .i32 0, .int .i32 0, .int .i32 0, .int .i32 0]) ?_ 0 _ rfl; (with_reducible repeat (first | refine bN ?_ _ | refine bD ?_ | refine bA ?_ _)); exact BK.out
 case be => repeat (first | (with_reducible first | exact HB.out | apply wA | apply wN | apply wD | refine below_set ?_ GE.out) | exact HB.out)
 have hk2 : W.cell? ⟨gb, 2, none⟩ = some (.int .i32 192) := (blk_cell BKW 2).trans rfl
 have hk3 : W.cell? ⟨gb, 3, none⟩ = some (.int .i32 224) := (blk_cell BKW 3).trans rfl
 have hk4 : W.cell? ⟨gb, 4, none⟩ = some (.int .i32 240) := (blk_cell BKW 4).trans rfl
 have hxW0 := (HBW.cell (World.block_lt_of_cell? w _ hx0)).trans hx0
 have hxW1 := (HBW.cell (World.block_lt_of_cell? w _ hx1)).trans hx1
 clear HB BK
 go_wp2
 refine wp_loop_rounds 4 ?_
 rw [rounds_succ]
 go_wp2
 refine wp_loop_rounds 4 ?_
 rw [rounds_succ]
 go_wp2
 go_ret
 exact ⟨by first | rfl | (simp [*] <;> rfl), HBW⟩
set_option maxHeartbeats 8000000 in
set_option maxRecDepth 100000 in
theorem num2_hi1 (A0 : Option Addr) (c0 : Nat) (a b : Int) (w : World) (hr0 : Kd.C (Kd.int .u8) w A0 2 [a, b]) (hc0 : 2 ≤ c0) (ha : 0 ≤ a ∧ a < 256) (hb : 0 ≤ b ∧ b < 256) (p0 : ¬ a < 192) (p1 : ¬ 224 ≤ a) (p2 : ¬ b < 128) (p3 : 192 ≤ b) :
  Calls Tryz.prog 118 #[.slice A0 2 c0] w fun e w' => e = .returned (.int .i32 (-1)) ∧ Below w.heap.size w w' := by
 have HB := ak (Below.refl w.heap.size w)
 obtain ⟨ad, e0, hx0⟩ := Kd.at_int hr0 0 (by decide) (by decide)
 subst e0
 have hx0 : w.cell? ad = some (.int .u8 a) := by have h := hx0; simpa [rd, Addr.add] using h
 obtain ⟨ad1, e1, hx1⟩ := Kd.at_int hr0 1 (by decide) (by decide)
 obtain rfl := Option.some.inj e1
 have hx1 : w.cell? ⟨ad.block, ad.off + 1, none⟩ = some (.int .u8 b) := by have h := hx1; simpa [rd, Addr.add] using h
 have hw_a := fit32 (n := a) (by omega) (by omega)
 have hw_b := fit32 (n := b) (by omega) (by omega)
 have q0 := decide_eq_false p0
 have q1 := decide_eq_false p1
 have q2 := decide_eq_false p2
 have q3 := decide_eq_true p3
 have z0 := fit32 (n := a - 192) (by omega) (by omega)
 go_enter Tryz.func118, Tryz.ntmps118
 go_upto_region 3 with (first | ((with_reducible refine gate_dst (N := 4) rfl ?_); refine box_event ?hg (N := 4) ?hd (cs := #[.int .i32 0, .int .i32 0, .int .i32 0, .int .i32 0, .int .i32 0]) (t := 194) ?hr ?_; (case hd => rfl); (case hg => rfl); (case hr => first | (go_simp; done) | (go_simp; rfl)); intro gb hg w5 hbox hb; have n0_ := ak (below_step (by repeat (first | (with_reducible first | exact HB.out | apply wA | apply wN | apply wD) | exact HB.out)) hb); have n1_ := ak (hbox); have n3_ := ak ((by rw [hg]; exact (below_size (by repeat (first | (with_reducible first | exact HB.out | apply wA | apply wN | apply wD) | exact HB.out))) : w.heap.size ≤ gb)); clear HB; have HB := n0_; have BK := n1_; have GE := n3_; clear n0_ n1_ n3_; clear hb hbox hg; have hcz_0 : w5.cell? ⟨gb, 0, none⟩ = some (.int .i32 0) := (blk_cell BK.out 0).trans rfl; have hcz_1 : w5.cell? ⟨gb, 1, none⟩ = some (.int .i32 0) := (blk_cell BK.out 1).trans rfl; have hcz_2 : w5.cell? ⟨gb, 2, none⟩ = some (.int .i32 0) := (blk_cell BK.out 2).trans rfl; have hcz_3 : w5.cell? ⟨gb, 3, none⟩ = some (.int .i32 0) := (blk_cell BK.out 3).trans rfl; have hcz_4 : w5.cell? ⟨gb, 4, none⟩ = some (.int .i32 0) := (blk_cell BK.out 4).trans rfl; have hfz_0 := blk_frozen BK.out 0; have hfz_1 := blk_frozen BK.out 1; have hfz_2 := blk_frozen BK.out 2; have hfz_3 := blk_frozen BK.out 3; have hfz_4 := blk_frozen BK.out 4))
 refine name_world (fun W => W.heap[gb]? = some (.cells #[.int .i32 0, .int .i32 0, .int .i32 192, .int .i32 224, .int .i32 240] 194 (0, 0)) ∧ Below w.heap.size w W) ⟨?bk, ?be⟩ (fun W ⟨BKW, HBW⟩ => ?_)
 case bk => (with_reducible repeat (first | refine bN ?_ _ | refine bD ?_ | refine bA ?_ _)); refine blk_put (cs := #[.int .i32 0, .int .i32 0, .int .i32 192, .int .i32 224, .int .i32 0]) ?_ 4 _ rfl; (with_reducible repeat (first | refine bN ?_ _ | refine bD ?_ | refine bA ?_ _)); refine blk_put (cs := #[.int .i32 0, .int .i32 0, .int .i32 192, .int .i32 0, .int .i32 0]) ?_ 3 _ rfl; (with_reducible repeat (first | refine bN ?_ _ | refine bD ?_ | refine bA ?_ _)); refine blk_put (cs := #[.int .i32 0, .int .i32 0, .int .i32 0, .int .i32 0, .int .i32 0]) ?_ 2 _ rfl; (with_reducible repeat (first | refine bN ?_ _ | refine bD ?_ | refine bA ?_ _)); refine blk_put (cs := #[.int .i32 0, .int .i32 0, .int .i32 0, .int .i32 0, .int .i32 0]) ?_ 1 _ rfl; (with_reducible repeat (first | refine bN ?_ _ | refine bD ?_ | refine bA ?_ _)); refine blk_put (cs := #[.int .i32 0, .int .i32 0, .int .i32 0, .int .i32 0, .int .i32 0]) ?_ 0 _ rfl; (with_reducible repeat (first | refine bN ?_ _ | refine bD ?_ | refine bA ?_ _)); exact BK.out
 case be => repeat (first | (with_reducible first | exact HB.out | apply wA | apply wN | apply wD | refine below_set ?_ GE.out) | exact HB.out)
 have hk2 : W.cell? ⟨gb, 2, none⟩ = some (.int .i32 192) := (blk_cell BKW 2).trans rfl
 have hk3 : W.cell? ⟨gb, 3, none⟩ = some (.int .i32 224) := (blk_cell BKW 3).trans rfl
 have hk4 : W.cell? ⟨gb, 4, none⟩ = some (.int .i32 240) := (blk_cell BKW 4).trans rfl
 have hxW0 := (HBW.cell (World.block_lt_of_cell? w _ hx0)).trans hx0
 have hxW1 := (HBW.cell (World.block_lt_of_cell? w _ hx1)).trans hx1
 clear HB BK
 go_wp2
 refine wp_loop_rounds 4 ?_
 rw [rounds_succ]
 go_wp2
 refine wp_loop_rounds 4 ?_
 rw [rounds_succ]
 go_wp2
 go_ret
 exact ⟨by first | rfl | (simp [*] <;> rfl), HBW⟩
set_option maxHeartbeats 8000000 in
set_option maxRecDepth 100000 in
theorem num2_all (A0 : Option Addr) (c0 : Nat) (a b : Int) (w : World) (hr0 : Kd.C (Kd.int .u8) w A0 2 [a, b]) (hc0 : 2 ≤ c0) (ha : 0 ≤ a ∧ a < 256) (hb : 0 ≤ b ∧ b < 256) (p0 : ¬ a < 192) (p1 : ¬ 224 ≤ a) (p2 : ¬ b < 128) (p3 : ¬ 192 ≤ b) :
  Calls Tryz.prog 118 #[.slice A0 2 c0] w fun e w' => e = .returned (.int .i32 ((64 * (a - 192) + b - 128))) ∧ Below w.heap.size w w' := by
 have HB := ak (Below.refl w.heap.size w)
 obtain ⟨ad, e0, hx0⟩ := Kd.at_int hr0 0 (by decide) (by decide)
 subst e0
 have hx0 : w.cell? ad = some (.int .u8 a) := by have h := hx0; simpa [rd, Addr.add] using h
 obtain ⟨ad1, e1, hx1⟩ := Kd.at_int hr0 1 (by decide) (by decide)
 obtain rfl := Option.some.inj e1
 have hx1 : w.cell? ⟨ad.block, ad.off + 1, none⟩ = some (.int .u8 b) := by have h := hx1; simpa [rd, Addr.add] using h
 have hw_a := fit32 (n := a) (by omega) (by omega)
 have hw_b := fit32 (n := b) (by omega) (by omega)
 have q0 := decide_eq_false p0
 have q1 := decide_eq_false p1
 have q2 := decide_eq_false p2
 have q3 := decide_eq_false p3
 have z0 := fit32 (n := a - 192) (by omega) (by omega)
 have z1a := fit32 (n := 64 * (a - 192)) (by omega) (by omega)
 have z1b := fit32 (n := 64 * (a - 192) + b) (by omega) (by omega)
 have z1c := fit32 (n := 64 * (a - 192) + b - 128) (by omega) (by omega)
 go_enter Tryz.func118, Tryz.ntmps118
 go_upto_region 3 with (first | ((with_reducible refine gate_dst (N := 4) rfl ?_); refine box_event ?hg (N := 4) ?hd (cs := #[.int .i32 0, .int .i32 0, .int .i32 0, .int .i32 0, .int .i32 0]) (t := 194) ?hr ?_; (case hd => rfl); (case hg => rfl); (case hr => first | (go_simp; done) | (go_simp; rfl)); intro gb hg w5 hbox hb; have n0_ := ak (below_step (by repeat (first | (with_reducible first | exact HB.out | apply wA | apply wN | apply wD) | exact HB.out)) hb); have n1_ := ak (hbox); have n3_ := ak ((by rw [hg]; exact (below_size (by repeat (first | (with_reducible first | exact HB.out | apply wA | apply wN | apply wD) | exact HB.out))) : w.heap.size ≤ gb)); clear HB; have HB := n0_; have BK := n1_; have GE := n3_; clear n0_ n1_ n3_; clear hb hbox hg; have hcz_0 : w5.cell? ⟨gb, 0, none⟩ = some (.int .i32 0) := (blk_cell BK.out 0).trans rfl; have hcz_1 : w5.cell? ⟨gb, 1, none⟩ = some (.int .i32 0) := (blk_cell BK.out 1).trans rfl; have hcz_2 : w5.cell? ⟨gb, 2, none⟩ = some (.int .i32 0) := (blk_cell BK.out 2).trans rfl; have hcz_3 : w5.cell? ⟨gb, 3, none⟩ = some (.int .i32 0) := (blk_cell BK.out 3).trans rfl; have hcz_4 : w5.cell? ⟨gb, 4, none⟩ = some (.int .i32 0) := (blk_cell BK.out 4).trans rfl; have hfz_0 := blk_frozen BK.out 0; have hfz_1 := blk_frozen BK.out 1; have hfz_2 := blk_frozen BK.out 2; have hfz_3 := blk_frozen BK.out 3; have hfz_4 := blk_frozen BK.out 4))
 refine name_world (fun W => W.heap[gb]? = some (.cells #[.int .i32 0, .int .i32 0, .int .i32 192, .int .i32 224, .int .i32 240] 194 (0, 0)) ∧ Below w.heap.size w W) ⟨?bk, ?be⟩ (fun W ⟨BKW, HBW⟩ => ?_)
 case bk => (with_reducible repeat (first | refine bN ?_ _ | refine bD ?_ | refine bA ?_ _)); refine blk_put (cs := #[.int .i32 0, .int .i32 0, .int .i32 192, .int .i32 224, .int .i32 0]) ?_ 4 _ rfl; (with_reducible repeat (first | refine bN ?_ _ | refine bD ?_ | refine bA ?_ _)); refine blk_put (cs := #[.int .i32 0, .int .i32 0, .int .i32 192, .int .i32 0, .int .i32 0]) ?_ 3 _ rfl; (with_reducible repeat (first | refine bN ?_ _ | refine bD ?_ | refine bA ?_ _)); refine blk_put (cs := #[.int .i32 0, .int .i32 0, .int .i32 0, .int .i32 0, .int .i32 0]) ?_ 2 _ rfl; (with_reducible repeat (first | refine bN ?_ _ | refine bD ?_ | refine bA ?_ _)); refine blk_put (cs := #[.int .i32 0, .int .i32 0, .int .i32 0, .int .i32 0, .int .i32 0]) ?_ 1 _ rfl; (with_reducible repeat (first | refine bN ?_ _ | refine bD ?_ | refine bA ?_ _)); refine blk_put (cs := #[.int .i32 0, .int .i32 0, .int .i32 0, .int .i32 0, .int .i32 0]) ?_ 0 _ rfl; (with_reducible repeat (first | refine bN ?_ _ | refine bD ?_ | refine bA ?_ _)); exact BK.out
 case be => repeat (first | (with_reducible first | exact HB.out | apply wA | apply wN | apply wD | refine below_set ?_ GE.out) | exact HB.out)
 have hk2 : W.cell? ⟨gb, 2, none⟩ = some (.int .i32 192) := (blk_cell BKW 2).trans rfl
 have hk3 : W.cell? ⟨gb, 3, none⟩ = some (.int .i32 224) := (blk_cell BKW 3).trans rfl
 have hk4 : W.cell? ⟨gb, 4, none⟩ = some (.int .i32 240) := (blk_cell BKW 4).trans rfl
 have hxW0 := (HBW.cell (World.block_lt_of_cell? w _ hx0)).trans hx0
 have hxW1 := (HBW.cell (World.block_lt_of_cell? w _ hx1)).trans hx1
 clear HB BK
 go_wp2
 refine wp_loop_rounds 4 ?_
 rw [rounds_succ]
 go_wp2
 refine wp_loop_rounds 4 ?_
 rw [rounds_succ]
 go_wp2
 rw [rounds_succ]
 go_wp2
 go_ret
 exact ⟨by first | rfl | (simp [*] <;> rfl), HBW⟩
set_option maxHeartbeats 8000000 in
set_option maxRecDepth 100000 in
theorem num3_below (A0 : Option Addr) (c0 : Nat) (a b c : Int) (w : World) (hr0 : Kd.C (Kd.int .u8) w A0 3 [a, b, c]) (hc0 : 3 ≤ c0) (ha : 0 ≤ a ∧ a < 256) (hb : 0 ≤ b ∧ b < 256) (hc : 0 ≤ c ∧ c < 256) (p0 : a < 224) :
  Calls Tryz.prog 118 #[.slice A0 3 c0] w fun e w' => e = .returned (.int .i32 (-1)) ∧ Below w.heap.size w w' := by
 have HB := ak (Below.refl w.heap.size w)
 obtain ⟨ad, e0, hx0⟩ := Kd.at_int hr0 0 (by decide) (by decide)
 subst e0
 have hx0 : w.cell? ad = some (.int .u8 a) := by have h := hx0; simpa [rd, Addr.add] using h
 obtain ⟨ad1, e1, hx1⟩ := Kd.at_int hr0 1 (by decide) (by decide)
 obtain rfl := Option.some.inj e1
 have hx1 : w.cell? ⟨ad.block, ad.off + 1, none⟩ = some (.int .u8 b) := by have h := hx1; simpa [rd, Addr.add] using h
 obtain ⟨ad2, e2, hx2⟩ := Kd.at_int hr0 2 (by decide) (by decide)
 obtain rfl := Option.some.inj e2
 have hx2 : w.cell? ⟨ad.block, ad.off + 2, none⟩ = some (.int .u8 c) := by have h := hx2; simpa [rd, Addr.add] using h
 have hw_a := fit32 (n := a) (by omega) (by omega)
 have hw_b := fit32 (n := b) (by omega) (by omega)
 have hw_c := fit32 (n := c) (by omega) (by omega)
 have q0 := decide_eq_true p0
 have z0 := fit32 (n := a - 224) (by omega) (by omega)
 go_enter Tryz.func118, Tryz.ntmps118
 go_upto_region 3 with (first | ((with_reducible refine gate_dst (N := 4) rfl ?_); refine box_event ?hg (N := 4) ?hd (cs := #[.int .i32 0, .int .i32 0, .int .i32 0, .int .i32 0, .int .i32 0]) (t := 194) ?hr ?_; (case hd => rfl); (case hg => rfl); (case hr => first | (go_simp; done) | (go_simp; rfl)); intro gb hg w5 hbox hb; have n0_ := ak (below_step (by repeat (first | (with_reducible first | exact HB.out | apply wA | apply wN | apply wD) | exact HB.out)) hb); have n1_ := ak (hbox); have n3_ := ak ((by rw [hg]; exact (below_size (by repeat (first | (with_reducible first | exact HB.out | apply wA | apply wN | apply wD) | exact HB.out))) : w.heap.size ≤ gb)); clear HB; have HB := n0_; have BK := n1_; have GE := n3_; clear n0_ n1_ n3_; clear hb hbox hg; have hcz_0 : w5.cell? ⟨gb, 0, none⟩ = some (.int .i32 0) := (blk_cell BK.out 0).trans rfl; have hcz_1 : w5.cell? ⟨gb, 1, none⟩ = some (.int .i32 0) := (blk_cell BK.out 1).trans rfl; have hcz_2 : w5.cell? ⟨gb, 2, none⟩ = some (.int .i32 0) := (blk_cell BK.out 2).trans rfl; have hcz_3 : w5.cell? ⟨gb, 3, none⟩ = some (.int .i32 0) := (blk_cell BK.out 3).trans rfl; have hcz_4 : w5.cell? ⟨gb, 4, none⟩ = some (.int .i32 0) := (blk_cell BK.out 4).trans rfl; have hfz_0 := blk_frozen BK.out 0; have hfz_1 := blk_frozen BK.out 1; have hfz_2 := blk_frozen BK.out 2; have hfz_3 := blk_frozen BK.out 3; have hfz_4 := blk_frozen BK.out 4))
 refine name_world (fun W => W.heap[gb]? = some (.cells #[.int .i32 0, .int .i32 0, .int .i32 192, .int .i32 224, .int .i32 240] 194 (0, 0)) ∧ Below w.heap.size w W) ⟨?bk, ?be⟩ (fun W ⟨BKW, HBW⟩ => ?_)
 case bk => (with_reducible repeat (first | refine bN ?_ _ | refine bD ?_ | refine bA ?_ _)); refine blk_put (cs := #[.int .i32 0, .int .i32 0, .int .i32 192, .int .i32 224, .int .i32 0]) ?_ 4 _ rfl; (with_reducible repeat (first | refine bN ?_ _ | refine bD ?_ | refine bA ?_ _)); refine blk_put (cs := #[.int .i32 0, .int .i32 0, .int .i32 192, .int .i32 0, .int .i32 0]) ?_ 3 _ rfl; (with_reducible repeat (first | refine bN ?_ _ | refine bD ?_ | refine bA ?_ _)); refine blk_put (cs := #[.int .i32 0, .int .i32 0, .int .i32 0, .int .i32 0, .int .i32 0]) ?_ 2 _ rfl; (with_reducible repeat (first | refine bN ?_ _ | refine bD ?_ | refine bA ?_ _)); refine blk_put (cs := #[.int .i32 0, .int .i32 0, .int .i32 0, .int .i32 0, .int .i32 0]) ?_ 1 _ rfl; (with_reducible repeat (first | refine bN ?_ _ | refine bD ?_ | refine bA ?_ _)); refine blk_put (cs := #[.int .i32 0, .int .i32 0, .int .i32 0, .int .i32 0, .int .i32 0]) ?_ 0 _ rfl; (with_reducible repeat (first | refine bN ?_ _ | refine bD ?_ | refine bA ?_ _)); exact BK.out
 case be => repeat (first | (with_reducible first | exact HB.out | apply wA | apply wN | apply wD | refine below_set ?_ GE.out) | exact HB.out)
 have hk2 : W.cell? ⟨gb, 2, none⟩ = some (.int .i32 192) := (blk_cell BKW 2).trans rfl
 have hk3 : W.cell? ⟨gb, 3, none⟩ = some (.int .i32 224) := (blk_cell BKW 3).trans rfl
 have hk4 : W.cell? ⟨gb, 4, none⟩ = some (.int .i32 240) := (blk_cell BKW 4).trans rfl
 have hxW0 := (HBW.cell (World.block_lt_of_cell? w _ hx0)).trans hx0
 have hxW1 := (HBW.cell (World.block_lt_of_cell? w _ hx1)).trans hx1
 have hxW2 := (HBW.cell (World.block_lt_of_cell? w _ hx2)).trans hx2
 clear HB BK
 go_wp2
 refine wp_loop_rounds 4 ?_
 rw [rounds_succ]
 go_wp2
 rw [rounds_succ]
 go_wp2
 rw [rounds_succ]
 go_wp2
 rw [rounds_succ]
 go_wp2
 go_ret
 exact ⟨by first | rfl | (simp [*] <;> rfl), HBW⟩
set_option maxHeartbeats 8000000 in
set_option maxRecDepth 100000 in
theorem num3_above (A0 : Option Addr) (c0 : Nat) (a b c : Int) (w : World) (hr0 : Kd.C (Kd.int .u8) w A0 3 [a, b, c]) (hc0 : 3 ≤ c0) (ha : 0 ≤ a ∧ a < 256) (hb : 0 ≤ b ∧ b < 256) (hc : 0 ≤ c ∧ c < 256) (p0 : ¬ a < 224) (p1 : 240 ≤ a) :
  Calls Tryz.prog 118 #[.slice A0 3 c0] w fun e w' => e = .returned (.int .i32 (-1)) ∧ Below w.heap.size w w' := by
 have HB := ak (Below.refl w.heap.size w)
 obtain ⟨ad, e0, hx0⟩ := Kd.at_int hr0 0 (by decide) (by decide)
 subst e0
 have hx0 : w.cell? ad = some (.int .u8 a) := by have h := hx0; simpa [rd, Addr.add] using h
 obtain ⟨ad1, e1, hx1⟩ := Kd.at_int hr0 1 (by decide) (by decide)
 obtain rfl := Option.some.inj e1
 have hx1 : w.cell? ⟨ad.block, ad.off + 1, none⟩ = some (.int .u8 b) := by have h := hx1; simpa [rd, Addr.add] using h
 obtain ⟨ad2, e2, hx2⟩ := Kd.at_int hr0 2 (by decide) (by decide)
 obtain rfl := Option.some.inj e2
 have hx2 : w.cell? ⟨ad.block, ad.off + 2, none⟩ = some (.int .u8 c) := by have h := hx2; simpa [rd, Addr.add] using h
 have hw_a := fit32 (n := a) (by omega) (by omega)
 have hw_b := fit32 (n := b) (by omega) (by omega)
 have hw_c := fit32 (n := c) (by omega) (by omega)
 have q0 := decide_eq_false p0
 have q1 := decide_eq_true p1
 have z0 := fit32 (n := a - 224) (by omega) (by omega)
 go_enter Tryz.func118, Tryz.ntmps118
 go_upto_region 3 with (first | ((with_reducible refine gate_dst (N := 4) rfl ?_); refine box_event ?hg (N := 4) ?hd (cs := #[.int .i32 0, .int .i32 0, .int .i32 0, .int .i32 0, .int .i32 0]) (t := 194) ?hr ?_; (case hd => rfl); (case hg => rfl); (case hr => first | (go_simp; done) | (go_simp; rfl)); intro gb hg w5 hbox hb; have n0_ := ak (below_step (by repeat (first | (with_reducible first | exact HB.out | apply wA | apply wN | apply wD) | exact HB.out)) hb); have n1_ := ak (hbox); have n3_ := ak ((by rw [hg]; exact (below_size (by repeat (first | (with_reducible first | exact HB.out | apply wA | apply wN | apply wD) | exact HB.out))) : w.heap.size ≤ gb)); clear HB; have HB := n0_; have BK := n1_; have GE := n3_; clear n0_ n1_ n3_; clear hb hbox hg; have hcz_0 : w5.cell? ⟨gb, 0, none⟩ = some (.int .i32 0) := (blk_cell BK.out 0).trans rfl; have hcz_1 : w5.cell? ⟨gb, 1, none⟩ = some (.int .i32 0) := (blk_cell BK.out 1).trans rfl; have hcz_2 : w5.cell? ⟨gb, 2, none⟩ = some (.int .i32 0) := (blk_cell BK.out 2).trans rfl; have hcz_3 : w5.cell? ⟨gb, 3, none⟩ = some (.int .i32 0) := (blk_cell BK.out 3).trans rfl; have hcz_4 : w5.cell? ⟨gb, 4, none⟩ = some (.int .i32 0) := (blk_cell BK.out 4).trans rfl; have hfz_0 := blk_frozen BK.out 0; have hfz_1 := blk_frozen BK.out 1; have hfz_2 := blk_frozen BK.out 2; have hfz_3 := blk_frozen BK.out 3; have hfz_4 := blk_frozen BK.out 4))
 refine name_world (fun W => W.heap[gb]? = some (.cells #[.int .i32 0, .int .i32 0, .int .i32 192, .int .i32 224, .int .i32 240] 194 (0, 0)) ∧ Below w.heap.size w W) ⟨?bk, ?be⟩ (fun W ⟨BKW, HBW⟩ => ?_)
 case bk => (with_reducible repeat (first | refine bN ?_ _ | refine bD ?_ | refine bA ?_ _)); refine blk_put (cs := #[.int .i32 0, .int .i32 0, .int .i32 192, .int .i32 224, .int .i32 0]) ?_ 4 _ rfl; (with_reducible repeat (first | refine bN ?_ _ | refine bD ?_ | refine bA ?_ _)); refine blk_put (cs := #[.int .i32 0, .int .i32 0, .int .i32 192, .int .i32 0, .int .i32 0]) ?_ 3 _ rfl; (with_reducible repeat (first | refine bN ?_ _ | refine bD ?_ | refine bA ?_ _)); refine blk_put (cs := #[.int .i32 0, .int .i32 0, .int .i32 0, .int .i32 0, .int .i32 0]) ?_ 2 _ rfl; (with_reducible repeat (first | refine bN ?_ _ | refine bD ?_ | refine bA ?_ _)); refine blk_put (cs := #[.int .i32 0, .int .i32 0, .int .i32 0, .int .i32 0, .int .i32 0]) ?_ 1 _ rfl; (with_reducible repeat (first | refine bN ?_ _ | refine bD ?_ | refine bA ?_ _)); refine blk_put (cs := #[.int .i32 0, .int .i32 0, .int .i32 0, .int .i32 0, .int .i32 0]) ?_ 0 _ rfl; (with_reducible repeat (first | refine bN ?_ _ | refine bD ?_ | refine bA ?_ _)); exact BK.out
 case be => repeat (first | (with_reducible first | exact HB.out | apply wA | apply wN | apply wD | refine below_set ?_ GE.out) | exact HB.out)
 have hk2 : W.cell? ⟨gb, 2, none⟩ = some (.int .i32 192) := (blk_cell BKW 2).trans rfl
 have hk3 : W.cell? ⟨gb, 3, none⟩ = some (.int .i32 224) := (blk_cell BKW 3).trans rfl
 have hk4 : W.cell? ⟨gb, 4, none⟩ = some (.int .i32 240) := (blk_cell BKW 4).trans rfl
 have hxW0 := (HBW.cell (World.block_lt_of_cell? w _ hx0)).trans hx0
 have hxW1 := (HBW.cell (World.block_lt_of_cell? w _ hx1)).trans hx1
 have hxW2 := (HBW.cell (World.block_lt_of_cell? w _ hx2)).trans hx2
 clear HB BK
 go_wp2
 refine wp_loop_rounds 4 ?_
 rw [rounds_succ]
 go_wp2
 rw [rounds_succ]
 go_wp2
 rw [rounds_succ]
 go_wp2
 rw [rounds_succ]
 go_wp2
 go_ret
 exact ⟨by first | rfl | (simp [*] <;> rfl), HBW⟩
set_option maxHeartbeats 8000000 in
set_option maxRecDepth 100000 in
theorem num3_lo1 (A0 : Option Addr) (c0 : Nat) (a b c : Int) (w : World) (hr0 : Kd.C (Kd.int .u8) w A0 3 [a, b, c]) (hc0 : 3 ≤ c0) (ha : 0 ≤ a ∧ a < 256) (hb : 0 ≤ b ∧ b < 256) (hc : 0 ≤ c ∧ c < 256) (p0 : ¬ a < 224) (p1 : ¬ 240 ≤ a) (p2 : b < 128) :
  Calls Tryz.prog 118 #[.slice A0 3 c0] w fun e w' => e = .returned (.int .i32 (-1)) ∧ Below w.heap.size w w' := by
 have HB := ak (Below.refl w.heap.size w)
 obtain ⟨ad, e0, hx0⟩ := Kd.at_int hr0 0 (by decide) (by decide)
 subst e0
 have hx0 : w.cell? ad = some (.int .u8 a) := by have h := hx0; simpa [rd, Addr.add] using h
 obtain ⟨ad1, e1, hx1⟩ := Kd.at_int hr0 1 (by decide) (by decide)
 obtain rfl := Option.some.inj e1
 have hx1 : w.cell? ⟨ad.block, ad.off + 1, none⟩ = some (.int .u8 b) := by have h := hx1; simpa [rd, Addr.add] using h
 obtain ⟨ad2, e2, hx2⟩ := Kd.at_int hr0 2 (by decide) (by decide)
 obtain rfl := Option.some.inj e2
 have hx2 : w.cell? ⟨ad.block, ad.off + 2, none⟩ = some (.int .u8 c) := by have h := hx2; simpa [rd, Addr.add] using h
 have hw_a := fit32 (n := a) (by omega) (by omega)
 have hw_b := fit32 (n := b) (by omega) (by omega)
 have hw_c := fit32 (n := c) (by omega) (by omega)
 have q0 := decide_eq_false p0
 have q1 := decide_eq_false p1
 have q2 := decide_eq_true p2
 have z0 := fit32 (n := a - 224) (by omega) (by omega)
 go_enter Tryz.func118, Tryz.ntmps118
 go_upto_region 3 with (first | ((with_reducible refine gate_dst (N := 4) rfl ?_); refine box_event ?hg (N := 4) ?hd (cs := #[.int .i32 0, .int .i32 0, .int .i32 0, .int .i32 0, .int .i32 0]) (t := 194) ?hr ?_; (case hd => rfl); (case hg => rfl); (case hr => first | (go_simp; done) | (go_simp; rfl)); intro gb hg w5 hbox hb; have n0_ := ak (below_step (by repeat (first | (with_reducible first | exact HB.out | apply wA | apply wN | apply wD) | exact HB.out)) hb); have n1_ := ak (hbox); have n3_ := ak ((by rw [hg]; exact (below_size (by repeat (first | (with_reducible first | exact HB.out | apply wA | apply wN | apply wD) | exact HB.out))) : w.heap.size ≤ gb)); clear HB; have HB := n0_; have BK := n1_; have GE := n3_; clear n0_ n1_ n3_; clear hb hbox hg; have hcz_0 : w5.cell? ⟨gb, 0, none⟩ = some (.int .i32 0) := (blk_cell BK.out 0).trans rfl; have hcz_1 : w5.cell? ⟨gb, 1, none⟩ = some (.int .i32 0) := (blk_cell BK.out 1).trans rfl; have hcz_2 : w5.cell? ⟨gb, 2, none⟩ = some (.int .i32 0) := (blk_cell BK.out 2).trans rfl; have hcz_3 : w5.cell? ⟨gb, 3, none⟩ = some (.int .i32 0) := (blk_cell BK.out 3).trans rfl; have hcz_4 : w5.cell? ⟨gb, 4, none⟩ = some (.int .i32 0) := (blk_cell BK.out 4).trans rfl; have hfz_0 := blk_frozen BK.out 0; have hfz_1 := blk_frozen BK.out 1; have hfz_2 := blk_frozen BK.out 2; have hfz_3 := blk_frozen BK.out 3; have hfz_4 := blk_frozen BK.out 4))
 refine name_world (fun W => W.heap[gb]? = some (.cells #[.int .i32 0, .int .i32 0, .int .i32 192, .int .i32 224, .int .i32 240] 194 (0, 0)) ∧ Below w.heap.size w W) ⟨?bk, ?be⟩ (fun W ⟨BKW, HBW⟩ => ?_)
 case bk => (with_reducible repeat (first | refine bN ?_ _ | refine bD ?_ | refine bA ?_ _)); refine blk_put (cs := #[.int .i32 0, .int .i32 0, .int .i32 192, .int .i32 224, .int .i32 0]) ?_ 4 _ rfl; (with_reducible repeat (first | refine bN ?_ _ | refine bD ?_ | refine bA ?_ _)); refine blk_put (cs := #[.int .i32 0, .int .i32 0, .int .i32 192, .int .i32 0, .int .i32 0]) ?_ 3 _ rfl; (with_reducible repeat (first | refine bN ?_ _ | refine bD ?_ | refine bA ?_ _)); refine blk_put (cs := #[.int .i32 0, .int .i32 0, .int .i32 0, .int .i32 0, .int .i32 0]) ?_ 2 _ rfl; (with_reducible repeat (first | refine bN ?_ _ | refine bD ?_ | refine bA ?_ _)); refine blk_put (cs := #[.int .i32 0, .int .i32 0, .int .i32 0, .int .i32 0, .int .i32 0]) ?_ 1 _ rfl; (with_reducible repeat (first | refine bN ?_ _ | refine bD ?_ | refine bA ?_ _)); refine blk_put (cs := #[.int .i32 0, .int .i32 0, .int .i32 0, .int .i32 0, .int .i32 0]) ?_ 0 _ rfl; (with_reducible repeat (first | refine bN ?_ _ | refine bD ?_ | refine bA ?_ _)); exact BK.out
 case be => repeat (first | (with_reducible first | exact HB.out | apply wA | apply wN | apply wD | refine below_set ?_ GE.out) | exact HB.out)
 have hk2 : W.cell? ⟨gb, 2, none⟩ = some (.int .i32 192) := (blk_cell BKW 2).trans rfl
 have hk3 : W.cell? ⟨gb, 3, none⟩ = some (.int .i32 224) := (blk_cell BKW 3).trans rfl
 have hk4 : W.cell? ⟨gb, 4, none⟩ = some (.int .i32 240) := (blk_cell BKW 4).trans rfl
 have hxW0 := (HBW.cell (World.block_lt_of_cell? w _ hx0)).trans hx0
 have hxW1 := (HBW.cell (World.block_lt_of_cell? w _ hx1)).trans hx1
 have hxW2 := (HBW.cell (World.block_lt_of_cell? w _ hx2)).trans hx2
 clear HB BK
 go_wp2
 refine wp_loop_rounds 4 ?_
 rw [rounds_succ]
 go_wp2
 rw [rounds_succ]
 go_wp2
 refine wp_loop_rounds 4 ?_
 rw [rounds_succ]
 go_wp2
 go_ret
 exact ⟨by first | rfl | (simp [*] <;> rfl), HBW⟩
set_option maxHeartbeats 8000000 in
set_option maxRecDepth 100000 in
theorem num3_hi1 (A0 : Option Addr) (c0 : Nat) (a b c : Int) (w : World) (hr0 : Kd.C (Kd.int .u8) w A0 3 [a, b, c]) (hc0 : 3 ≤ c0) (ha : 0 ≤ a ∧ a < 256) (hb : 0 ≤ b ∧ b < 256) (hc : 0 ≤ c ∧ c < 256) (p0 : ¬ a < 224) (p1 : ¬ 240 ≤ a) (p2 : ¬ b < 128) (p3 : 192 ≤ b) :
  Calls Tryz.prog 118 #[.slice A0 3 c0] w fun e w' => e = .returned (.int .i32 (-1)) ∧ Below w.heap.size w w' := by
 have HB := ak (Below.refl w.heap.size w)
 obtain ⟨ad, e0, hx0⟩ := Kd.at_int hr0 0 (by decide) (by decide)
 subst e0
 have hx0 : w.cell? ad = some (.int .u8 a) := by have h := hx0; simpa [rd, Addr.add] using h
 obtain ⟨ad1, e1, hx1⟩ := Kd.at_int hr0 1 (by decide) (by decide)
 obtain rfl := Option.some.inj e1
 have hx1 : w.cell? ⟨ad.block, ad.off + 1, none⟩ = some (.int .u8 b) := by have h := hx1; simpa [rd, Addr.add] using h
 obtain ⟨ad2, e2, hx2⟩ := Kd.at_int hr0 2 (by decide) (by decide)
 obtain rfl := Option.some.inj e2
 have hx2 : w.cell? ⟨ad.block, ad.off + 2, none⟩ = some (.int .u8 c) := by have h := hx2; simpa [rd, Addr.add] using h
 have hw_a := fit32 (n := a) (by omega) (by omega)
 have hw_b := fit32 (n := b) (by omega) (by omega)
 have hw_c := fit32 (n := c) (by omega) (by omega)
 have q0 := decide_eq_false p0
 have q1 := decide_eq_false p1
 have q2 := decide_eq_false p2
 have q3 := decide_eq_true p3
 have z0 := fit32 (n := a - 224) (by omega) (by omega)
 go_enter Tryz.func118, Tryz.ntmps118
 go_upto_region 3 with (first | ((with_reducible refine gate_dst (N := 4) rfl ?_); refine box_event ?hg (N := 4) ?hd (cs := #[.int .i32 0, .int .i32 0, .int .i32 0, .int .i32 0, .int .i32 0]) (t := 194) ?hr ?_; (case hd => rfl); (case hg => rfl); (case hr => first | (go_simp; done) | (go_simp; rfl)); intro gb hg w5 hbox hb; have n0_ := ak (below_step (by repeat (first | (with_reducible first | exact HB.out | apply wA | apply wN | apply wD) | exact HB.out)) hb); have n1_ := ak (hbox); have n3_ := ak ((by rw [hg]; exact (below_size (by repeat (first | (with_reducible first | exact HB.out | apply wA | apply wN | apply wD) | exact HB.out))) : w.heap.size ≤ gb)); clear HB; have HB := n0_; have BK := n1_; have GE := n3_; clear n0_ n1_ n3_; clear hb hbox hg; have hcz_0 : w5.cell? ⟨gb, 0, none⟩ = some (.int .i32 0) := (blk_cell BK.out 0).trans rfl; have hcz_1 : w5.cell? ⟨gb, 1, none⟩ = some (.int .i32 0) := (blk_cell BK.out 1).trans rfl; have hcz_2 : w5.cell? ⟨gb, 2, none⟩ = some (.int .i32 0) := (blk_cell BK.out 2).trans rfl; have hcz_3 : w5.cell? ⟨gb, 3, none⟩ = some (.int .i32 0) := (blk_cell BK.out 3).trans rfl; have hcz_4 : w5.cell? ⟨gb, 4, none⟩ = some (.int .i32 0) := (blk_cell BK.out 4).trans rfl; have hfz_0 := blk_frozen BK.out 0; have hfz_1 := blk_frozen BK.out 1; have hfz_2 := blk_frozen BK.out 2; have hfz_3 := blk_frozen BK.out 3; have hfz_4 := blk_frozen BK.out 4))
 refine name_world (fun W => W.heap[gb]? = some (.cells #[.int .i32 0, .int .i32 0, .int .i32 192, .int .i32 224, .int .i32 240] 194 (0, 0)) ∧ Below w.heap.size w W) ⟨?bk, ?be⟩ (fun W ⟨BKW, HBW⟩ => ?_)
 case bk => (with_reducible repeat (first | refine bN ?_ _ | refine bD ?_ | refine bA ?_ _)); refine blk_put (cs := #[.int .i32 0, .int .i32 0, .int .i32 192, .int .i32 224, .int .i32 0]) ?_ 4 _ rfl; (with_reducible repeat (first | refine bN ?_ _ | refine bD ?_ | refine bA ?_ _)); refine blk_put (cs := #[.int .i32 0, .int .i32 0, .int .i32 192, .int .i32 0, .int .i32 0]) ?_ 3 _ rfl; (with_reducible repeat (first | refine bN ?_ _ | refine bD ?_ | refine bA ?_ _)); refine blk_put (cs := #[.int .i32 0, .int .i32 0, .int .i32 0, .int .i32 0, .int .i32 0]) ?_ 2 _ rfl; (with_reducible repeat (first | refine bN ?_ _ | refine bD ?_ | refine bA ?_ _)); refine blk_put (cs := #[.int .i32 0, .int .i32 0, .int .i32 0, .int .i32 0, .int .i32 0]) ?_ 1 _ rfl; (with_reducible repeat (first | refine bN ?_ _ | refine bD ?_ | refine bA ?_ _)); refine blk_put (cs := #[.int .i32 0, .int .i32 0, .int .i32 0, .int .i32 0, .int .i32 0]) ?_ 0 _ rfl; (with_reducible repeat (first | refine bN ?_ _ | refine bD ?_ | refine bA ?_ _)); exact BK.out
 case be => repeat (first | (with_reducible first | exact HB.out | apply wA | apply wN | apply wD | refine below_set ?_ GE.out) | exact HB.out)
 have hk2 : W.cell? ⟨gb, 2, none⟩ = some (.int .i32 192) := (blk_cell BKW 2).trans rfl
 have hk3 : W.cell? ⟨gb, 3, none⟩ = some (.int .i32 224) := (blk_cell BKW 3).trans rfl
 have hk4 : W.cell? ⟨gb, 4, none⟩ = some (.int .i32 240) := (blk_cell BKW 4).trans rfl
 have hxW0 := (HBW.cell (World.block_lt_of_cell? w _ hx0)).trans hx0
 have hxW1 := (HBW.cell (World.block_lt_of_cell? w _ hx1)).trans hx1
 have hxW2 := (HBW.cell (World.block_lt_of_cell? w _ hx2)).trans hx2
 clear HB BK
 go_wp2
 refine wp_loop_rounds 4 ?_
 rw [rounds_succ]
 go_wp2
 rw [rounds_succ]
 go_wp2
 refine wp_loop_rounds 4 ?_
 rw [rounds_succ]
 go_wp2
 go_ret
 exact ⟨by first | rfl | (simp [*] <;> rfl), HBW⟩
set_option maxHeartbeats 8000000 in
set_option maxRecDepth 100000 in
theorem num3_lo2 (A0 : Option Addr) (c0 : Nat) (a b c : Int) (w : World) (hr0 : Kd.C (Kd.int .u8) w A0 3 [a, b, c]) (hc0 : 3 ≤ c0) (ha : 0 ≤ a ∧ a < 256) (hb : 0 ≤ b ∧ b < 256) (hc : 0 ≤ c ∧ c < 256) (p0 : ¬ a < 224) (p1 : ¬ 240 ≤ a) (p2 : ¬ b < 128) (p3 : ¬ 192 ≤ b) (p4 : c < 128) :
  Calls Tryz.prog 118 #[.slice A0 3 c0] w fun e w' => e = .returned (.int .i32 (-1)) ∧ Below w.heap.size w w' := by
 have HB := ak (Below.refl w.heap.size w)
 obtain ⟨ad, e0, hx0⟩ := Kd.at_int hr0 0 (by decide) (by decide)
 subst e0
 have hx0 : w.cell? ad = some (.int .u8 a) := by have h := hx0; simpa [rd, Addr.add] using h
 obtain ⟨ad1, e1, hx1⟩ := Kd.at_int hr0 1 (by decide) (by decide)
 obtain rfl := Option.some.inj e1
 have hx1 : w.cell? ⟨ad.block, ad.off + 1, none⟩ = some (.int .u8 b) := by have h := hx1; simpa [rd, Addr.add] using h
 obtain ⟨ad2, e2, hx2⟩ := Kd.at_int hr0 2 (by decide) (by decide)
 obtain rfl := Option.some.inj e2
 have hx2 : w.cell? ⟨ad.block, ad.off + 2, none⟩ = some (.int .u8 c) := by have h := hx2; simpa [rd, Addr.add] using h
 have hw_a := fit32 (n := a) (by omega) (by omega)
 have hw_b := fit32 (n := b) (by omega) (by omega)
 have hw_c := fit32 (n := c) (by omega) (by omega)
 have q0 := decide_eq_false p0
 have q1 := decide_eq_false p1
 have q2 := decide_eq_false p2
 have q3 := decide_eq_false p3
 have q4 := decide_eq_true p4
 have z0 := fit32 (n := a - 224) (by omega) (by omega)
 have z1a := fit32 (n := 64 * (a - 224)) (by omega) (by omega)
 have z1b := fit32 (n := 64 * (a - 224) + b) (by omega) (by omega)
 have z1c := fit32 (n := 64 * (a - 224) + b - 128) (by omega) (by omega)
 go_enter Tryz.func118, Tryz.ntmps118
 go_upto_region 3 with (first | ((with_reducible refine gate_dst (N := 4) rfl ?_); refine box_event ?hg (N := 4) ?hd (cs := #[.int .i32 0, .int .i32 0, .int .i32 0, .int .i32 0, .int .i32 0]) (t := 194) ?hr ?_; (case hd => rfl); (case hg => rfl); (case hr => first | (go_simp; done) | (go_simp; rfl)); intro gb hg w5 hbox hb; have n0_ := ak (below_step (by repeat (first | (with_reducible first | exact HB.out | apply wA | apply wN | apply wD) | exact HB.out)) hb); have n1_ := ak (hbox); have n3_ := ak ((by rw [hg]; exact (below_size (by repeat (first | (with_reducible first | exact HB.out | apply wA | apply wN | apply wD) | exact HB.out))) : w.heap.size ≤ gb)); clear HB; have HB := n0_; have BK := n1_; have GE := n3_; clear n0_ n1_ n3_; clear hb hbox hg; have hcz_0 : w5.cell? ⟨gb, 0, none⟩ = some (.int .i32 0) := (blk_cell BK.out 0).trans rfl; have hcz_1 : w5.cell? ⟨gb, 1, none⟩ = some (.int .i32 0) := (blk_cell BK.out 1).trans rfl; have hcz_2 : w5.cell? ⟨gb, 2, none⟩ = some (.int .i32 0) := (blk_cell BK.out 2).trans rfl; have hcz_3 : w5.cell? ⟨gb, 3, none⟩ = some (.int .i32 0) := (blk_cell BK.out 3).trans rfl; have hcz_4 : w5.cell? ⟨gb, 4, none⟩ = some (.int .i32 0) := (blk_cell BK.out 4).trans rfl; have hfz_0 := blk_frozen BK.out 0; have hfz_1 := blk_frozen BK.out 1; have hfz_2 := blk_frozen BK.out 2; have hfz_3 := blk_frozen BK.out 3; have hfz_4 := blk_frozen BK.out 4))
 refine name_world (fun W => W.heap[gb]? = some (.cells #[.int .i32 0, .int .i32 0, .int .i32 192, .int .i32 224, .int .i32 240] 194 (0, 0)) ∧ Below w.heap.size w W) ⟨?bk, ?be⟩ (fun W ⟨BKW, HBW⟩ => ?_)
 case bk => (with_reducible repeat (first | refine bN ?_ _ | refine bD ?_ | refine bA ?_ _)); refine blk_put (cs := #[.int .i32 0, .int .i32 0, .int .i32 192, .int .i32 224, .int .i32 0]) ?_ 4 _ rfl; (with_reducible repeat (first | refine bN ?_ _ | refine bD ?_ | refine bA ?_ _)); refine blk_put (cs := #[.int .i32 0, .int .i32 0, .int .i32 192, .int .i32 0, .int .i32 0]) ?_ 3 _ rfl; (with_reducible repeat (first | refine bN ?_ _ | refine bD ?_ | refine bA ?_ _)); refine blk_put (cs := #[.int .i32 0, .int .i32 0, .int .i32 0, .int .i32 0, .int .i32 0]) ?_ 2 _ rfl; (with_reducible repeat (first | refine bN ?_ _ | refine bD ?_ | refine bA ?_ _)); refine blk_put (cs := #[.int .i32 0, .int .i32 0, .int .i32 0, .int .i32 0, .int .i32 0]) ?_ 1 _ rfl; (with_reducible repeat (first | refine bN ?_ _ | refine bD ?_ | refine bA ?_ _)); refine blk_put (cs := #[.int .i32 0, .int .i32 0, .int .i32 0, .int .i32 0, .int .i32 0]) ?_ 0 _ rfl; (with_reducible repeat (first | refine bN ?_ _ | refine bD ?_ | refine bA ?_ _)); exact BK.out
 case be => repeat (first | (with_reducible first | exact HB.out | apply wA | apply wN | apply wD | refine below_set ?_ GE.out) | exact HB.out)
 have hk2 : W.cell? ⟨gb, 2, none⟩ = some (.int .i32 192) := (blk_cell BKW 2).trans rfl
 have hk3 : W.cell? ⟨gb, 3, none⟩ = some (.int .i32 224) := (blk_cell BKW 3).trans rfl
 have hk4 : W.cell? ⟨gb, 4, none⟩ = some (.int .i32 240) := (blk_cell BKW 4).trans rfl
 have hxW0 := (HBW.cell (World.block_lt_of_cell? w _ hx0)).trans hx0
 have hxW1 := (HBW.cell (World.block_lt_of_cell? w _ hx1)).trans hx1
 have hxW2 := (HBW.cell (World.block_lt_of_cell? w _ hx2)).trans hx2
 clear HB BK
 go_wp2
 refine wp_loop_rounds 4 ?_
 rw [rounds_succ]
 go_wp2
 rw [rounds_succ]
 go_wp2
 refine wp_loop_rounds 4 ?_
 rw [rounds_succ]
 go_wp2
 rw [rounds_succ]
 go_wp2
 go_ret
 exact ⟨by first | rfl | (simp [*] <;> rfl), HBW⟩
set_option maxHeartbeats 8000000 in
set_option maxRecDepth 100000 in
theorem num3_hi2 (A0 : Option Addr) (c0 : Nat) (a b c : Int) (w : World) (hr0 : Kd.C (Kd.int .u8) w A0 3 [a, b, c]) (hc0 : 3 ≤ c0) (ha : 0 ≤ a ∧ a < 256) (hb : 0 ≤ b ∧ b < 256) (hc : 0 ≤ c ∧ c < 256) (p0 : ¬ a < 224) (p1 : ¬ 240 ≤ a) (p2 : ¬ b < 128) (p3 : ¬ 192 ≤ b) (p4 : ¬ c < 128) (p5 : 192 ≤ c) :
  Calls Tryz.prog 118 #[.slice A0 3 c0] w fun e w' => e = .returned (.int .i32 (-1)) ∧ Below w.heap.size w w' := by
 have HB := ak (Below.refl w.heap.size w)
 obtain ⟨ad, e0, hx0⟩ := Kd.at_int hr0 0 (by decide) (by decide)
 subst e0
 have hx0 : w.cell? ad = some (.int .u8 a) := by have h := hx0; simpa [rd, Addr.add] using h
 obtain ⟨ad1, e1, hx1⟩ := Kd.at_int hr0 1 (by decide) (by decide)
 obtain rfl := Option.some.inj e1
 have hx1 : w.cell? ⟨ad.block, ad.off + 1, none⟩ = some (.int .u8 b) := by have h := hx1; simpa [rd, Addr.add] using h
 obtain ⟨ad2, e2, hx2⟩ := Kd.at_int hr0 2 (by decide) (by decide)
 obtain rfl := Option.some.inj e2
 have hx2 : w.cell? ⟨ad.block, ad.off + 2, none⟩ = some (.int .u8 c) := by have h := hx2; simpa [rd, Addr.add] using h
 have hw_a := fit32 (n := a) (by omega) (by omega)
 have hw_b := fit32 (n := b) (by omega) (by omega)
 have hw_c := fit32 (n := c) (by omega) (by omega)
 have q0 := decide_eq_false p0
 have q1 := decide_eq_false p1
 have q2 := decide_eq_false p2
 have q3 := decide_eq_false p3
 have q4 := decide_eq_false p4
 have q5 := decide_eq_true p5
 have z0 := fit32 (n := a - 224) (by omega) (by omega)
 have z1a := fit32 (n := 64 * (a - 224)) (by omega) (by omega)
 have z1b := fit32 (n := 64 * (a - 224) + b) (by omega) (by omega)
 have z1c := fit32 (n := 64 * (a - 224) + b - 128) (by omega) (by omega)
 go_enter Tryz.func118, Tryz.ntmps118
 go_upto_region 3 with (first | ((with_reducible refine gate_dst (N := 4) rfl ?_); refine box_event ?hg (N := 4) ?hd (cs := #[.int .i32 0, .int .i32 0, .int .i32 0, .int .i32 0, .int .i32 0]) (t := 194) ?hr ?_; (case hd => rfl); (case hg => rfl); (case hr => first | (go_simp; done) | (go_simp; rfl)); intro gb hg w5 hbox hb; have n0_ := ak (below_step (by repeat (first | (with_reducible first | exact HB.out | apply wA | apply wN | apply wD) | exact HB.out)) hb); have n1_ := ak (hbox); have n3_ := ak ((by rw [hg]; exact (below_size (by repeat (first | (with_reducible first | exact HB.out | apply wA | apply wN | apply wD) | exact HB.out))) : w.heap.size ≤ gb)); clear HB; have HB := n0_; have BK := n1_; have GE := n3_; clear n0_ n1_ n3_; clear hb hbox hg; have hcz_0 : w5.cell? ⟨gb, 0, none⟩ = some (.int .i32 0) := (blk_cell BK.out 0).trans rfl; have hcz_1 : w5.cell? ⟨gb, 1, none⟩ = some (.int .i32 0) := (blk_cell BK.out 1).trans rfl; have hcz_2 : w5.cell? ⟨gb, 2, none⟩ = some (.int .i32 0) := (blk_cell BK.out 2).trans rfl; have hcz_3 : w5.cell? ⟨gb, 3, none⟩ = some (.int .i32 0) := (blk_cell BK.out 3).trans rfl; have hcz_4 : w5.cell? ⟨gb, 4, none⟩ = some (.int .i32 0) := (blk_cell BK.out 4).trans rfl; have hfz_0 := blk_frozen BK.out 0; have hfz_1 := blk_frozen BK.out 1; have hfz_2 := blk_frozen BK.out 2; have hfz_3 := blk_frozen BK.out 3; have hfz_4 := blk_frozen BK.out 4))
 refine name_world (fun W => W.heap[gb]? = some (.cells #[.int .i32 0, .int .i32 0, .int .i32 192, .int .i32 224, .int .i32 240] 194 (0, 0)) ∧ Below w.heap.size w W) ⟨?bk, ?be⟩ (fun W ⟨BKW, HBW⟩ => ?_)
 case bk => (with_reducible repeat (first | refine bN ?_ _ | refine bD ?_ | refine bA ?_ _)); refine blk_put (cs := #[.int .i32 0, .int .i32 0, .int .i32 192, .int .i32 224, .int .i32 0]) ?_ 4 _ rfl; (with_reducible repeat (first | refine bN ?_ _ | refine bD ?_ | refine bA ?_ _)); refine blk_put (cs := #[.int .i32 0, .int .i32 0, .int .i32 192, .int .i32 0, .int .i32 0]) ?_ 3 _ rfl; (with_reducible repeat (first | refine bN ?_ _ | refine bD ?_ | refine bA ?_ _)); refine blk_put (cs := #[.int .i32 0, .int .i32 0, .int .i32 0, .int .i32 0, .int .i32 0]) ?_ 2 _ rfl; (with_reducible repeat (first | refine bN ?_ _ | refine bD ?_ | refine bA ?_ _)); refine blk_put (cs := #[.int .i32 0, .int .i32 0, .int .i32 0, .int .i32 0, .int .i32 0]) ?_ 1 _ rfl; (with_reducible repeat (first | refine bN ?_ _ | refine bD ?_ | refine bA ?_ _)); refine blk_put (cs := #[.int .i32 0, .int .i32 0, .int .i32 0, .int .i32 0, .int .i32 0]) ?_ 0 _ rfl; (with_reducible repeat (first | refine bN ?_ _ | refine bD ?_ | refine bA ?_ _)); exact BK.out
 case be => repeat (first | (with_reducible first | exact HB.out | apply wA | apply wN | apply wD | refine below_set ?_ GE.out) | exact HB.out)
 have hk2 : W.cell? ⟨gb, 2, none⟩ = some (.int .i32 192) := (blk_cell BKW 2).trans rfl
 have hk3 : W.cell? ⟨gb, 3, none⟩ = some (.int .i32 224) := (blk_cell BKW 3).trans rfl
 have hk4 : W.cell? ⟨gb, 4, none⟩ = some (.int .i32 240) := (blk_cell BKW 4).trans rfl
 have hxW0 := (HBW.cell (World.block_lt_of_cell? w _ hx0)).trans hx0
 have hxW1 := (HBW.cell (World.block_lt_of_cell? w _ hx1)).trans hx1
 have hxW2 := (HBW.cell (World.block_lt_of_cell? w _ hx2)).trans hx2
 clear HB BK
 go_wp2
 refine wp_loop_rounds 4 ?_
 rw [rounds_succ]
 go_wp2
 rw [rounds_succ]
 go_wp2
 refine wp_loop_rounds 4 ?_
 rw [rounds_succ]
 go_wp2
 rw [rounds_succ]
 go_wp2
 go_ret
 exact ⟨by first | rfl | (simp [*] <;> rfl), HBW⟩
set_option maxHeartbeats 8000000 in
set_option maxRecDepth 100000 in
theorem num3_all (A0 : Option Addr) (c0 : Nat) (a b c : Int) (w : World) (hr0 : Kd.C (Kd.int .u8) w A0 3 [a, b, c]) (hc0 : 3 ≤ c0) (ha : 0 ≤ a ∧ a < 256) (hb : 0 ≤ b ∧ b < 256) (hc : 0 ≤ c ∧ c < 256) (p0 : ¬ a < 224) (p1 : ¬ 240 ≤ a) (p2 : ¬ b < 128) (p3 : ¬ 192 ≤ b) (p4 : ¬ c < 128) (p5 : ¬ 192 ≤ c) :
  Calls Tryz.prog 118 #[.slice A0 3 c0] w fun e w' => e = .returned (.int .i32 ((64 * (64 * (a - 224) + b - 128) + c - 128))) ∧ Below w.heap.size w w' := by
 have HB := ak (Below.refl w.heap.size w)
 obtain ⟨ad, e0, hx0⟩ := Kd.at_int hr0 0 (by decide) (by decide)
 subst e0
 have hx0 : w.cell? ad = some (.int .u8 a) := by have h := hx0; simpa [rd, Addr.add] using h
 obtain ⟨ad1, e1, hx1⟩ := Kd.at_int hr0 1 (by decide) (by decide)
 obtain rfl := Option.some.inj e1
 have hx1 : w.cell? ⟨ad.block, ad.off + 1, none⟩ = some (.int .u8 b) := by have h := hx1; simpa [rd, Addr.add] using h
 obtain ⟨ad2, e2, hx2⟩ := Kd.at_int hr0 2 (by decide) (by decide)
 obtain rfl := Option.some.inj e2
 have hx2 : w.cell? ⟨ad.block, ad.off + 2, none⟩ = some (.int .u8 c) := by have h := hx2; simpa [rd, Addr.add] using h
 have hw_a := fit32 (n := a) (by omega) (by omega)
 have hw_b := fit32 (n := b) (by omega) (by omega)
 have hw_c := fit32 (n := c) (by omega) (by omega)
 have q0 := decide_eq_false p0
 have q1 := decide_eq_false p1
 have q2 := decide_eq_false p2
 have q3 := decide_eq_false p3
 have q4 := decide_eq_false p4
 have q5 := decide_eq_false p5
 have z0 := fit32 (n := a - 224) (by omega) (by omega)
 have z1a := fit32 (n := 64 * (a - 224)) (by omega) (by omega)
 have z1b := fit32 (n := 64 * (a - 224) + b) (by omega) (by omega)
 have z1c := fit32 (n := 64 * (a - 224) + b - 128) (by omega) (by omega)
 have z2a := fit32 (n := 64 * (64 * (a - 224) + b - 128)) (by omega) (by omega)
 have z2b := fit32 (n := 64 * (64 * (a - 224) + b - 128) + c) (by omega) (by omega)
 have z2c := fit32 (n := 64 * (64 * (a - 224) + b - 128) + c - 128) (by omega) (by omega)
 go_enter Tryz.func118, Tryz.ntmps118
 go_upto_region 3 with (first | ((with_reducible refine gate_dst (N := 4) rfl ?_); refine box_event ?hg (N := 4) ?hd (cs := #[.int .i32 0, .int .i32 0, .int .i32 0, .int .i32 0, .int .i32 0]) (t := 194) ?hr ?_; (case hd => rfl); (case hg => rfl); (case hr => first | (go_simp; done) | (go_simp; rfl)); intro gb hg w5 hbox hb; have n0_ := ak (below_step (by repeat (first | (with_reducible first | exact HB.out | apply wA | apply wN | apply wD) | exact HB.out)) hb); have n1_ := ak (hbox); have n3_ := ak ((by rw [hg]; exact (below_size (by repeat (first | (with_reducible first | exact HB.out | apply wA | apply wN | apply wD) | exact HB.out))) : w.heap.size ≤ gb)); clear HB; have HB := n0_; have BK := n1_; have GE := n3_; clear n0_ n1_ n3_; clear hb hbox hg; have hcz_0 : w5.cell? ⟨gb, 0, none⟩ = some (.int .i32 0) := (blk_cell BK.out 0).trans rfl; have hcz_1 : w5.cell? ⟨gb, 1, none⟩ = some (.int .i32 0) := (blk_cell BK.out 1).trans rfl; have hcz_2 : w5.cell? ⟨gb, 2, none⟩ = some (.int .i32 0) := (blk_cell BK.out 2).trans rfl; have hcz_3 : w5.cell? ⟨gb, 3, none⟩ = some (.int .i32 0) := (blk_cell BK.out 3).trans rfl; have hcz_4 : w5.cell? ⟨gb, 4, none⟩ = some (.int .i32 0) := (blk_cell BK.out 4).trans rfl; have hfz_0 := blk_frozen BK.out 0; have hfz_1 := blk_frozen BK.out 1; have hfz_2 := blk_frozen BK.out 2; have hfz_3 := blk_frozen BK.out 3; have hfz_4 := blk_frozen BK.out 4))
 refine name_world (fun W => W.heap[gb]? = some (.cells #[.int .i32 0, .int .i32 0, .int .i32 192, .int .i32 224, .int .i32 240] 194 (0, 0)) ∧ Below w.heap.size w W) ⟨?bk, ?be⟩ (fun W ⟨BKW, HBW⟩ => ?_)
 case bk => (with_reducible repeat (first | refine bN ?_ _ | refine bD ?_ | refine bA ?_ _)); refine blk_put (cs := #[.int .i32 0, .int .i32 0, .int .i32 192, .int .i32 224, .int .i32 0]) ?_ 4 _ rfl; (with_reducible repeat (first | refine bN ?_ _ | refine bD ?_ | refine bA ?_ _)); refine blk_put (cs := #[.int .i32 0, .int .i32 0, .int .i32 192, .int .i32 0, .int .i32 0]) ?_ 3 _ rfl; (with_reducible repeat (first | refine bN ?_ _ | refine bD ?_ | refine bA ?_ _)); refine blk_put (cs := #[.int .i32 0, .int .i32 0, .int .i32 0, .int .i32 0, .int .i32 0]) ?_ 2 _ rfl; (with_reducible repeat (first | refine bN ?_ _ | refine bD ?_ | refine bA ?_ _)); refine blk_put (cs := #[.int .i32 0, .int .i32 0, .int .i32 0, .int .i32 0, .int .i32 0]) ?_ 1 _ rfl; (with_reducible repeat (first | refine bN ?_ _ | refine bD ?_ | refine bA ?_ _)); refine blk_put (cs := #[.int .i32 0, .int .i32 0, .int .i32 0, .int .i32 0, .int .i32 0]) ?_ 0 _ rfl; (with_reducible repeat (first | refine bN ?_ _ | refine bD ?_ | refine bA ?_ _)); exact BK.out
 case be => repeat (first | (with_reducible first | exact HB.out | apply wA | apply wN | apply wD | refine below_set ?_ GE.out) | exact HB.out)
 have hk2 : W.cell? ⟨gb, 2, none⟩ = some (.int .i32 192) := (blk_cell BKW 2).trans rfl
 have hk3 : W.cell? ⟨gb, 3, none⟩ = some (.int .i32 224) := (blk_cell BKW 3).trans rfl
 have hk4 : W.cell? ⟨gb, 4, none⟩ = some (.int .i32 240) := (blk_cell BKW 4).trans rfl
 have hxW0 := (HBW.cell (World.block_lt_of_cell? w _ hx0)).trans hx0
 have hxW1 := (HBW.cell (World.block_lt_of_cell? w _ hx1)).trans hx1
 have hxW2 := (HBW.cell (World.block_lt_of_cell? w _ hx2)).trans hx2
 clear HB BK
 go_wp2
 refine wp_loop_rounds 4 ?_
 rw [rounds_succ]
 go_wp2
 rw [rounds_succ]
 go_wp2
 refine wp_loop_rounds 4 ?_
 rw [rounds_succ]
 go_wp2
 rw [rounds_succ]
 go_wp2
 rw [rounds_succ]
 go_wp2
 go_ret
 exact ⟨by first | rfl | (simp [*] <;> rfl), HBW⟩
set_option maxHeartbeats 8000000 in
set_option maxRecDepth 100000 in
theorem num4_below (A0 : Option Addr) (c0 : Nat) (a b c d : Int) (w : World) (hr0 : Kd.C (Kd.int .u8) w A0 4 [a, b, c, d]) (hc0 : 4 ≤ c0) (ha : 0 ≤ a ∧ a < 256) (hb : 0 ≤ b ∧ b < 256) (hc : 0 ≤ c ∧ c < 256) (hd : 0 ≤ d ∧ d < 256) (p0 : a < 240) :
  Calls Tryz.prog 118 #[.slice A0 4 c0] w fun e w' => e = .returned (.int .i32 (-1)) ∧ Below w.heap.size w w' := by
 have HB := ak (Below.refl w.heap.size w)
 obtain ⟨ad, e0, hx0⟩ := Kd.at_int hr0 0 (by decide) (by decide)
 subst e0
 have hx0 : w.cell? ad = some (.int .u8 a) := by have h := hx0; simpa [rd, Addr.add] using h
 obtain ⟨ad1, e1, hx1⟩ := Kd.at_int hr0 1 (by decide) (by decide)
 obtain rfl := Option.some.inj e1
 have hx1 : w.cell? ⟨ad.block, ad.off + 1, none⟩ = some (.int .u8 b) := by have h := hx1; simpa [rd, Addr.add] using h
 obtain ⟨ad2, e2, hx2⟩ := Kd.at_int hr0 2 (by decide) (by decide)
 obtain rfl := Option.some.inj e2
 have hx2 : w.cell? ⟨ad.block, ad.off + 2, none⟩ = some (.int .u8 c) := by have h := hx2; simpa [rd, Addr.add] using h
 obtain ⟨ad3, e3, hx3⟩ := Kd.at_int hr0 3 (by decide) (by decide)
 obtain rfl := Option.some.inj e3
 have hx3 : w.cell? ⟨ad.block, ad.off + 3, none⟩ = some (.int .u8 d) := by have h := hx3; simpa [rd, Addr.add] using h
 have hw_a := fit32 (n := a) (by omega) (by omega)
 have hw_b := fit32 (n := b) (by omega) (by omega)
 have hw_c := fit32 (n := c) (by omega) (by omega)
 have hw_d := fit32 (n := d) (by omega) (by omega)
 have q0 := decide_eq_true p0
 have z0 := fit32 (n := a - 240) (by omega) (by omega)
 go_enter Tryz.func118, Tryz.ntmps118
 go_upto_region 3 with (first | ((with_reducible refine gate_dst (N := 4) rfl ?_); refine box_event ?hg (N := 4) ?hd (cs := #[.int .i32 0, .int .i32 0, .int .i32 0, .int .i32 0, .int .i32 0]) (t := 194) ?hr ?_; (case hd => rfl); (case hg => rfl); (case hr => first | (go_simp; done) | (go_simp; rfl)); intro gb hg w5 hbox hb; have n0_ := ak (below_step (by repeat (first | (with_reducible first | exact HB.out | apply wA | apply wN | apply wD) | exact HB.out)) hb); have n1_ := ak (hbox); have n3_ := ak ((by rw [hg]; exact (below_size (by repeat (first | (with_reducible first | exact HB.out | apply wA | apply wN | apply wD) | exact HB.out))) : w.heap.size ≤ gb)); clear HB; have HB := n0_; have BK := n1_; have GE := n3_; clear n0_ n1_ n3_; clear hb hbox hg; have hcz_0 : w5.cell? ⟨gb, 0, none⟩ = some (.int .i32 0) := (blk_cell BK.out 0).trans rfl; have hcz_1 : w5.cell? ⟨gb, 1, none⟩ = some (.int .i32 0) := (blk_cell BK.out 1).trans rfl; have hcz_2 : w5.cell? ⟨gb, 2, none⟩ = some (.int .i32 0) := (blk_cell BK.out 2).trans rfl; have hcz_3 : w5.cell? ⟨gb, 3, none⟩ = some (.int .i32 0) := (blk_cell BK.out 3).trans rfl; have hcz_4 : w5.cell? ⟨gb, 4, none⟩ = some (.int .i32 0) := (blk_cell BK.out 4).trans rfl; have hfz_0 := blk_frozen BK.out 0; have hfz_1 := blk_frozen BK.out 1; have hfz_2 := blk_frozen BK.out 2; have hfz_3 := blk_frozen BK.out 3; have hfz_4 := blk_frozen BK.out 4))
 refine name_world (fun W => W.heap[gb]? = some (.cells #[.int .i32 0, .int .i32 0, .int .i32 192, .int .i32 224, .int .i32 240] 194 (0, 0)) ∧ Below w.heap.size w W) ⟨?bk, ?be⟩ (fun W ⟨BKW, HBW⟩ => ?_)
 case bk => (with_reducible repeat (first | refine bN ?_ _ | refine bD ?_ | refine bA ?_ _)); refine blk_put (cs := #[.int .i32 0, .int .i32 0, .int .i32 192, .int .i32 224, .int .i32 0]) ?_ 4 _ rfl; (with_reducible repeat (first | refine bN ?_ _ | refine bD ?_ | refine bA ?_ _)); refine blk_put (cs := #[.int .i32 0, .int .i32 0, .int .i32 192, .int .i32 0, .int .i32 0]) ?_ 3 _ rfl; (with_reducible repeat (first | refine bN ?_ _ | refine bD ?_ | refine bA ?_ _)); refine blk_put (cs := #[.int .i32 0, .int .i32 0, .int .i32 0, .int .i32 0, .int .i32 0]) ?_ 2 _ rfl; (with_reducible repeat (first | refine bN ?_ _ | refine bD ?_ | refine bA ?_ _)); refine blk_put (cs := #[.int .i32 0, .int .i32 0, .int .i32 0, .int .i32 0, .int .i32 0]) ?_ 1 _ rfl; (with_reducible repeat (first | refine bN ?_ _ | refine bD ?_ | refine bA ?_ _)); refine blk_put (cs := #[.int .i32 0, .int .i32 0, .int .i32 0, .int .i32 0, .int .i32 0]) ?_ 0 _ rfl; (with_reducible repeat (first | refine bN ?_ _ | refine bD ?_ | refine bA ?_ _)); exact BK.out
 case be => repeat (first | (with_reducible first | exact HB.out | apply wA | apply wN | apply wD | refine below_set ?_ GE.out) | exact HB.out)
 have hk2 : W.cell? ⟨gb, 2, none⟩ = some (.int .i32 192) := (blk_cell BKW 2).trans rfl
 have hk3 : W.cell? ⟨gb, 3, none⟩ = some (.int .i32 224) := (blk_cell BKW 3).trans rfl
 have hk4 : W.cell? ⟨gb, 4, none⟩ = some (.int .i32 240) := (blk_cell BKW 4).trans rfl
 have hxW0 := (HBW.cell (World.block_lt_of_cell? w _ hx0)).trans hx0
 have hxW1 := (HBW.cell (World.block_lt_of_cell? w _ hx1)).trans hx1
 have hxW2 := (HBW.cell (World.block_lt_of_cell? w _ hx2)).trans hx2
 have hxW3 := (HBW.cell (World.block_lt_of_cell? w _ hx3)).trans hx3
 clear HB BK
 go_wp2
 refine wp_loop_rounds 4 ?_
 rw [rounds_succ]
 go_wp2
 rw [rounds_succ]
 go_wp2
 rw [rounds_succ]
 go_wp2
 rw [rounds_succ]
 go_wp2
 go_ret
 exact ⟨by first | rfl | (simp [*] <;> rfl), HBW⟩
set_option maxHeartbeats 8000000 in
set_option maxRecDepth 100000 in
theorem num4_above (A0 : Option Addr) (c0 : Nat) (a b c d : Int) (w : World) (hr0 : Kd.C (Kd.int .u8) w A0 4 [a, b, c, d]) (hc0 : 4 ≤ c0) (ha : 0 ≤ a ∧ a < 256) (hb : 0 ≤ b ∧ b < 256) (hc : 0 ≤ c ∧ c < 256) (hd : 0 ≤ d ∧ d < 256) (p0 : ¬ a < 240) (p1 : 248 ≤ a) :
  Calls Tryz.prog 118 #[.slice A0 4 c0] w fun e w' => e = .returned (.int .i32 (-1)) ∧ Below w.heap.size w w' := by
 have HB := ak (Below.refl w.heap.size w)
 obtain ⟨ad, e0, hx0⟩ := Kd.at_int hr0 0 (by decide) (by decide)
 subst e0
 have hx0 : w.cell? ad = some (.int .u8 a) := by have h := hx0; simpa [rd, Addr.add] using h
 obtain ⟨ad1, e1, hx1⟩ := Kd.at_int hr0 1 (by decide) (by decide)
 obtain rfl := Option.some.inj e1
 have hx1 : w.cell? ⟨ad.block, ad.off + 1, none⟩ = some (.int .u8 b) := by have h := hx1; simpa [rd, Addr.add] using h
 obtain ⟨ad2, e2, hx2⟩ := Kd.at_int hr0 2 (by decide) (by decide)
 obtain rfl := Option.some.inj e2
 have hx2 : w.cell? ⟨ad.block, ad.off + 2, none⟩ = some (.int .u8 c) := by have h := hx2; simpa [rd, Addr.add] using h
 obtain ⟨ad3, e3, hx3⟩ := Kd.at_int hr0 3 (by decide) (by decide)
 obtain rfl := Option.some.inj e3
 have hx3 : w.cell? ⟨ad.block, ad.off + 3, none⟩ = some (.int .u8 d) := by have h := hx3; simpa [rd, Addr.add] using h
 have hw_a := fit32 (n := a) (by omega) (by omega)
 have hw_b := fit32 (n := b) (by omega) (by omega)
 have hw_c := fit32 (n := c) (by omega) (by omega)
 have hw_d := fit32 (n := d) (by omega) (by omega)
 have q0 := decide_eq_false p0
 have q1 := decide_eq_true p1
 have z0 := fit32 (n := a - 240) (by omega) (by omega)
 go_enter Tryz.func118, Tryz.ntmps118
 go_upto_region 3 with (first | ((with_reducible refine gate_dst (N := 4) rfl ?_); refine box_event ?hg (N := 4) ?hd (cs := #[.int .i32 0, .int .i32 0, .int .i32 0, .int .i32 0, .int .i32 0]) (t := 194) ?hr ?_; (case hd => rfl); (case hg => rfl); (case hr => first | (go_simp; done) | (go_simp; rfl)); intro gb hg w5 hbox hb; have n0_ := ak (below_step (by repeat (first | (with_reducible first | exact HB.out | apply wA | apply wN | apply wD) | exact HB.out)) hb); have n1_ := ak (hbox); have n3_ := ak ((by rw [hg]; exact (below_size (by repeat (first | (with_reducible first | exact HB.out | apply wA | apply wN | apply wD) | exact HB.out))) : w.heap.size ≤ gb)); clear HB; have HB := n0_; have BK := n1_; have GE := n3_; clear n0_ n1_ n3_; clear hb hbox hg; have hcz_0 : w5.cell? ⟨gb, 0, none⟩ = some (.int .i32 0) := (blk_cell BK.out 0).trans rfl; have hcz_1 : w5.cell? ⟨gb, 1, none⟩ = some (.int .i32 0) := (blk_cell BK.out 1).trans rfl; have hcz_2 : w5.cell? ⟨gb, 2, none⟩ = some (.int .i32 0) := (blk_cell BK.out 2).trans rfl; have hcz_3 : w5.cell? ⟨gb, 3, none⟩ = some (.int .i32 0) := (blk_cell BK.out 3).trans rfl; have hcz_4 : w5.cell? ⟨gb, 4, none⟩ = some (.int .i32 0) := (blk_cell BK.out 4).trans rfl; have hfz_0 := blk_frozen BK.out 0; have hfz_1 := blk_frozen BK.out 1; have hfz_2 := blk_frozen BK.out 2; have hfz_3 := blk_frozen BK.out 3; have hfz_4 := blk_frozen BK.out 4))
 refine name_world (fun W => W.heap[gb]? = some (.cells #[.int .i32 0, .int .i32 0, .int .i32 192, .int .i32 224, .int .i32 240] 194 (0, 0)) ∧ Below w.heap.size w W) ⟨?bk, ?be⟩ (fun W ⟨BKW, HBW⟩ => ?_)
 case bk => (with_reducible repeat (first | refine bN ?_ _ | refine bD ?_ | refine bA ?_ _)); refine blk_put (cs := #[.int .i32 0, .int .i32 0, .int .i32 192, .int .i32 224, .int .i32 0]) ?_ 4 _ rfl; (with_reducible repeat (first | refine bN ?_ _ | refine bD ?_ | refine bA ?_ _)); refine blk_put (cs := #[.int .i32 0, .int .i32 0, .int .i32 192, .int .i32 0, .int .i32 0]) ?_ 3 _ rfl; (with_reducible repeat (first | refine bN ?_ _ | refine bD ?_ | refine bA ?_ _)); refine blk_put (cs := #[.int .i32 0, .int .i32 0, .int .i32 0, .int .i32 0, .int .i32 0]) ?_ 2 _ rfl; (with_reducible repeat (first | refine bN ?_ _ | refine bD ?_ | refine bA ?_ _)); refine blk_put (cs := #[.int .i32 0, .int .i32 0, .int .i32 0, .int .i32 0, .int .i32 0]) ?_ 1 _ rfl; (with_reducible repeat (first | refine bN ?_ _ | refine bD ?_ | refine bA ?_ _)); refine blk_put (cs := #[.int .i32 0, .int .i32 0, .int .i32 0, .int .i32 0, .int .i32 0]) ?_ 0 _ rfl; (with_reducible repeat (first | refine bN ?_ _ | refine bD ?_ | refine bA ?_ _)); exact BK.out
 case be => repeat (first | (with_reducible first | exact HB.out | apply wA | apply wN | apply wD | refine below_set ?_ GE.out) | exact HB.out)
 have hk2 : W.cell? ⟨gb, 2, none⟩ = some (.int .i32 192) := (blk_cell BKW 2).trans rfl
 have hk3 : W.cell? ⟨gb, 3, none⟩ = some (.int .i32 224) := (blk_cell BKW 3).trans rfl
 have hk4 : W.cell? ⟨gb, 4, none⟩ = some (.int .i32 240) := (blk_cell BKW 4).trans rfl
 have hxW0 := (HBW.cell (World.block_lt_of_cell? w _ hx0)).trans hx0
 have hxW1 := (HBW.cell (World.block_lt_of_cell? w _ hx1)).trans hx1
 have hxW2 := (HBW.cell (World.block_lt_of_cell? w _ hx2)).trans hx2
 have hxW3 := (HBW.cell (World.block_lt_of_cell? w _ hx3)).trans hx3
 clear HB BK
 go_wp2
 refine wp_loop_rounds 4 ?_
 rw [rounds_succ]
 go_wp2
 rw [rounds_succ]
 go_wp2
 rw [rounds_succ]
 go_wp2
 rw [rounds_succ]
 go_wp2
 go_ret
 exact ⟨by first | rfl | (simp [*] <;> rfl), HBW⟩
set_option maxHeartbeats 8000000 in
set_option maxRecDepth 100000 in
theorem num4_lo1 (A0 : Option Addr) (c0 : Nat) (a b c d : Int) (w : World) (hr0 : Kd.C (Kd.int .u8) w A0 4 [a, b, c, d]) (hc0 : 4 ≤ c0) (ha : 0 ≤ a ∧ a < 256) (hb : 0 ≤ b ∧ b < 256) (hc : 0 ≤ c ∧ c < 256) (hd : 0 ≤ d ∧ d < 256) (p0 : ¬ a < 240) (p1 : ¬ 248 ≤ a) (p2 : b < 128) :
  Calls Tryz.prog 118 #[.slice A0 4 c0] w fun e w' => e = .returned (.int .i32 (-1)) ∧ Below w.heap.size w w' := by
 have HB := ak (Below.refl w.heap.size w)
 obtain ⟨ad, e0, hx0⟩ := Kd.at_int hr0 0 (by decide) (by decide)
 subst e0
 have hx0 : w.cell? ad = some (.int .u8 a) := by have h := hx0; simpa [rd, Addr.add] using h
 obtain ⟨ad1, e1, hx1⟩ := Kd.at_int hr0 1 (by decide) (by decide)
 obtain rfl := Option.some.inj e1
 have hx1 : w.cell? ⟨ad.block, ad.off + 1, none⟩ = some (.int .u8 b) := by have h := hx1; simpa [rd, Addr.add] using h
 obtain ⟨ad2, e2, hx2⟩ := Kd.at_int hr0 2 (by decide) (by decide)
 obtain rfl := Option.some.inj e2
 have hx2 : w.cell? ⟨ad.block, ad.off + 2, none⟩ = some (.int .u8 c) := by have h := hx2; simpa [rd, Addr.add] using h
 obtain ⟨ad3, e3, hx3⟩ := Kd.at_int hr0 3 (by decide) (by decide)
 obtain rfl := Option.some.inj e3
 have hx3 : w.cell? ⟨ad.block, ad.off + 3, none⟩ = some (.int .u8 d) := by have h := hx3; simpa [rd, Addr.add] using h
 have hw_a := fit32 (n := a) (by omega) (by omega)
 have hw_b := fit32 (n := b) (by omega) (by omega)
 have hw_c := fit32 (n := c) (by omega) (by omega)
 have hw_d := fit32 (n := d) (by omega) (by omega)
 have q0 := decide_eq_false p0
 have q1 := decide_eq_false p1
 have q2 := decide_eq_true p2
 have z0 := fit32 (n := a - 240) (by omega) (by omega)
 go_enter Tryz.func118, Tryz.ntmps118
 go_upto_region 3 with (first | ((with_reducible refine gate_dst (N := 4) rfl ?_); refine box_event ?hg (N := 4) ?hd (cs := #[.int .i32 0, .int .i32 0, .int .i32 0, .int .i32 0, .int .i32 0]) (t := 194) ?hr ?_; (case hd => rfl); (case hg => rfl); (case hr => first | (go_simp; done) | (go_simp; rfl)); intro gb hg w5 hbox hb; have n0_ := ak (below_step (by repeat (first | (with_reducible first | exact HB.out | apply wA | apply wN | apply wD) | exact HB.out)) hb); have n1_ := ak (hbox); have n3_ := ak ((by rw [hg]; exact (below_size (by repeat (first | (with_reducible first | exact HB.out | apply wA | apply wN | apply wD) | exact HB.out))) : w.heap.size ≤ gb)); clear HB; have HB := n0_; have BK := n1_; have GE := n3_; clear n0_ n1_ n3_; clear hb hbox hg; have hcz_0 : w5.cell? ⟨gb, 0, none⟩ = some (.int .i32 0) := (blk_cell BK.out 0).trans rfl; have hcz_1 : w5.cell? ⟨gb, 1, none⟩ = some (.int .i32 0) := (blk_cell BK.out 1).trans rfl; have hcz_2 : w5.cell? ⟨gb, 2, none⟩ = some (.int .i32 0) := (blk_cell BK.out 2).trans rfl; have hcz_3 : w5.cell? ⟨gb, 3, none⟩ = some (.int .i32 0) := (blk_cell BK.out 3).trans rfl; have hcz_4 : w5.cell? ⟨gb, 4, none⟩ = some (.int .i32 0) := (blk_cell BK.out 4).trans rfl; have hfz_0 := blk_frozen BK.out 0; have hfz_1 := blk_frozen BK.out 1; have hfz_2 := blk_frozen BK.out 2; have hfz_3 := blk_frozen BK.out 3; have hfz_4 := blk_frozen BK.out 4))
 refine name_world (fun W => W.heap[gb]? = some (.cells #[.int .i32 0, .int .i32 0, .int .i32 192, .int .i32 224, .int .i32 240] 194 (0, 0)) ∧ Below w.heap.size w W) ⟨?bk, ?be⟩ (fun W ⟨BKW, HBW⟩ => ?_)
 case bk => (with_reducible repeat (first | refine bN ?_ _ | refine bD ?_ | refine bA ?_ _)); refine blk_put (cs := #[.int .i32 0, .int .i32 0, .int .i32 192, .int .i32 224, .int .i32 0]) ?_ 4 _ rfl; (with_reducible repeat (first | refine bN ?_ _ | refine bD ?_ | refine bA ?_ _)); refine blk_put (cs := #[.int .i32 0, .int .i32 0, .int .i32 192, .int .i32 0, .int .i32 0]) ?_ 3 _ rfl; (with_reducible repeat (first | refine bN ?_ _ | refine bD ?_ | refine bA ?_ _)); refine blk_put (cs := #[.int .i32 0, .int .i32 0, .int .i32 0, .int .i32 0, .int .i32 0]) ?_ 2 _ rfl; (with_reducible repeat (first | refine bN ?_ _ | refine bD ?_ | refine bA ?_ _)); refine blk_put (cs := #[.int .i32 0, .int .i32 0, .int .i32 0, .int .i32 0, .int .i32 0]) ?_ 1 _ rfl; (with_reducible repeat (first | refine bN ?_ _ | refine bD ?_ | refine bA ?_ _)); refine blk_put (cs := #[.int .i32 0, .int .i32 0, .int .i32 0, .int .i32 0, .int .i32 0]) ?_ 0 _ rfl; (with_reducible repeat (first | refine bN ?_ _ | refine bD ?_ | refine bA ?_ _)); exact BK.out
 case be => repeat (first | (with_reducible first | exact HB.out | apply wA | apply wN | apply wD | refine below_set ?_ GE.out) | exact HB.out)
 have hk2 : W.cell? ⟨gb, 2, none⟩ = some (.int .i32 192) := (blk_cell BKW 2).trans rfl
 have hk3 : W.cell? ⟨gb, 3, none⟩ = some (.int .i32 224) := (blk_cell BKW 3).trans rfl
 have hk4 : W.cell? ⟨gb, 4, none⟩ = some (.int .i32 240) := (blk_cell BKW 4).trans rfl
 have hxW0 := (HBW.cell (World.block_lt_of_cell? w _ hx0)).trans hx0
 have hxW1 := (HBW.cell (World.block_lt_of_cell? w _ hx1)).trans hx1
 have hxW2 := (HBW.cell (World.block_lt_of_cell? w _ hx2)).trans hx2
 have hxW3 := (HBW.cell (World.block_lt_of_cell? w _ hx3)).trans hx3
 clear HB BK
 go_wp2
 refine wp_loop_rounds 4 ?_
 rw [rounds_succ]
 go_wp2
 rw [rounds_succ]
 go_wp2
 rw [rounds_succ]
 go_wp2
 refine wp_loop_rounds 4 ?_
 rw [rounds_succ]
 go_wp2
 go_ret
 exact ⟨by first | rfl | (simp [*] <;> rfl), HBW⟩
set_option maxHeartbeats 8000000 in
set_option maxRecDepth 100000 in
theorem num4_hi1 (A0 : Option Addr) (c0 : Nat) (a b c d : Int) (w : World) (hr0 : Kd.C (Kd.int .u8) w A0 4 [a, b, c, d]) (hc0 : 4 ≤ c0) (ha : 0 ≤ a ∧ a < 256) (hb : 0 ≤ b ∧ b < 256) (hc : 0 ≤ c ∧ c < 256) (hd : 0 ≤ d ∧ d < 256) (p0 : ¬ a < 240) (p1 : ¬ 248 ≤ a) (p2 : ¬ b < 128) (p3 : 192 ≤ b) :
  Calls Tryz.prog 118 #[.slice A0 4 c0] w fun e w' => e = .returned (.int .i32 (-1)) ∧ Below w.heap.size w w' := by
 have HB := ak (Below.refl w.heap.size w)
 obtain ⟨ad, e0, hx0⟩ := Kd.at_int hr0 0 (by decide) (by decide)
 subst e0
 have hx0 : w.cell? ad = some (.int .u8 a) := by have h := hx0; simpa [rd, Addr.add] using h
 obtain ⟨ad1, e1, hx1⟩ := Kd.at_int hr0 1 (by decide) (by decide)
 obtain rfl := Option.some.inj e1
 have hx1 : w.cell? ⟨ad.block, ad.off + 1, none⟩ = some (.int .u8 b) := by have h := hx1; simpa [rd, Addr.add] using h
 obtain ⟨ad2, e2, hx2⟩ := Kd.at_int hr0 2 (by decide) (by decide)
 obtain rfl := Option.some.inj e2
 have hx2 : w.cell? ⟨ad.block, ad.off + 2, none⟩ = some (.int .u8 c) := by have h := hx2; simpa [rd, Addr.add] using h
 obtain ⟨ad3, e3, hx3⟩ := Kd.at_int hr0 3 (by decide) (by decide)
 obtain rfl := Option.some.inj e3
 have hx3 : w.cell? ⟨ad.block, ad.off + 3, none⟩ = some (.int .u8 d) := by have h := hx3; simpa [rd, Addr.add] using h
 have hw_a := fit32 (n := a) (by omega) (by omega)
 have hw_b := fit32 (n := b) (by omega) (by omega)
 have hw_c := fit32 (n := c) (by omega) (by omega)
 have hw_d := fit32 (n := d) (by omega) (by omega)
 have q0 := decide_eq_false p0
 have q1 := decide_eq_false p1
 have q2 := decide_eq_false p2
 have q3 := decide_eq_true p3
 have z0 := fit32 (n := a - 240) (by omega) (by omega)
 go_enter Tryz.func118, Tryz.ntmps118
 go_upto_region 3 with (first | ((with_reducible refine gate_dst (N := 4) rfl ?_); refine box_event ?hg (N := 4) ?hd (cs := #[.int .i32 0, .int .i32 0, .int .i32 0, .int .i32 0, .int .i32 0]) (t := 194) ?hr ?_; (case hd => rfl); (case hg => rfl); (case hr => first | (go_simp; done) | (go_simp; rfl)); intro gb hg w5 hbox hb; have n0_ := ak (below_step (by repeat (first | (with_reducible first | exact HB.out | apply wA | apply wN | apply wD) | exact HB.out)) hb); have n1_ := ak (hbox); have n3_ := ak ((by rw [hg]; exact (below_size (by repeat (first | (with_reducible first | exact HB.out | apply wA | apply wN | apply wD) | exact HB.out))) : w.heap.size ≤ gb)); clear HB; have HB := n0_; have BK := n1_; have GE := n3_; clear n0_ n1_ n3_; clear hb hbox hg; have hcz_0 : w5.cell? ⟨gb, 0, none⟩ = some (.int .i32 0) := (blk_cell BK.out 0).trans rfl; have hcz_1 : w5.cell? ⟨gb, 1, none⟩ = some (.int .i32 0) := (blk_cell BK.out 1).trans rfl; have hcz_2 : w5.cell? ⟨gb, 2, none⟩ = some (.int .i32 0) := (blk_cell BK.out 2).trans rfl; have hcz_3 : w5.cell? ⟨gb, 3, none⟩ = some (.int .i32 0) := (blk_cell BK.out 3).trans rfl; have hcz_4 : w5.cell? ⟨gb, 4, none⟩ = some (.int .i32 0) := (blk_cell BK.out 4).trans rfl; have hfz_0 := blk_frozen BK.out 0; have hfz_1 := blk_frozen BK.out 1; have hfz_2 := blk_frozen BK.out 2; have hfz_3 := blk_frozen BK.out 3; have hfz_4 := blk_frozen BK.out 4))
 refine name_world (fun W => W.heap[gb]? = some (.cells #[.int .i32 0, .int .i32 0, .int .i32 192, .int .i32 224, .int .i32 240] 194 (0, 0)) ∧ Below w.heap.size w W) ⟨?bk, ?be⟩ (fun W ⟨BKW, HBW⟩ => ?_)
 case bk => (with_reducible repeat (first | refine bN ?_ _ | refine bD ?_ | refine bA ?_ _)); refine blk_put (cs := #[.int .i32 0, .int .i32 0, .int .i32 192, .int .i32 224, .int .i32 0]) ?_ 4 _ rfl; (with_reducible repeat (first | refine bN ?_ _ | refine bD ?_ | refine bA ?_ _)); refine blk_put (cs := #[.int .i32 0, .int .i32 0, .int .i32 192, .int .i32 0, .int .i32 0]) ?_ 3 _ rfl; (with_reducible repeat (first | refine bN ?_ _ | refine bD ?_ | refine bA ?_ _)); refine blk_put (cs := #[.int .i32 0, .int .i32 0, .int .i32 0, .int .i32 0, .int .i32 0]) ?_ 2 _ rfl; (with_reducible repeat (first | refine bN ?_ _ | refine bD ?_ | refine bA ?_ _)); refine blk_put (cs := #[.int .i32 0, .int .i32 0, .int .i32 0, .int .i32 0, .int .i32 0]) ?_ 1 _ rfl; (with_reducible repeat (first | refine bN ?_ _ | refine bD ?_ | refine bA ?_ _)); refine blk_put (cs := #[.int .i32 0, .int .i32 0, .int .i32 0, .int .i32 0, .int .i32 0]) ?_ 0 _ rfl; (with_reducible repeat (first | refine bN ?_ _ | refine bD ?_ | refine bA ?_ _)); exact BK.out
 case be => repeat (first | (with_reducible first | exact HB.out | apply wA | apply wN | apply wD | refine below_set ?_ GE.out) | exact HB.out)
 have hk2 : W.cell? ⟨gb, 2, none⟩ = some (.int .i32 192) := (blk_cell BKW 2).trans rfl
 have hk3 : W.cell? ⟨gb, 3, none⟩ = some (.int .i32 224) := (blk_cell BKW 3).trans rfl
 have hk4 : W.cell? ⟨gb, 4, none⟩ = some (.int .i32 240) := (blk_cell BKW 4).trans rfl
 have hxW0 := (HBW.cell (World.block_lt_of_cell? w _ hx0)).trans hx0
 have hxW1 := (HBW.cell (World.block_lt_of_cell? w _ hx1)).trans hx1
 have hxW2 := (HBW.cell (World.block_lt_of_cell? w _ hx2)).trans hx2
 have hxW3 := (HBW.cell (World.block_lt_of_cell? w _ hx3)).trans hx3
 clear HB BK
 go_wp2
 refine wp_loop_rounds 4 ?_
 rw [rounds_succ]
 go_wp2
 rw [rounds_succ]
 go_wp2
 rw [rounds_succ]
 go_wp2
 refine wp_loop_rounds 4 ?_
 rw [rounds_succ]
 go_wp2
 go_ret
 exact ⟨by first | rfl | (simp [*] <;> rfl), HBW⟩
set_option maxHeartbeats 8000000 in
set_option maxRecDepth 100000 in
theorem num4_lo2 (A0 : Option Addr) (c0 : Nat) (a b c d : Int) (w : World) (hr0 : Kd.C (Kd.int .u8) w A0 4 [a, b, c, d]) (hc0 : 4 ≤ c0) (ha : 0 ≤ a ∧ a < 256) (hb : 0 ≤ b ∧ b < 256) (hc : 0 ≤ c ∧ c < 256) (hd : 0 ≤ d ∧ d < 256) (p0 : ¬ a < 240) (p1 : ¬ 248 ≤ a) (p2 : ¬ b < 128) (p3 : ¬ 192 ≤ b) (p4 : c < 128) :
  Calls Tryz.prog 118 #[.slice A0 4 c0] w fun e w' => e = .returned (.int .i32 (-1)) ∧ Below w.heap.size w w' := by
 have HB := ak (Below.refl w.heap.size w)
 obtain ⟨ad, e0, hx0⟩ := Kd.at_int hr0 0 (by decide) (by decide)
 subst e0
 have hx0 : w.cell? ad = some (.int .u8 a) := by have h := hx0; simpa [rd, Addr.add] using h
 obtain ⟨ad1, e1, hx1⟩ := Kd.at_int hr0 1 (by decide) (by decide)
 obtain rfl := Option.some.inj e1
 have hx1 : w.cell? ⟨ad.block, ad.off + 1, none⟩ = some (.int .u8 b) := by have h := hx1; simpa [rd, Addr.add] using h
 obtain ⟨ad2, e2, hx2⟩ := Kd.at_int hr0 2 (by decide) (by decide)
 obtain rfl := Option.some.inj e2
 have hx2 : w.cell? ⟨ad.block, ad.off + 2, none⟩ = some (.int .u8 c) := by have h := hx2; simpa [rd, Addr.add] using h
 obtain ⟨ad3, e3, hx3⟩ := Kd.at_int hr0 3 (by decide) (by decide)
 obtain rfl := Option.some.inj e3
 have hx3 : w.cell? ⟨ad.block, ad.off + 3, none⟩ = some (.int .u8 d) := by have h := hx3; simpa [rd, Addr.add] using h
 have hw_a := fit32 (n := a) (by omega) (by omega)
 have hw_b := fit32 (n := b) (by omega) (by omega)
 have hw_c := fit32 (n := c) (by omega) (by omega)
 have hw_d := fit32 (n := d) (by omega) (by omega)
 have q0 := decide_eq_false p0
 have q1 := decide_eq_false p1
 have q2 := decide_eq_false p2
 have q3 := decide_eq_false p3
 have q4 := decide_eq_true p4
 have z0 := fit32 (n := a - 240) (by omega) (by omega)
 have z1a := fit32 (n := 64 * (a - 240)) (by omega) (by omega)
 have z1b := fit32 (n := 64 * (a - 240) + b) (by omega) (by omega)
 have z1c := fit32 (n := 64 * (a - 240) + b - 128) (by omega) (by omega)
 go_enter Tryz.func118, Tryz.ntmps118
 go_upto_region 3 with (first | ((with_reducible refine gate_dst (N := 4) rfl ?_); refine box_event ?hg (N := 4) ?hd (cs := #[.int .i32 0, .int .i32 0, .int .i32 0, .int .i32 0, .int .i32 0]) (t := 194) ?hr ?_; (case hd => rfl); (case hg => rfl); (case hr => first | (go_simp; done) | (go_simp; rfl)); intro gb hg w5 hbox hb; have n0_ := ak (below_step (by repeat (first | (with_reducible first | exact HB.out | apply wA | apply wN | apply wD) | exact HB.out)) hb); have n1_ := ak (hbox); have n3_ := ak ((by rw [hg]; exact (below_size (by repeat (first | (with_reducible first | exact HB.out | apply wA | apply wN | apply wD) | exact HB.out))) : w.heap.size ≤ gb)); clear HB; have HB := n0_; have BK := n1_; have GE := n3_; clear n0_ n1_ n3_; clear hb hbox hg; have hcz_0 : w5.cell? ⟨gb, 0, none⟩ = some (.int .i32 0) := (blk_cell BK.out 0).trans rfl; have hcz_1 : w5.cell? ⟨gb, 1, none⟩ = some (.int .i32 0) := (blk_cell BK.out 1).trans rfl; have hcz_2 : w5.cell? ⟨gb, 2, none⟩ = some (.int .i32 0) := (blk_cell BK.out 2).trans rfl; have hcz_3 : w5.cell? ⟨gb, 3, none⟩ = some (.int .i32 0) := (blk_cell BK.out 3).trans rfl; have hcz_4 : w5.cell? ⟨gb, 4, none⟩ = some (.int .i32 0) := (blk_cell BK.out 4).trans rfl; have hfz_0 := blk_frozen BK.out 0; have hfz_1 := blk_frozen BK.out 1; have hfz_2 := blk_frozen BK.out 2; have hfz_3 := blk_frozen BK.out 3; have hfz_4 := blk_frozen BK.out 4))
 refine name_world (fun W => W.heap[gb]? = some (.cells #[.int .i32 0, .int .i32 0, .int .i32 192, .int .i32 224, .int .i32 240] 194 (0, 0)) ∧ Below w.heap.size w W) ⟨?bk, ?be⟩ (fun W ⟨BKW, HBW⟩ => ?_)
 case bk => (with_reducible repeat (first | refine bN ?_ _ | refine bD ?_ | refine bA ?_ _)); refine blk_put (cs := #[.int .i32 0, .int .i32 0, .int .i32 192, .int .i32 224, .int .i32 0]) ?_ 4 _ rfl; (with_reducible repeat (first | refine bN ?_ _ | refine bD ?_ | refine bA ?_ _)); refine blk_put (cs := #[.int .i32 0, .int .i32 0, .int .i32 192, .int .i32 0, .int .i32 0]) ?_ 3 _ rfl; (with_reducible repeat (first | refine bN ?_ _ | refine bD ?_ | refine bA ?_ _)); refine blk_put (cs := #[.int .i32 0, .int .i32 0, .int .i32 0, .int .i32 0, .int .i32 0]) ?_ 2 _ rfl; (with_reducible repeat (first | refine bN ?_ _ | refine bD ?_ | refine bA ?_ _)); refine blk_put (cs := #[.int .i32 0, .int .i32 0, .int .i32 0, .int .i32 0, .int .i32 0]) ?_ 1 _ rfl; (with_reducible repeat (first | refine bN ?_ _ | refine bD ?_ | refine bA ?_ _)); refine blk_put (cs := #[.int .i32 0, .int .i32 0, .int .i32 0, .int .i32 0, .int .i32 0]) ?_ 0 _ rfl; (with_reducible repeat (first | refine bN ?_ _ | refine bD ?_ | refine bA ?_ _)); exact BK.out
 case be => repeat (first | (with_reducible first | exact HB.out | apply wA | apply wN | apply wD | refine below_set ?_ GE.out) | exact HB.out)
 have hk2 : W.cell? ⟨gb, 2, none⟩ = some (.int .i32 192) := (blk_cell BKW 2).trans rfl
 have hk3 : W.cell? ⟨gb, 3, none⟩ = some (.int .i32 224) := (blk_cell BKW 3).trans rfl
 have hk4 : W.cell? ⟨gb, 4, none⟩ = some (.int .i32 240) := (blk_cell BKW 4).trans rfl
 have hxW0 := (HBW.cell (World.block_lt_of_cell? w _ hx0)).trans hx0
 have hxW1 := (HBW.cell (World.block_lt_of_cell? w _ hx1)).trans hx1
 have hxW2 := (HBW.cell (World.block_lt_of_cell? w _ hx2)).trans hx2
 have hxW3 := (HBW.cell (World.block_lt_of_cell? w _ hx3)).trans hx3
 clear HB BK
 go_wp2
 refine wp_loop_rounds 4 ?_
 rw [rounds_succ]
 go_wp2
 rw [rounds_succ]
 go_wp2
 rw [rounds_succ]
 go_wp2
 refine wp_loop_rounds 4 ?_
 rw [rounds_succ]
 go_wp2
 rw [rounds_succ]
 go_wp2
 go_ret
 exact ⟨by first | rfl | (simp [*] <;> rfl), HBW⟩
set_option maxHeartbeats 8000000 in
set_option maxRecDepth 100000 in
theorem num4_hi2 (A0 : Option Addr) (c0 : Nat) (a b c d : Int) (w : World) (hr0 : Kd.C (Kd.int .u8) w A0 4 [a, b, c, d]) (hc0 : 4 ≤ c0) (ha : 0 ≤ a ∧ a < 256) (hb : 0 ≤ b ∧ b < 256) (hc : 0 ≤ c ∧ c < 256) (hd : 0 ≤ d ∧ d < 256) (p0 : ¬ a < 240) (p1 : ¬ 248 ≤ a) (p2 : ¬ b < 128) (p3 : ¬ 192 ≤ b) (p4 : ¬ c < 128) (p5 : 192 ≤ c) :
  Calls Tryz.prog 118 #[.slice A0 4 c0] w fun e w' => e = .returned (.int .i32 (-1)) ∧ Below w.heap.size w w' := by
 have HB := ak (Below.refl w.heap.size w)
 obtain ⟨ad, e0, hx0⟩ := Kd.at_int hr0 0 (by decide) (by decide)
 subst e0
 have hx0 : w.cell? ad = some (.int .u8 a) := by have h := hx0; simpa [rd, Addr.add] using h
 obtain ⟨ad1, e1, hx1⟩ := Kd.at_int hr0 1 (by decide) (by decide)
 obtain rfl := Option.some.inj e1
 have hx1 : w.cell? ⟨ad.block, ad.off + 1, none⟩ = some (.int .u8 b) := by have h := hx1; simpa [rd, Addr.add] using h
 obtain ⟨ad2, e2, hx2⟩ := Kd.at_int hr0 2 (by decide) (by decide)
 obtain rfl := Option.some.inj e2
 have hx2 : w.cell? ⟨ad.block, ad.off + 2, none⟩ = some (.int .u8 c) := by have h := hx2; simpa [rd, Addr.add] using h
 obtain ⟨ad3, e3, hx3⟩ := Kd.at_int hr0 3 (by decide) (by decide)
 obtain rfl := Option.some.inj e3
 have hx3 : w.cell? ⟨ad.block, ad.off + 3, none⟩ = some (.int .u8 d) := by have h := hx3; simpa [rd, Addr.add] using h
 have hw_a := fit32 (n := a) (by omega) (by omega)
 have hw_b := fit32 (n := b) (by omega) (by omega)
 have hw_c := fit32 (n := c) (by omega) (by omega)
 have hw_d := fit32 (n := d) (by omega) (by omega)
 have q0 := decide_eq_false p0
 have q1 := decide_eq_false p1
 have q2 := decide_eq_false p2
 have q3 := decide_eq_false p3
 have q4 := decide_eq_false p4
 have q5 := decide_eq_true p5
 have z0 := fit32 (n := a - 240) (by omega) (by omega)
 have z1a := fit32 (n := 64 * (a - 240)) (by omega) (by omega)
 have z1b := fit32 (n := 64 * (a - 240) + b) (by omega) (by omega)
 have z1c := fit32 (n := 64 * (a - 240) + b - 128) (by omega) (by omega)
 go_enter Tryz.func118, Tryz.ntmps118
 go_upto_region 3 with (first | ((with_reducible refine gate_dst (N := 4) rfl ?_); refine box_event ?hg (N := 4) ?hd (cs := #[.int .i32 0, .int .i32 0, .int .i32 0, .int .i32 0, .int .i32 0]) (t := 194) ?hr ?_; (case hd => rfl); (case hg => rfl); (case hr => first | (go_simp; done) | (go_simp; rfl)); intro gb hg w5 hbox hb; have n0_ := ak (below_step (by repeat (first | (with_reducible first | exact HB.out | apply wA | apply wN | apply wD) | exact HB.out)) hb); have n1_ := ak (hbox); have n3_ := ak ((by rw [hg]; exact (below_size (by repeat (first | (with_reducible first | exact HB.out | apply wA | apply wN | apply wD) | exact HB.out))) : w.heap.size ≤ gb)); clear HB; have HB := n0_; have BK := n1_; have GE := n3_; clear n0_ n1_ n3_; clear hb hbox hg; have hcz_0 : w5.cell? ⟨gb, 0, none⟩ = some (.int .i32 0) := (blk_cell BK.out 0).trans rfl; have hcz_1 : w5.cell? ⟨gb, 1, none⟩ = some (.int .i32 0) := (blk_cell BK.out 1).trans rfl; have hcz_2 : w5.cell? ⟨gb, 2, none⟩ = some (.int .i32 0) := (blk_cell BK.out 2).trans rfl; have hcz_3 : w5.cell? ⟨gb, 3, none⟩ = some (.int .i32 0) := (blk_cell BK.out 3).trans rfl; have hcz_4 : w5.cell? ⟨gb, 4, none⟩ = some (.int .i32 0) := (blk_cell BK.out 4).trans rfl; have hfz_0 := blk_frozen BK.out 0; have hfz_1 := blk_frozen BK.out 1; have hfz_2 := blk_frozen BK.out 2; have hfz_3 := blk_frozen BK.out 3; have hfz_4 := blk_frozen BK.out 4))
 refine name_world (fun W => W.heap[gb]? = some (.cells #[.int .i32 0, .int .i32 0, .int .i32 192, .int .i32 224, .int .i32 240] 194 (0, 0)) ∧ Below w.heap.size w W) ⟨?bk, ?be⟩ (fun W ⟨BKW, HBW⟩ => ?_)
 case bk => (with_reducible repeat (first | refine bN ?_ _ | refine bD ?_ | refine bA ?_ _)); refine blk_put (cs := #[.int .i32 0, .int .i32 0, .int .i32 192, .int .i32 224, .int .i32 0]) ?_ 4 _ rfl; (with_reducible repeat (first | refine bN ?_ _ | refine bD ?_ | refine bA ?_ _)); refine blk_put (cs := #[.int .i32 0, .int .i32 0, .int .i32 192, .int .i32 0, .int .i32 0]) ?_ 3 _ rfl; (with_reducible repeat (first | refine bN ?_ _ | refine bD ?_ | refine bA ?_ _)); refine blk_put (cs := #[.int .i32 0, .int .i32 0, .int .i32 0, .int .i32 0, .int .i32 0]) ?_ 2 _ rfl; (with_reducible repeat (first | refine bN ?_ _ | refine bD ?_ | refine bA ?_ _)); refine blk_put (cs := #[.int .i32 0, .int .i32 0, .int .i32 0, .int .i32 0, .int .i32 0]) ?_ 1 _ rfl; (with_reducible repeat (first | refine bN ?_ _ | refine bD ?_ | refine bA ?_ _)); refine blk_put (cs := #[.int .i32 0, .int .i32 0, .int .i32 0, .int .i32 0, .int .i32 0]) ?_ 0 _ rfl; (with_reducible repeat (first | refine bN ?_ _ | refine bD ?_ | refine bA ?_ _)); exact BK.out
 case be => repeat (first | (with_reducible first | exact HB.out | apply wA | apply wN | apply wD | refine below_set ?_ GE.out) | exact HB.out)
 have hk2 : W.cell? ⟨gb, 2, none⟩ = some (.int .i32 192) := (blk_cell BKW 2).trans rfl
 have hk3 : W.cell? ⟨gb, 3, none⟩ = some (.int .i32 224) := (blk_cell BKW 3).trans rfl
 have hk4 : W.cell? ⟨gb, 4, none⟩ = some (.int .i32 240) := (blk_cell BKW 4).trans rfl
 have hxW0 := (HBW.cell (World.block_lt_of_cell? w _ hx0)).trans hx0
 have hxW1 := (HBW.cell (World.block_lt_of_cell? w _ hx1)).trans hx1
 have hxW2 := (HBW.cell (World.block_lt_of_cell? w _ hx2)).trans hx2
 have hxW3 := (HBW.cell (World.block_lt_of_cell? w _ hx3)).trans hx3
 clear HB BK
 go_wp2
 refine wp_loop_rounds 4 ?_
 rw [rounds_succ]
 go_wp2
 rw [rounds_succ]
 go_wp2
 rw [rounds_succ]
 go_wp2
 refine wp_loop_rounds 4 ?_
 rw [rounds_succ]
 go_wp2
 rw [rounds_succ]
 go_wp2
 go_ret
 exact ⟨by first | rfl | (simp [*] <;> rfl), HBW⟩
set_option maxHeartbeats 8000000 in
set_option maxRecDepth 100000 in
theorem num4_lo3 (A0 : Option Addr) (c0 : Nat) (a b c d : Int) (w : World) (hr0 : Kd.C (Kd.int .u8) w A0 4 [a, b, c, d]) (hc0 : 4 ≤ c0) (ha : 0 ≤ a ∧ a < 256) (hb : 0 ≤ b ∧ b < 256) (hc : 0 ≤ c ∧ c < 256) (hd : 0 ≤ d ∧ d < 256) (p0 : ¬ a < 240) (p1 : ¬ 248 ≤ a) (p2 : ¬ b < 128) (p3 : ¬ 192 ≤ b) (p4 : ¬ c < 128) (p5 : ¬ 192 ≤ c) (p6 : d < 128) :
  Calls Tryz.prog 118 #[.slice A0 4 c0] w fun e w' => e = .returned (.int .i32 (-1)) ∧ Below w.heap.size w w' := by
 have HB := ak (Below.refl w.heap.size w)
 obtain ⟨ad, e0, hx0⟩ := Kd.at_int hr0 0 (by decide) (by decide)
 subst e0
 have hx0 : w.cell? ad = some (.int .u8 a) := by have h := hx0; simpa [rd, Addr.add] using h
 obtain ⟨ad1, e1, hx1⟩ := Kd.at_int hr0 1 (by decide) (by decide)
 obtain rfl := Option.some.inj e1
 have hx1 : w.cell? ⟨ad.block, ad.off + 1, none⟩ = some (.int .u8 b) := by have h := hx1; simpa [rd, Addr.add] using h
 obtain ⟨ad2, e2, hx2⟩ := Kd.at_int hr0 2 (by decide) (by decide)
 obtain rfl := Option.some.inj e2
 have hx2 : w.cell? ⟨ad.block, ad.off + 2, none⟩ = some (.int .u8 c) := by have h := hx2; simpa [rd, Addr.add] using h
 obtain ⟨ad3, e3, hx3⟩ := Kd.at_int hr0 3 (by decide) (by decide)
 obtain rfl := Option.some.inj e3
 have hx3 : w.cell? ⟨ad.block, ad.off + 3, none⟩ = some (.int .u8 d) := by have h := hx3; simpa [rd, Addr.add] using h
 have hw_a := fit32 (n := a) (by omega) (by omega)
 have hw_b := fit32 (n := b) (by omega) (by omega)
 have hw_c := fit32 (n := c) (by omega) (by omega)
 have hw_d := fit32 (n := d) (by omega) (by omega)
 have q0 := decide_eq_false p0
 have q1 := decide_eq_false p1
 have q2 := decide_eq_false p2
 have q3 := decide_eq_false p3
 have q4 := decide_eq_false p4
 have q5 := decide_eq_false p5
 have q6 := decide_eq_true p6
 have z0 := fit32 (n := a - 240) (by omega) (by omega)
 have z1a := fit32 (n := 64 * (a - 240)) (by omega) (by omega)
 have z1b := fit32 (n := 64 * (a - 240) + b) (by omega) (by omega)
 have z1c := fit32 (n := 64 * (a - 240) + b - 128) (by omega) (by omega)
 have z2a := fit32 (n := 64 * (64 * (a - 240) + b - 128)) (by omega) (by omega)
 have z2b := fit32 (n := 64 * (64 * (a - 240) + b - 128) + c) (by omega) (by omega)
 have z2c := fit32 (n := 64 * (64 * (a - 240) + b - 128) + c - 128) (by omega) (by omega)
 go_enter Tryz.func118, Tryz.ntmps118
 go_upto_region 3 with (first | ((with_reducible refine gate_dst (N := 4) rfl ?_); refine box_event ?hg (N := 4) ?hd (cs := #[.int .i32 0, .int .i32 0, .int .i32 0, .int .i32 0, .int .i32 0]) (t := 194) ?hr ?_; (case hd => rfl); (case hg => rfl); (case hr => first | (go_simp; done) | (go_simp; rfl)); intro gb hg w5 hbox hb; have n0_ := ak (below_step (by repeat (first | (with_reducible first | exact HB.out | apply wA | apply wN | apply wD) | exact HB.out)) hb); have n1_ := ak (hbox); have n3_ := ak ((by rw [hg]; exact (below_size (by repeat (first | (with_reducible first | exact HB.out | apply wA | apply wN | apply wD) | exact HB.out))) : w.heap.size ≤ gb)); clear HB; have HB := n0_; have BK := n1_; have GE := n3_; clear n0_ n1_ n3_; clear hb hbox hg; have hcz_0 : w5.cell? ⟨gb, 0, none⟩ = some (.int .i32 0) := (blk_cell BK.out 0).trans rfl; have hcz_1 : w5.cell? ⟨gb, 1, none⟩ = some (.int .i32 0) := (blk_cell BK.out 1).trans rfl; have hcz_2 : w5.cell? ⟨gb, 2, none⟩ = some (.int .i32 0) := (blk_cell BK.out 2).trans rfl; have hcz_3 : w5.cell? ⟨gb, 3, none⟩ = some (.int .i32 0) := (blk_cell BK.out 3).trans rfl; have hcz_4 : w5.cell? ⟨gb, 4, none⟩ = some (.int .i32 0) := (blk_cell BK.out 4).trans rfl; have hfz_0 := blk_frozen BK.out 0; have hfz_1 := blk_frozen BK.out 1; have hfz_2 := blk_frozen BK.out 2; have hfz_3 := blk_frozen BK.out 3; have hfz_4 := blk_frozen BK.out 4))
 refine name_world (fun W => W.heap[gb]? = some (.cells #[.int .i32 0, .int .i32 0, .int .i32 192, .int .i32 224, .int .i32 240] 194 (0, 0)) ∧ Below w.heap.size w W) ⟨?bk, ?be⟩ (fun W ⟨BKW, HBW⟩ => ?_)
 case bk => (with_reducible repeat (first | refine bN ?_ _ | refine bD ?_ | refine bA ?_ _)); refine blk_put (cs := #[.int .i32 0, .int .i32 0, .int .i32 192, .int .i32 224, .int .i32 0]) ?_ 4 _ rfl; (with_reducible repeat (first | refine bN ?_ _ | refine bD ?_ | refine bA ?_ _)); refine blk_put (cs := #[.int .i32 0, .int .i32 0, .int .i32 192, .int .i32 0, .int .i32 0]) ?_ 3 _ rfl; (with_reducible repeat (first | refine bN ?_ _ | refine bD ?_ | refine bA ?_ _)); refine blk_put (cs := #[.int .i32 0, .int .i32 0, .int .i32 0, .int .i32 0, .int .i32 0]) ?_ 2 _ rfl; (with_reducible repeat (first | refine bN ?_ _ | refine bD ?_ | refine bA ?_ _)); refine blk_put (cs := #[.int .i32 0, .int .i32 0, .int .i32 0, .int .i32 0, .int .i32 0]) ?_ 1 _ rfl; (with_reducible repeat (first | refine bN ?_ _ | refine bD ?_ | refine bA ?_ _)); refine blk_put (cs := #[.int .i32 0, .int .i32 0, .int .i32 0, .int .i32 0, .int .i32 0]) ?_ 0 _ rfl; (with_reducible repeat (first | refine bN ?_ _ | refine bD ?_ | refine bA ?_ _)); exact BK.out
 case be => repeat (first | (with_reducible first | exact HB.out | apply wA | apply wN | apply wD | refine below_set ?_ GE.out) | exact HB.out)
 have hk2 : W.cell? ⟨gb, 2, none⟩ = some (.int .i32 192) := (blk_cell BKW 2).trans rfl
 have hk3 : W.cell? ⟨gb, 3, none⟩ = some (.int .i32 224) := (blk_cell BKW 3).trans rfl
 have hk4 : W.cell? ⟨gb, 4, none⟩ = some (.int .i32 240) := (blk_cell BKW 4).trans rfl
 have hxW0 := (HBW.cell (World.block_lt_of_cell? w _ hx0)).trans hx0
 have hxW1 := (HBW.cell (World.block_lt_of_cell? w _ hx1)).trans hx1
 have hxW2 := (HBW.cell (World.block_lt_of_cell? w _ hx2)).trans hx2
 have hxW3 := (HBW.cell (World.block_lt_of_cell? w _ hx3)).trans hx3
 clear HB BK
 go_wp2
 refine wp_loop_rounds 4 ?_
 rw [rounds_succ]
 go_wp2
 rw [rounds_succ]
 go_wp2
 rw [rounds_succ]
 go_wp2
 refine wp_loop_rounds 4 ?_
 rw [rounds_succ]
 go_wp2
 rw [rounds_succ]
 go_wp2
 rw [rounds_succ]
 go_wp2
 go_ret
 exact ⟨by first | rfl | (simp [*] <;> rfl), HBW⟩
set_option maxHeartbeats 8000000 in
set_option maxRecDepth 100000 in
theorem num4_hi3 (A0 : Option Addr) (c0 : Nat) (a b c d : Int) (w : World) (hr0 : Kd.C (Kd.int .u8) w A0 4 [a, b, c, d]) (hc0 : 4 ≤ c0) (ha : 0 ≤ a ∧ a < 256) (hb : 0 ≤ b ∧ b < 256) (hc : 0 ≤ c ∧ c < 256) (hd : 0 ≤ d ∧ d < 256) (p0 : ¬ a < 240) (p1 : ¬ 248 ≤ a) (p2 : ¬ b < 128) (p3 : ¬ 192 ≤ b) (p4 : ¬ c < 128) (p5 : ¬ 192 ≤ c) (p6 : ¬ d < 128) (p7 : 192 ≤ d) :
  Calls Tryz.prog 118 #[.slice A0 4 c0] w fun e w' => e = .returned (.int .i32 (-1)) ∧ Below w.heap.size w w' := by
 have HB := ak (Below.refl w.heap.size w)
 obtain ⟨ad, e0, hx0⟩ := Kd.at_int hr0 0 (by decide) (by decide)
 subst e0
 have hx0 : w.cell? ad = some (.int .u8 a) := by have h := hx0; simpa [rd, Addr.add] using h
 obtain ⟨ad1, e1, hx1⟩ := Kd.at_int hr0 1 (by decide) (by decide)
 obtain rfl := Option.some.inj e1
 have hx1 : w.cell? ⟨ad.block, ad.off + 1, none⟩ = some (.int .u8 b) := by have h := hx1; simpa [rd, Addr.add] using h
 obtain ⟨ad2, e2, hx2⟩ := Kd.at_int hr0 2 (by decide) (by decide)
 obtain rfl := Option.some.inj e2
 have hx2 : w.cell? ⟨ad.block, ad.off + 2, none⟩ = some (.int .u8 c) := by have h := hx2; simpa [rd, Addr.add] using h
 obtain ⟨ad3, e3, hx3⟩ := Kd.at_int hr0 3 (by decide) (by decide)
 obtain rfl := Option.some.inj e3
 have hx3 : w.cell? ⟨ad.block, ad.off + 3, none⟩ = some (.int .u8 d) := by have h := hx3; simpa [rd, Addr.add] using h
 have hw_a := fit32 (n := a) (by omega) (by omega)
 have hw_b := fit32 (n := b) (by omega) (by omega)
 have hw_c := fit32 (n := c) (by omega) (by omega)
 have hw_d := fit32 (n := d) (by omega) (by omega)
 have q0 := decide_eq_false p0
 have q1 := decide_eq_false p1
 have q2 := decide_eq_false p2
 have q3 := decide_eq_false p3
 have q4 := decide_eq_false p4
 have q5 := decide_eq_false p5
 have q6 := decide_eq_false p6
 have q7 := decide_eq_true p7
 have z0 := fit32 (n := a - 240) (by omega) (by omega)
 have z1a := fit32 (n := 64 * (a - 240)) (by omega) (by omega)
 have z1b := fit32 (n := 64 * (a - 240) + b) (by omega) (by omega)
 have z1c := fit32 (n := 64 * (a - 240) + b - 128) (by omega) (by omega)
 have z2a := fit32 (n := 64 * (64 * (a - 240) + b - 128)) (by omega) (by omega)
 have z2b := fit32 (n := 64 * (64 * (a - 240) + b - 128) + c) (by omega) (by omega)
 have z2c := fit32 (n := 64 * (64 * (a - 240) + b - 128) + c - 128) (by omega) (by omega)
 go_enter Tryz.func118, Tryz.ntmps118
 go_upto_region 3 with (first | ((with_reducible refine gate_dst (N := 4) rfl ?_); refine box_event ?hg (N := 4) ?hd (cs := #[.int .i32 0, .int .i32 0, .int .i32 0, .int .i32 0, .int .i32 0]) (t := 194) ?hr ?_; (case hd => rfl); (case hg => rfl); (case hr => first | (go_simp; done) | (go_simp; rfl)); intro gb hg w5 hbox hb; have n0_ := ak (below_step (by repeat (first | (with_reducible first | exact HB.out | apply wA | apply wN | apply wD) | exact HB.out)) hb); have n1_ := ak (hbox); have n3_ := ak ((by rw [hg]; exact (below_size (by repeat (first | (with_reducible first | exact HB.out | apply wA | apply wN | apply wD) | exact HB.out))) : w.heap.size ≤ gb)); clear HB; have HB := n0_; have BK := n1_; have GE := n3_; clear n0_ n1_ n3_; clear hb hbox hg; have hcz_0 : w5.cell? ⟨gb, 0, none⟩ = some (.int .i32 0) := (blk_cell BK.out 0).trans rfl; have hcz_1 : w5.cell? ⟨gb, 1, none⟩ = some (.int .i32 0) := (blk_cell BK.out 1).trans rfl; have hcz_2 : w5.cell? ⟨gb, 2, none⟩ = some (.int .i32 0) := (blk_cell BK.out 2).trans rfl; have hcz_3 : w5.cell? ⟨gb, 3, none⟩ = some (.int .i32 0) := (blk_cell BK.out 3).trans rfl; have hcz_4 : w5.cell? ⟨gb, 4, none⟩ = some (.int .i32 0) := (blk_cell BK.out 4).trans rfl; have hfz_0 := blk_frozen BK.out 0; have hfz_1 := blk_frozen BK.out 1; have hfz_2 := blk_frozen BK.out 2; have hfz_3 := blk_frozen BK.out 3; have hfz_4 := blk_frozen BK.out 4))
 refine name_world (fun W => W.heap[gb]? = some (.cells #[.int .i32 0, .int .i32 0, .int .i32 192, .int .i32 224, .int .i32 240] 194 (0, 0)) ∧ Below w.heap.size w W) ⟨?bk, ?be⟩ (fun W ⟨BKW, HBW⟩ => ?_)
 case bk => (with_reducible repeat (first | refine bN ?_ _ | refine bD ?_ | refine bA ?_ _)); refine blk_put (cs := #[.int .i32 0, .int .i32 0, .int .i32 192, .int .i32 224, .int .i32 0]) ?_ 4 _ rfl; (with_reducible repeat (first | refine bN ?_ _ | refine bD ?_ | refine bA ?_ _)); refine blk_put (cs := #[.int .i32 0, .int .i32 0, .int .i32 192, .int .i32 0, .int .i32 0]) ?_ 3 _ rfl; (with_reducible repeat (first | refine bN ?_ _ | refine bD ?_ | refine bA ?_ _)); refine blk_put (cs := #[.int .i32 0, .int .i32 0, .int .i32 0, .int .i32 0, .int .i32 0]) ?_ 2 _ rfl; (with_reducible repeat (first | refine bN ?_ _ | refine bD ?_ | refine bA ?_ _)); refine blk_put (cs := #[.int .i32 0, .int .i32 0, .int .i32 0, .int .i32 0, .int .i32 0]) ?_ 1 _ rfl; (with_reducible repeat (first | refine bN ?_ _ | refine bD ?_ | refine bA ?_ _)); refine blk_put (cs := #[.int .i32 0, .int .i32 0, .int .i32 0, .int .i32 0, .int .i32 0]) ?_ 0 _ rfl; (with_reducible repeat (first | refine bN ?_ _ | refine bD ?_ | refine bA ?_ _)); exact BK.out
 case be => repeat (first | (with_reducible first | exact HB.out | apply wA | apply wN | apply wD | refine below_set ?_ GE.out) | exact HB.out)
 have hk2 : W.cell? ⟨gb, 2, none⟩ = some (.int .i32 192) := (blk_cell BKW 2).trans rfl
 have hk3 : W.cell? ⟨gb, 3, none⟩ = some (.int .i32 224) := (blk_cell BKW 3).trans rfl
 have hk4 : W.cell? ⟨gb, 4, none⟩ = some (.int .i32 240) := (blk_cell BKW 4).trans rfl
 have hxW0 := (HBW.cell (World.block_lt_of_cell? w _ hx0)).trans hx0
 have hxW1 := (HBW.cell (World.block_lt_of_cell? w _ hx1)).trans hx1
 have hxW2 := (HBW.cell (World.block_lt_of_cell? w _ hx2)).trans hx2
 have hxW3 := (HBW.cell (World.block_lt_of_cell? w _ hx3)).trans hx3
 clear HB BK
 go_wp2
 refine wp_loop_rounds 4 ?_
 rw [rounds_succ]
 go_wp2
 rw [rounds_succ]
 go_wp2
 rw [rounds_succ]
 go_wp2
 refine wp_loop_rounds 4 ?_
 rw [rounds_succ]
 go_wp2
 rw [rounds_succ]
 go_wp2
 rw [rounds_succ]
 go_wp2
 go_ret
 exact ⟨by first | rfl | (simp [*] <;> rfl), HBW⟩
set_option maxHeartbeats 8000000 in
set_option maxRecDepth 100000 in
theorem num4_all (A0 : Option Addr) (c0 : Nat) (a b c d : Int) (w : World) (hr0 : Kd.C (Kd.int .u8) w A0 4 [a, b, c, d]) (hc0 : 4 ≤ c0) (ha : 0 ≤ a ∧ a < 256) (hb : 0 ≤ b ∧ b < 256) (hc : 0 ≤ c ∧ c < 256) (hd : 0 ≤ d ∧ d < 256) (p0 : ¬ a < 240) (p1 : ¬ 248 ≤ a) (p2 : ¬ b < 128) (p3 : ¬ 192 ≤ b) (p4 : ¬ c < 128) (p5 : ¬ 192 ≤ c) (p6 : ¬ d < 128) (p7 : ¬ 192 ≤ d) :
  Calls Tryz.prog 118 #[.slice A0 4 c0] w fun e w' => e = .returned (.int .i32 ((64 * (64 * (64 * (a - 240) + b - 128) + c - 128) + d - 128))) ∧ Below w.heap.size w w' := by
 have HB := ak (Below.refl w.heap.size w)
 obtain ⟨ad, e0, hx0⟩ := Kd.at_int hr0 0 (by decide) (by decide)
 subst e0
 have hx0 : w.cell? ad = some (.int .u8 a) := by have h := hx0; simpa [rd, Addr.add] using h
 obtain ⟨ad1, e1, hx1⟩ := Kd.at_int hr0 1 (by decide) (by decide)
 obtain rfl := Option.some.inj e1
 have hx1 : w.cell? ⟨ad.block, ad.off + 1, none⟩ = some (.int .u8 b) := by have h := hx1; simpa [rd, Addr.add] using h
 obtain ⟨ad2, e2, hx2⟩ := Kd.at_int hr0 2 (by decide) (by decide)
 obtain rfl := Option.some.inj e2
 have hx2 : w.cell? ⟨ad.block, ad.off + 2, none⟩ = some (.int .u8 c) := by have h := hx2; simpa [rd, Addr.add] using h
 obtain ⟨ad3, e3, hx3⟩ := Kd.at_int hr0 3 (by decide) (by decide)
 obtain rfl := Option.some.inj e3
 have hx3 : w.cell? ⟨ad.block, ad.off + 3, none⟩ = some (.int .u8 d) := by have h := hx3; simpa [rd, Addr.add] using h
 have hw_a := fit32 (n := a) (by omega) (by omega)
 have hw_b := fit32 (n := b) (by omega) (by omega)
 have hw_c := fit32 (n := c) (by omega) (by omega)
 have hw_d := fit32 (n := d) (by omega) (by omega)
 have q0 := decide_eq_false p0
 have q1 := decide_eq_false p1
 have q2 := decide_eq_false p2
 have q3 := decide_eq_false p3
 have q4 := decide_eq_false p4
 have q5 := decide_eq_false p5
 have q6 := decide_eq_false p6
 have q7 := decide_eq_false p7
 have z0 := fit32 (n := a - 240) (by omega) (by omega)
 have z1a := fit32 (n := 64 * (a - 240)) (by omega) (by omega)
 have z1b := fit32 (n := 64 * (a - 240) + b) (by omega) (by omega)
 have z1c := fit32 (n := 64 * (a - 240) + b - 128) (by omega) (by omega)
 have z2a := fit32 (n := 64 * (64 * (a - 240) + b - 128)) (by omega) (by omega)
 have z2b := fit32 (n := 64 * (64 * (a - 240) + b - 128) + c) (by omega) (by omega)
 have z2c := fit32 (n := 64 * (64 * (a - 240) + b - 128) + c - 128) (by omega) (by omega)
 have z3a := fit32 (n := 64 * (64 * (64 * (a - 240) + b - 128) + c - 128)) (by omega) (by omega)
 have z3b := fit32 (n := 64 * (64 * (64 * (a - 240) + b - 128) + c - 128) + d) (by omega) (by omega)
 have z3c := fit32 (n := 64 * (64 * (64 * (a - 240) + b - 128) + c - 128) + d - 128) (by omega) (by omega)
 go_enter Tryz.func118, Tryz.ntmps118
 go_upto_region 3 with (first | ((with_reducible refine gate_dst (N := 4) rfl ?_); refine box_event ?hg (N := 4) ?hd (cs := #[.int .i32 0, .int .i32 0, .int .i32 0, .int .i32 0, .int .i32 0]) (t := 194) ?hr ?_; (case hd => rfl); (case hg => rfl); (case hr => first | (go_simp; done) | (go_simp; rfl)); intro gb hg w5 hbox hb; have n0_ := ak (below_step (by repeat (first | (with_reducible first | exact HB.out | apply wA | apply wN | apply wD) | exact HB.out)) hb); have n1_ := ak (hbox); have n3_ := ak ((by rw [hg]; exact (below_size (by repeat (first | (with_reducible first | exact HB.out | apply wA | apply wN | apply wD) | exact HB.out))) : w.heap.size ≤ gb)); clear HB; have HB := n0_; have BK := n1_; have GE := n3_; clear n0_ n1_ n3_; clear hb hbox hg; have hcz_0 : w5.cell? ⟨gb, 0, none⟩ = some (.int .i32 0) := (blk_cell BK.out 0).trans rfl; have hcz_1 : w5.cell? ⟨gb, 1, none⟩ = some (.int .i32 0) := (blk_cell BK.out 1).trans rfl; have hcz_2 : w5.cell? ⟨gb, 2, none⟩ = some (.int .i32 0) := (blk_cell BK.out 2).trans rfl; have hcz_3 : w5.cell? ⟨gb, 3, none⟩ = some (.int .i32 0) := (blk_cell BK.out 3).trans rfl; have hcz_4 : w5.cell? ⟨gb, 4, none⟩ = some (.int .i32 0) := (blk_cell BK.out 4).trans rfl; have hfz_0 := blk_frozen BK.out 0; have hfz_1 := blk_frozen BK.out 1; have hfz_2 := blk_frozen BK.out 2; have hfz_3 := blk_frozen BK.out 3; have hfz_4 := blk_frozen BK.out 4))
 refine name_world (fun W => W.heap[gb]? = some (.cells #[.int .i32 0, .int .i32 0, .int .i32 192, .int .i32 224, .int .i32 240] 194 (0, 0)) ∧ Below w.heap.size w W) ⟨?bk, ?be⟩ (fun W ⟨BKW, HBW⟩ => ?_)
 case bk => (with_reducible repeat (first | refine bN ?_ _ | refine bD ?_ | refine bA ?_ _)); refine blk_put (cs := #[.int .i32 0, .int .i32 0, .int .i32 192, .int .i32 224, .int .i32 0]) ?_ 4 _ rfl; (with_reducible repeat (first | refine bN ?_ _ | refine bD ?_ | refine bA ?_ _)); refine blk_put (cs := #[.int .i32 0, .int .i32 0, .int .i32 192, .int .i32 0, .int .i32 0]) ?_ 3 _ rfl; (with_reducible repeat (first | refine bN ?_ _ | refine bD ?_ | refine bA ?_ _)); refine blk_put (cs := #[.int .i32 0, .int .i32 0, .int .i32 0, .int .i32 0, .int .i32 0]) ?_ 2 _ rfl; (with_reducible repeat (first | refine bN ?_ _ | refine bD ?_ | refine bA ?_ _)); refine blk_put (cs := #[.int .i32 0, .int .i32 0, .int .i32 0, .int .i32 0, .int .i32 0]) ?_ 1 _ rfl; (with_reducible repeat (first | refine bN ?_ _ | refine bD ?_ | refine bA ?_ _)); refine blk_put (cs := #[.int .i32 0, .int .i32 0, .int .i32 0, .int .i32 0, .int .i32 0]) ?_ 0 _ rfl; (with_reducible repeat (first | refine bN ?_ _ | refine bD ?_ | refine bA ?_ _)); exact BK.out
 case be => repeat (first | (with_reducible first | exact HB.out | apply wA | apply wN | apply wD | refine below_set ?_ GE.out) | exact HB.out)
 have hk2 : W.cell? ⟨gb, 2, none⟩ = some (.int .i32 192) := (blk_cell BKW 2).trans rfl
 have hk3 : W.cell? ⟨gb, 3, none⟩ = some (.int .i32 224) := (blk_cell BKW 3).trans rfl
 have hk4 : W.cell? ⟨gb, 4, none⟩ = some (.int .i32 240) := (blk_cell BKW 4).trans rfl
 have hxW0 := (HBW.cell (World.block_lt_of_cell? w _ hx0)).trans hx0
 have hxW1 := (HBW.cell (World.block_lt_of_cell? w _ hx1)).trans hx1
 have hxW2 := (HBW.cell (World.block_lt_of_cell? w _ hx2)).trans hx2
 have hxW3 := (HBW.cell (World.block_lt_of_cell? w _ hx3)).trans hx3
 clear HB BK
 go_wp2
 refine wp_loop_rounds 4 ?_
 rw [rounds_succ]
 go_wp2
 rw [rounds_succ]
 go_wp2
 rw [rounds_succ]
 go_wp2
 refine wp_loop_rounds 4 ?_
 rw [rounds_succ]
 go_wp2
 rw [rounds_succ]
 go_wp2
 rw [rounds_succ]
 go_wp2
 rw [rounds_succ]
 go_wp2
 go_ret
 exact ⟨by first | rfl | (simp [*] <;> rfl), HBW⟩
def mummerref02_number.f : List Int → Option Int
 | [a] => if (0 ≤ a ∧ a < 256) then some (if a < 128 then a else -1) else none
 | [a, b] => if (0 ≤ a ∧ a < 256) ∧ (0 ≤ b ∧ b < 256) then some (if a < 192 then -1 else (if 224 ≤ a then -1 else (if b < 128 then -1 else (if 192 ≤ b then -1 else (64 * (a - 192) + b - 128))))) else none
 | [a, b, c] => if (0 ≤ a ∧ a < 256) ∧ (0 ≤ b ∧ b < 256) ∧ (0 ≤ c ∧ c < 256) then some (if a < 224 then -1 else (if 240 ≤ a then -1 else (if b < 128 then -1 else (if 192 ≤ b then -1 else (if c < 128 then -1 else (if 192 ≤ c then -1 else (64 * (64 * (a - 224) + b - 128) + c - 128))))))) else none
 | [a, b, c, d] => if (0 ≤ a ∧ a < 256) ∧ (0 ≤ b ∧ b < 256) ∧ (0 ≤ c ∧ c < 256) ∧ (0 ≤ d ∧ d < 256) then some (if a < 240 then -1 else (if 248 ≤ a then -1 else (if b < 128 then -1 else (if 192 ≤ b then -1 else (if c < 128 then -1 else (if 192 ≤ c then -1 else (if d < 128 then -1 else (if 192 ≤ d then -1 else (64 * (64 * (64 * (a - 240) + b - 128) + c - 128) + d - 128))))))))) else none
 | _ => none
theorem mummerref02_number.calls (A0 : Option Addr) (c0 : Nat) (l0 : List Int) (r : Int) (w : World) (hr0 : Kd.C (Kd.int .u8) w A0 l0.length l0) (hc0 : l0.length ≤ c0) (h : mummerref02_number.f l0 = some r) :
  Calls Tryz.prog 118 #[.slice A0 l0.length c0] w fun e w' => e = .returned (.int .i32 r) ∧ Below w.heap.size w w' := by
 match l0, hr0, hc0, h with
 | [], _, _, h => cases h
 | _ :: _ :: _ :: _ :: _ :: _, _, _, h => cases h
 | [a], hr0, hc0, h =>
  simp only [mummerref02_number.f] at h
  by_cases hb : (0 ≤ a ∧ a < 256)
  ·rw [if_pos hb] at h
   obtain rfl := Option.some.inj h
   have ha := hb
   by_cases p0 : a < 128
   ·rw [if_pos p0]; exact num1_lo A0 c0 a w hr0 hc0 ha p0
   ·rw [if_neg p0]; exact num1_hi A0 c0 a w hr0 hc0 ha p0
  ·rw [if_neg hb] at h; cases h
 | [a, b], hr0, hc0, h =>
  simp only [mummerref02_number.f] at h
  by_cases hb : (0 ≤ a ∧ a < 256) ∧ (0 ≤ b ∧ b < 256)
  ·rw [if_pos hb] at h
   obtain rfl := Option.some.inj h
   obtain ⟨ha, hb⟩ := hb
   by_cases p0 : a < 192
   ·rw [if_pos p0]; exact num2_below A0 c0 a b w hr0 hc0 ha hb p0
   rw [if_neg p0]
   by_cases p1 : 224 ≤ a
   ·rw [if_pos p1]; exact num2_above A0 c0 a b w hr0 hc0 ha hb p0 p1
   rw [if_neg p1]
   by_cases u1 : b < 128
   ·rw [if_pos u1]; exact num2_lo1 A0 c0 a b w hr0 hc0 ha hb p0 p1 u1
   rw [if_neg u1]
   by_cases v1 : 192 ≤ b
   ·rw [if_pos v1]; exact num2_hi1 A0 c0 a b w hr0 hc0 ha hb p0 p1 u1 v1
   rw [if_neg v1]
   exact num2_all A0 c0 a b w hr0 hc0 ha hb p0 p1 u1 v1
  ·rw [if_neg hb] at h; cases h
 | [a, b, c], hr0, hc0, h =>
  simp only [mummerref02_number.f] at h
  by_cases hb : (0 ≤ a ∧ a < 256) ∧ (0 ≤ b ∧ b < 256) ∧ (0 ≤ c ∧ c < 256)
  ·rw [if_pos hb] at h
   obtain rfl := Option.some.inj h
   obtain ⟨ha, hb, hc⟩ := hb
   by_cases p0 : a < 224
   ·rw [if_pos p0]; exact num3_below A0 c0 a b c w hr0 hc0 ha hb hc p0
   rw [if_neg p0]
   by_cases p1 : 240 ≤ a
   ·rw [if_pos p1]; exact num3_above A0 c0 a b c w hr0 hc0 ha hb hc p0 p1
   rw [if_neg p1]
   by_cases u1 : b < 128
   ·rw [if_pos u1]; exact num3_lo1 A0 c0 a b c w hr0 hc0 ha hb hc p0 p1 u1
   rw [if_neg u1]
   by_cases v1 : 192 ≤ b
   ·rw [if_pos v1]; exact num3_hi1 A0 c0 a b c w hr0 hc0 ha hb hc p0 p1 u1 v1
   rw [if_neg v1]
   by_cases u2 : c < 128
   ·rw [if_pos u2]; exact num3_lo2 A0 c0 a b c w hr0 hc0 ha hb hc p0 p1 u1 v1 u2
   rw [if_neg u2]
   by_cases v2 : 192 ≤ c
   ·rw [if_pos v2]; exact num3_hi2 A0 c0 a b c w hr0 hc0 ha hb hc p0 p1 u1 v1 u2 v2
   rw [if_neg v2]
   exact num3_all A0 c0 a b c w hr0 hc0 ha hb hc p0 p1 u1 v1 u2 v2
  ·rw [if_neg hb] at h; cases h
 | [a, b, c, d], hr0, hc0, h =>
  simp only [mummerref02_number.f] at h
  by_cases hb : (0 ≤ a ∧ a < 256) ∧ (0 ≤ b ∧ b < 256) ∧ (0 ≤ c ∧ c < 256) ∧ (0 ≤ d ∧ d < 256)
  ·rw [if_pos hb] at h
   obtain rfl := Option.some.inj h
   obtain ⟨ha, hb, hc, hd⟩ := hb
   by_cases p0 : a < 240
   ·rw [if_pos p0]; exact num4_below A0 c0 a b c d w hr0 hc0 ha hb hc hd p0
   rw [if_neg p0]
   by_cases p1 : 248 ≤ a
   ·rw [if_pos p1]; exact num4_above A0 c0 a b c d w hr0 hc0 ha hb hc hd p0 p1
   rw [if_neg p1]
   by_cases u1 : b < 128
   ·rw [if_pos u1]; exact num4_lo1 A0 c0 a b c d w hr0 hc0 ha hb hc hd p0 p1 u1
   rw [if_neg u1]
   by_cases v1 : 192 ≤ b
   ·rw [if_pos v1]; exact num4_hi1 A0 c0 a b c d w hr0 hc0 ha hb hc hd p0 p1 u1 v1
   rw [if_neg v1]
   by_cases u2 : c < 128
   ·rw [if_pos u2]; exact num4_lo2 A0 c0 a b c d w hr0 hc0 ha hb hc hd p0 p1 u1 v1 u2
   rw [if_neg u2]
   by_cases v2 : 192 ≤ c
   ·rw [if_pos v2]; exact num4_hi2 A0 c0 a b c d w hr0 hc0 ha hb hc hd p0 p1 u1 v1 u2 v2
   rw [if_neg v2]
   by_cases u3 : d < 128
   ·rw [if_pos u3]; exact num4_lo3 A0 c0 a b c d w hr0 hc0 ha hb hc hd p0 p1 u1 v1 u2 v2 u3
   rw [if_neg u3]
   by_cases v3 : 192 ≤ d
   ·rw [if_pos v3]; exact num4_hi3 A0 c0 a b c d w hr0 hc0 ha hb hc hd p0 p1 u1 v1 u2 v2 u3 v3
   rw [if_neg v3]
   exact num4_all A0 c0 a b c d w hr0 hc0 ha hb hc hd p0 p1 u1 v1 u2 v2 u3 v3
  ·rw [if_neg hb] at h; cases h
end Go.Proofs.YtdjkdlbokepoaaaGreatDoor.P
namespace Go.Proofs.YtdjkdlbokepoaaaGreatDoor.P
open Go.RowKit Go.Proofs.YtdjkdlbokepoaaaGreatDoorW.PrintWords Go.Proofs.YtdjkdlbokepoaaaGreatDoorW.PrintLast Go.Proofs.YtdjkdlbokepoaaaGreatDoorW.PrintMore
attribute [local go_sem] max2_int min2_int max_two min_two max_three min_three max_four min_four
set_option linter.unusedVariables false
set_option linter.unusedSimpArgs false
def mummerref02_Is.f (a0 : Int) : Option (Bool) := if a0 ≥ 0 then (if a0 ≤ 1114111 then (if a0 < 55296 then (some true) else (some (decide (a0 > 57343)))) else (some false)) else (some false)
set_option maxHeartbeats 8000000 in
set_option maxRecDepth 100000 in
theorem mummerref02_Is.calls (a0 : Int) (r : Bool) (w : World) (h : mummerref02_Is.f a0 = some r) :
  Calls Tryz.prog 119 #[.int .i32 a0] w fun e w' => e = .returned (.bool r) ∧ Drawn0 w w' := by
 have H : (if a0 ≥ 0 then (if a0 ≤ 1114111 then (if a0 < 55296 then (some true) else (some (decide (a0 > 57343)))) else (some false)) else (some false)) = some r := h
 clear h
 by_cases c2 : a0 ≥ 0
 ·rw [if_pos c2] at H
  have c2b0 : decide (0 ≤ a0) = true := decide_eq_true c2
  clear c2
  by_cases c3 : a0 ≤ 1114111
  ·rw [if_pos c3] at H
   have c3b0 : decide (a0 ≤ 1114111) = true := decide_eq_true c3
   clear c3
   by_cases c4 : a0 < 55296
   ·rw [if_pos c4] at H
    have c4b0 : decide (a0 < 55296) = true := decide_eq_true c4
    clear c4
    obtain rfl := Option.some.inj H
    go_enter Tryz.func119, Tryz.ntmps119
    go_wp2
    go_ret
    exact ⟨by first | rfl | (simp; done) | (simp [*]; done), by repeat (first | exact Drawn0.refl _ | apply Drawn0.step)⟩
   ·rw [if_neg c4] at H
    have c4b0 : decide (a0 < 55296) = false := decide_eq_false c4
    clear c4
    obtain rfl := Option.some.inj H
    go_enter Tryz.func119, Tryz.ntmps119
    go_wp2
    go_ret
    exact ⟨by first | rfl | (simp; done) | (simp [*]; done), by repeat (first | exact Drawn0.refl _ | apply Drawn0.step)⟩
  ·rw [if_neg c3] at H
   have c3b0 : decide (a0 ≤ 1114111) = false := decide_eq_false c3
   clear c3
   obtain rfl := Option.some.inj H
   go_enter Tryz.func119, Tryz.ntmps119
   go_wp2
   go_ret
   exact ⟨by first | rfl | (simp; done) | (simp [*]; done), by repeat (first | exact Drawn0.refl _ | apply Drawn0.step)⟩
 ·rw [if_neg c2] at H
  have c2b0 : decide (0 ≤ a0) = false := decide_eq_false c2
  clear c2
  obtain rfl := Option.some.inj H
  go_enter Tryz.func119, Tryz.ntmps119
  go_wp2
  go_ret
  exact ⟨by first | rfl | (simp; done) | (simp [*]; done), by repeat (first | exact Drawn0.refl _ | apply Drawn0.step)⟩
def mummerref02_Encode.f (a0 : Int) : Option (List Int × Int) := (mummerref02_Is.f a0).bind fun t160 => (if t160 = true then (if a0 < 128 then (some ((([(a0) % 256] : List Int)), 0)) else (if a0 < 2048 then (some ((([(wrap32 (192 + (wrap32 (Int.tdiv a0 64)))) % 256, (wrap32 (128 + (Int.tmod a0 64))) % 256] : List Int)), 0)) else (if a0 < 65536 then (some ((([(wrap32 (224 + (wrap32 (Int.tdiv a0 4096)))) % 256, (wrap32 (128 + (Int.tmod (wrap32 (Int.tdiv a0 64)) 64))) % 256, (wrap32 (128 + (Int.tmod a0 64))) % 256] : List Int)), 0)) else (some ((([(wrap32 (240 + (wrap32 (Int.tdiv a0 262144)))) % 256, (wrap32 (128 + (Int.tmod (wrap32 (Int.tdiv a0 4096)) 64))) % 256, (wrap32 (128 + (Int.tmod (wrap32 (Int.tdiv a0 64)) 64))) % 256, (wrap32 (128 + (Int.tmod a0 64))) % 256] : List Int)), 0))))) else (some (([] : List Int), 7)))
set_option maxHeartbeats 8000000 in
set_option maxRecDepth 100000 in
theorem mummerref02_Encode.calls (a0 : Int) (r1 : List Int) (r2 : Int) (w : World) (h : mummerref02_Encode.f a0 = some (r1, r2)) :
  Calls Tryz.prog 120 #[.int .i32 a0] w fun e w' => ∃ v0_ : Value, e = .returned (.tuple #[v0_, .int .i64 r2]) ∧ Kd.R (Kd.int .u8) 5 w' w.heap.size (fun _ => True) v0_ r1 ∧ Below w.heap.size w w' := by
 have HB := ak (Below.refl w.heap.size w)
 have H : ((mummerref02_Is.f a0).bind fun t160 => (if t160 = true then (if a0 < 128 then (some ((([(a0) % 256] : List Int)), 0)) else (if a0 < 2048 then (some ((([(wrap32 (192 + (wrap32 (Int.tdiv a0 64)))) % 256, (wrap32 (128 + (Int.tmod a0 64))) % 256] : List Int)), 0)) else (if a0 < 65536 then (some ((([(wrap32 (224 + (wrap32 (Int.tdiv a0 4096)))) % 256, (wrap32 (128 + (Int.tmod (wrap32 (Int.tdiv a0 64)) 64))) % 256, (wrap32 (128 + (Int.tmod a0 64))) % 256] : List Int)), 0)) else (some ((([(wrap32 (240 + (wrap32 (Int.tdiv a0 262144)))) % 256, (wrap32 (128 + (Int.tmod (wrap32 (Int.tdiv a0 4096)) 64))) % 256, (wrap32 (128 + (Int.tmod (wrap32 (Int.tdiv a0 64)) 64))) % 256, (wrap32 (128 + (Int.tmod a0 64))) % 256] : List Int)), 0))))) else (some (([] : List Int), 7)))) = some (r1, r2) := h
 clear h
 replace H := Option.bind_eq_some_iff.mp H
 obtain ⟨t160, A20, H⟩ := H
 try dsimp only at H
 have A2 := ak A20
 clear A20
 by_cases c3 : t160 = true
 ·subst c3
  have H1 : (if a0 < 128 then (some ((([(a0) % 256] : List Int)), 0)) else (if a0 < 2048 then (some ((([(wrap32 (192 + (wrap32 (Int.tdiv a0 64)))) % 256, (wrap32 (128 + (Int.tmod a0 64))) % 256] : List Int)), 0)) else (if a0 < 65536 then (some ((([(wrap32 (224 + (wrap32 (Int.tdiv a0 4096)))) % 256, (wrap32 (128 + (Int.tmod (wrap32 (Int.tdiv a0 64)) 64))) % 256, (wrap32 (128 + (Int.tmod a0 64))) % 256] : List Int)), 0)) else (some ((([(wrap32 (240 + (wrap32 (Int.tdiv a0 262144)))) % 256, (wrap32 (128 + (Int.tmod (wrap32 (Int.tdiv a0 4096)) 64))) % 256, (wrap32 (128 + (Int.tmod (wrap32 (Int.tdiv a0 64)) 64))) % 256, (wrap32 (128 + (Int.tmod a0 64))) % 256] : List Int)), 0))))) = some (r1, r2) := by rw [if_pos rfl] at H; exact H
  clear H
  have H := H1
  clear H1
  by_cases c4 : a0 < 128
  ·rw [if_pos c4] at H
   have c4b0 : decide (a0 < 128) = true := decide_eq_true c4
   clear c4
   obtain ⟨y161, hy161⟩ : ∃ y_ : List Int, y_ = (([(a0) % 256] : List Int)) := ⟨_, rfl⟩
   replace H : (some (y161, 0)) = some (r1, r2) := by first | (rw [hy161]; with_reducible exact H) | (have H2_ := (Option.bind_some _ _).symm.trans H; rw [hy161]; with_reducible exact H2_) | (have H2_ := (Option.bind_some _ _).symm.trans H; with_reducible exact H2_) | with_reducible exact H | (rw [hy161]; exact H) | exact H
   have Ny161 := ak hy161
   clear hy161
   simp only [Option.some.injEq, Prod.mk.injEq] at H
   obtain ⟨rfl, rfl⟩ := H
   go_enter Tryz.func120, Tryz.ntmps120
   go_wp2_with (first | ((with_reducible refine gate_callee (f := 119) rfl ?_); refine goesL_ (some 5) rfl rfl Tryz.func119 (by kernel_rfl) rfl #[.int .i32 a0] rfl (by (try simp only [List.map_toArray, List.map_cons, List.map_nil]); first | done | rfl | (simp only [List.length_drop, List.length_take]; rfl)) ?_; (with_reducible refine (mummerref02_Is.calls a0 true _ A2.out).mono ?_); rintro e w' ⟨rfl, ⟨nd, rfl⟩⟩; refine ⟨_, rfl, ?_⟩) | ((with_reducible refine gate_dst (N := 11) rfl ?_); refine Kd.R_lit (Kd.int .u8) _ 5 ?hg (N := 11) ?hd (xs := ([(a0) % 256] : List Int)) (inner := [.int .u8 ((a0) % 256)]) (ok := fun _ => True) (okp := fun _ => True) ?hr ?hp (fun _ hk => hk) trivial (Below.refl _ _) (Nat.le_refl _) (by simp) ?_; (case hd => rfl); (case hg => rfl); (case hr => first | (go_simp; done) | (go_simp; rfl)); (case hp => exact (Reps.one (show Kd.M (Kd.int .u8) _ _ _ ((a0) % 256) [.int .u8 ((a0) % 256)] from rfl) (Reps.none _ _))); intro v162 w5 ho6 hb hg_ hnew_; clear hg_ hnew_; (first | rw [← Ny161.out] at ho6 | (simp only [Int.reduceToNat] at ho6; rw [← Ny161.out] at ho6)); have n0_ := ak (Kd.R_lower ho6 (below_size (by repeat (first | (with_reducible first | exact HB.out | apply wA | apply wN | apply wD) | exact HB.out)))); have n1_ := ak (below_step (by repeat (first | (with_reducible first | exact HB.out | apply wA | apply wN | apply wD) | exact HB.out)) hb); clear HB; have HO163 := n0_; have HB := n1_; clear n0_ n1_; clear hb ho6))
   go_ret2
   exact ⟨_, by first | rfl | (simp [errW_none, errW_some] <;> rfl) | (simp [*, errW_none, errW_some] <;> rfl), by (with_reducible repeat (first | apply Kd.R_alloc | apply Kd.R_drewN | apply Kd.R_drew)); exact HO163.out, by repeat (first | (with_reducible first | exact HB.out | apply wA | apply wN | apply wD) | exact HB.out)⟩
  ·rw [if_neg c4] at H
   have c4b0 : decide (a0 < 128) = false := decide_eq_false c4
   clear c4
   by_cases c7 : a0 < 2048
   ·rw [if_pos c7] at H
    have c7b0 : decide (a0 < 2048) = true := decide_eq_true c7
    clear c7
    obtain ⟨y164, hy164⟩ : ∃ y_ : List Int, y_ = (([(wrap32 (192 + (wrap32 (Int.tdiv a0 64)))) % 256, (wrap32 (128 + (Int.tmod a0 64))) % 256] : List Int)) := ⟨_, rfl⟩
    replace H : (some (y164, 0)) = some (r1, r2) := by first | (rw [hy164]; with_reducible exact H) | (have H2_ := (Option.bind_some _ _).symm.trans H; rw [hy164]; with_reducible exact H2_) | (have H2_ := (Option.bind_some _ _).symm.trans H; with_reducible exact H2_) | with_reducible exact H | (rw [hy164]; exact H) | exact H
    have Ny164 := ak hy164
    clear hy164
    simp only [Option.some.injEq, Prod.mk.injEq] at H
    obtain ⟨rfl, rfl⟩ := H
    go_enter Tryz.func120, Tryz.ntmps120
    go_wp2_with (first | ((with_reducible refine gate_callee (f := 119) rfl ?_); refine goesL_ (some 5) rfl rfl Tryz.func119 (by kernel_rfl) rfl #[.int .i32 a0] rfl (by (try simp only [List.map_toArray, List.map_cons, List.map_nil]); first | done | rfl | (simp only [List.length_drop, List.length_take]; rfl)) ?_; (with_reducible refine (mummerref02_Is.calls a0 true _ A2.out).mono ?_); rintro e w' ⟨rfl, ⟨nd, rfl⟩⟩; refine ⟨_, rfl, ?_⟩) | ((with_reducible refine gate_dst (N := 22) rfl ?_); refine Kd.R_lit (Kd.int .u8) _ 5 ?hg (N := 22) ?hd (xs := ([(wrap32 (192 + (wrap32 (Int.tdiv a0 64)))) % 256, (wrap32 (128 + (Int.tmod a0 64))) % 256] : List Int)) (inner := [.int .u8 ((wrap32 (192 + (wrap32 (Int.tdiv a0 64)))) % 256), .int .u8 ((wrap32 (128 + (Int.tmod a0 64))) % 256)]) (ok := fun _ => True) (okp := fun _ => True) ?hr ?hp (fun _ hk => hk) trivial (Below.refl _ _) (Nat.le_refl _) (by simp) ?_; (case hd => rfl); (case hg => rfl); (case hr => first | (go_simp; done) | (go_simp; rfl)); (case hp => exact (Reps.one (show Kd.M (Kd.int .u8) _ _ _ ((wrap32 (192 + (wrap32 (Int.tdiv a0 64)))) % 256) [.int .u8 ((wrap32 (192 + (wrap32 (Int.tdiv a0 64)))) % 256)] from rfl) (Reps.one (show Kd.M (Kd.int .u8) _ _ _ ((wrap32 (128 + (Int.tmod a0 64))) % 256) [.int .u8 ((wrap32 (128 + (Int.tmod a0 64))) % 256)] from rfl) (Reps.none _ _)))); intro v165 w8 ho9 hb hg_ hnew_; clear hg_ hnew_; (first | rw [← Ny164.out] at ho9 | (simp only [Int.reduceToNat] at ho9; rw [← Ny164.out] at ho9)); have n0_ := ak (Kd.R_lower ho9 (below_size (by repeat (first | (with_reducible first | exact HB.out | apply wA | apply wN | apply wD) | exact HB.out)))); have n1_ := ak (below_step (by repeat (first | (with_reducible first | exact HB.out | apply wA | apply wN | apply wD) | exact HB.out)) hb); clear HB; have HO166 := n0_; have HB := n1_; clear n0_ n1_; clear hb ho9))
    go_ret2
    exact ⟨_, by first | rfl | (simp [errW_none, errW_some] <;> rfl) | (simp [*, errW_none, errW_some] <;> rfl), by (with_reducible repeat (first | apply Kd.R_alloc | apply Kd.R_drewN | apply Kd.R_drew)); exact HO166.out, by repeat (first | (with_reducible first | exact HB.out | apply wA | apply wN | apply wD) | exact HB.out)⟩
   ·rw [if_neg c7] at H
    have c7b0 : decide (a0 < 2048) = false := decide_eq_false c7
    clear c7
    by_cases c10 : a0 < 65536
    ·rw [if_pos c10] at H
     have c10b0 : decide (a0 < 65536) = true := decide_eq_true c10
     clear c10
     obtain ⟨y167, hy167⟩ : ∃ y_ : List Int, y_ = (([(wrap32 (224 + (wrap32 (Int.tdiv a0 4096)))) % 256, (wrap32 (128 + (Int.tmod (wrap32 (Int.tdiv a0 64)) 64))) % 256, (wrap32 (128 + (Int.tmod a0 64))) % 256] : List Int)) := ⟨_, rfl⟩
     replace H : (some (y167, 0)) = some (r1, r2) := by first | (rw [hy167]; with_reducible exact H) | (have H2_ := (Option.bind_some _ _).symm.trans H; rw [hy167]; with_reducible exact H2_) | (have H2_ := (Option.bind_some _ _).symm.trans H; with_reducible exact H2_) | with_reducible exact H | (rw [hy167]; exact H) | exact H
     have Ny167 := ak hy167
     clear hy167
     simp only [Option.some.injEq, Prod.mk.injEq] at H
     obtain ⟨rfl, rfl⟩ := H
     go_enter Tryz.func120, Tryz.ntmps120
     go_wp2_with (first | ((with_reducible refine gate_callee (f := 119) rfl ?_); refine goesL_ (some 5) rfl rfl Tryz.func119 (by kernel_rfl) rfl #[.int .i32 a0] rfl (by (try simp only [List.map_toArray, List.map_cons, List.map_nil]); first | done | rfl | (simp only [List.length_drop, List.length_take]; rfl)) ?_; (with_reducible refine (mummerref02_Is.calls a0 true _ A2.out).mono ?_); rintro e w' ⟨rfl, ⟨nd, rfl⟩⟩; refine ⟨_, rfl, ?_⟩) | ((with_reducible refine gate_dst (N := 38) rfl ?_); refine Kd.R_lit (Kd.int .u8) _ 5 ?hg (N := 38) ?hd (xs := ([(wrap32 (224 + (wrap32 (Int.tdiv a0 4096)))) % 256, (wrap32 (128 + (Int.tmod (wrap32 (Int.tdiv a0 64)) 64))) % 256, (wrap32 (128 + (Int.tmod a0 64))) % 256] : List Int)) (inner := [.int .u8 ((wrap32 (224 + (wrap32 (Int.tdiv a0 4096)))) % 256), .int .u8 ((wrap32 (128 + (Int.tmod (wrap32 (Int.tdiv a0 64)) 64))) % 256), .int .u8 ((wrap32 (128 + (Int.tmod a0 64))) % 256)]) (ok := fun _ => True) (okp := fun _ => True) ?hr ?hp (fun _ hk => hk) trivial (Below.refl _ _) (Nat.le_refl _) (by simp) ?_; (case hd => rfl); (case hg => rfl); (case hr => first | (go_simp; done) | (go_simp; rfl)); (case hp => exact (Reps.one (show Kd.M (Kd.int .u8) _ _ _ ((wrap32 (224 + (wrap32 (Int.tdiv a0 4096)))) % 256) [.int .u8 ((wrap32 (224 + (wrap32 (Int.tdiv a0 4096)))) % 256)] from rfl) (Reps.one (show Kd.M (Kd.int .u8) _ _ _ ((wrap32 (128 + (Int.tmod (wrap32 (Int.tdiv a0 64)) 64))) % 256) [.int .u8 ((wrap32 (128 + (Int.tmod (wrap32 (Int.tdiv a0 64)) 64))) % 256)] from rfl) (Reps.one (show Kd.M (Kd.int .u8) _ _ _ ((wrap32 (128 + (Int.tmod a0 64))) % 256) [.int .u8 ((wrap32 (128 + (Int.tmod a0 64))) % 256)] from rfl) (Reps.none _ _))))); intro v168 w11 ho12 hb hg_ hnew_; clear hg_ hnew_; (first | rw [← Ny167.out] at ho12 | (simp only [Int.reduceToNat] at ho12; rw [← Ny167.out] at ho12)); have n0_ := ak (Kd.R_lower ho12 (below_size (by repeat (first | (with_reducible first | exact HB.out | apply wA | apply wN | apply wD) | exact HB.out)))); have n1_ := ak (below_step (by repeat (first | (with_reducible first | exact HB.out | apply wA | apply wN | apply wD) | exact HB.out)) hb); clear HB; have HO169 := n0_; have HB := n1_; clear n0_ n1_; clear hb ho12))
     go_ret2
     exact ⟨_, by first | rfl | (simp [errW_none, errW_some] <;> rfl) | (simp [*, errW_none, errW_some] <;> rfl), by (with_reducible repeat (first | apply Kd.R_alloc | apply Kd.R_drewN | apply Kd.R_drew)); exact HO169.out, by repeat (first | (with_reducible first | exact HB.out | apply wA | apply wN | apply wD) | exact HB.out)⟩
    ·rw [if_neg c10] at H
     have c10b0 : decide (a0 < 65536) = false := decide_eq_false c10
     clear c10
     obtain ⟨y170, hy170⟩ : ∃ y_ : List Int, y_ = (([(wrap32 (240 + (wrap32 (Int.tdiv a0 262144)))) % 256, (wrap32 (128 + (Int.tmod (wrap32 (Int.tdiv a0 4096)) 64))) % 256, (wrap32 (128 + (Int.tmod (wrap32 (Int.tdiv a0 64)) 64))) % 256, (wrap32 (128 + (Int.tmod a0 64))) % 256] : List Int)) := ⟨_, rfl⟩
     replace H : (some (y170, 0)) = some (r1, r2) := by first | (rw [hy170]; with_reducible exact H) | (have H2_ := (Option.bind_some _ _).symm.trans H; rw [hy170]; with_reducible exact H2_) | (have H2_ := (Option.bind_some _ _).symm.trans H; with_reducible exact H2_) | with_reducible exact H | (rw [hy170]; exact H) | exact H
     have Ny170 := ak hy170
     clear hy170
     simp only [Option.some.injEq, Prod.mk.injEq] at H
     obtain ⟨rfl, rfl⟩ := H
     go_enter Tryz.func120, Tryz.ntmps120
     go_wp2_with (first | ((with_reducible refine gate_callee (f := 119) rfl ?_); refine goesL_ (some 5) rfl rfl Tryz.func119 (by kernel_rfl) rfl #[.int .i32 a0] rfl (by (try simp only [List.map_toArray, List.map_cons, List.map_nil]); first | done | rfl | (simp only [List.length_drop, List.length_take]; rfl)) ?_; (with_reducible refine (mummerref02_Is.calls a0 true _ A2.out).mono ?_); rintro e w' ⟨rfl, ⟨nd, rfl⟩⟩; refine ⟨_, rfl, ?_⟩) | ((with_reducible refine gate_dst (N := 57) rfl ?_); refine Kd.R_lit (Kd.int .u8) _ 5 ?hg (N := 57) ?hd (xs := ([(wrap32 (240 + (wrap32 (Int.tdiv a0 262144)))) % 256, (wrap32 (128 + (Int.tmod (wrap32 (Int.tdiv a0 4096)) 64))) % 256, (wrap32 (128 + (Int.tmod (wrap32 (Int.tdiv a0 64)) 64))) % 256, (wrap32 (128 + (Int.tmod a0 64))) % 256] : List Int)) (inner := [.int .u8 ((wrap32 (240 + (wrap32 (Int.tdiv a0 262144)))) % 256), .int .u8 ((wrap32 (128 + (Int.tmod (wrap32 (Int.tdiv a0 4096)) 64))) % 256), .int .u8 ((wrap32 (128 + (Int.tmod (wrap32 (Int.tdiv a0 64)) 64))) % 256), .int .u8 ((wrap32 (128 + (Int.tmod a0 64))) % 256)]) (ok := fun _ => True) (okp := fun _ => True) ?hr ?hp (fun _ hk => hk) trivial (Below.refl _ _) (Nat.le_refl _) (by simp) ?_; (case hd => rfl); (case hg => rfl); (case hr => first | (go_simp; done) | (go_simp; rfl)); (case hp => exact (Reps.one (show Kd.M (Kd.int .u8) _ _ _ ((wrap32 (240 + (wrap32 (Int.tdiv a0 262144)))) % 256) [.int .u8 ((wrap32 (240 + (wrap32 (Int.tdiv a0 262144)))) % 256)] from rfl) (Reps.one (show Kd.M (Kd.int .u8) _ _ _ ((wrap32 (128 + (Int.tmod (wrap32 (Int.tdiv a0 4096)) 64))) % 256) [.int .u8 ((wrap32 (128 + (Int.tmod (wrap32 (Int.tdiv a0 4096)) 64))) % 256)] from rfl) (Reps.one (show Kd.M (Kd.int .u8) _ _ _ ((wrap32 (128 + (Int.tmod (wrap32 (Int.tdiv a0 64)) 64))) % 256) [.int .u8 ((wrap32 (128 + (Int.tmod (wrap32 (Int.tdiv a0 64)) 64))) % 256)] from rfl) (Reps.one (show Kd.M (Kd.int .u8) _ _ _ ((wrap32 (128 + (Int.tmod a0 64))) % 256) [.int .u8 ((wrap32 (128 + (Int.tmod a0 64))) % 256)] from rfl) (Reps.none _ _)))))); intro v171 w13 ho14 hb hg_ hnew_; clear hg_ hnew_; (first | rw [← Ny170.out] at ho14 | (simp only [Int.reduceToNat] at ho14; rw [← Ny170.out] at ho14)); have n0_ := ak (Kd.R_lower ho14 (below_size (by repeat (first | (with_reducible first | exact HB.out | apply wA | apply wN | apply wD) | exact HB.out)))); have n1_ := ak (below_step (by repeat (first | (with_reducible first | exact HB.out | apply wA | apply wN | apply wD) | exact HB.out)) hb); clear HB; have HO172 := n0_; have HB := n1_; clear n0_ n1_; clear hb ho14))
     go_ret2
     exact ⟨_, by first | rfl | (simp [errW_none, errW_some] <;> rfl) | (simp [*, errW_none, errW_some] <;> rfl), by (with_reducible repeat (first | apply Kd.R_alloc | apply Kd.R_drewN | apply Kd.R_drew)); exact HO172.out, by repeat (first | (with_reducible first | exact HB.out | apply wA | apply wN | apply wD) | exact HB.out)⟩
 ·replace c3 := Bool.eq_false_iff.mpr c3
  subst c3
  have H1 : (some (([] : List Int), 7)) = some (r1, r2) := by rw [if_neg (show ¬ (false = true) by decide)] at H; exact H
  clear H
  have H := H1
  clear H1
  simp only [Option.some.injEq, Prod.mk.injEq] at H
  obtain ⟨rfl, rfl⟩ := H
  go_enter Tryz.func120, Tryz.ntmps120
  go_wp2_with (first | ((with_reducible refine gate_callee (f := 119) rfl ?_); refine goesL_ (some 5) rfl rfl Tryz.func119 (by kernel_rfl) rfl #[.int .i32 a0] rfl (by (try simp only [List.map_toArray, List.map_cons, List.map_nil]); first | done | rfl | (simp only [List.length_drop, List.length_take]; rfl)) ?_; (with_reducible refine (mummerref02_Is.calls a0 false _ A2.out).mono ?_); rintro e w' ⟨rfl, ⟨nd, rfl⟩⟩; refine ⟨_, rfl, ?_⟩))
  go_ret2
  exact ⟨_, by first | rfl | (simp [errW_none, errW_some] <;> rfl) | (simp [*, errW_none, errW_some] <;> rfl), by first | exact Kd.R_nil _ _ _ _ _ | exact Kd.N_nil _ _ _ _ _ | exact Kd.V_nil _ _ _ _ _ | exact Kd.Q_nil _ _ _ _ _ | exact Kd.S_nil _ _ _ _ _, by repeat (first | (with_reducible first | exact HB.out | apply wA | apply wN | apply wD) | exact HB.out)⟩
end Go.Proofs.YtdjkdlbokepoaaaGreatDoor.P
namespace Go.Proofs.YtdjkdlbokepoaaaGreatDoor.P
open Go.RowKit Go.Proofs.YtdjkdlbokepoaaaGreatDoorW.PrintWords Go.Proofs.YtdjkdlbokepoaaaGreatDoorW.PrintLast Go.Proofs.YtdjkdlbokepoaaaGreatDoorW.PrintMore
attribute [local go_sem] max2_int min2_int max_two min_two max_three min_three max_four min_four
set_option linter.unusedVariables false
set_option linter.unusedSimpArgs false
def mummerref02_stands.f (l0 : List Int) : Option (Int × Bool) := (mummerref02_number.f l0).bind fun t173 => ((mummerref02_Is.f t173).bind fun t174 => (if t174 = true then ((mummerref02_Encode.f t173).bind fun bt175 => (some (t173, ((strOfNums l0).toList == (strOfNums bt175.1).toList)))) else (some (0, false))))
set_option maxHeartbeats 8000000 in
set_option maxRecDepth 100000 in
theorem mummerref02_stands.calls (A0 : Option Addr) (c0 : Nat) (l0 : List Int) (r1 : Int) (r2 : Bool) (w : World) (hr0 : Kd.C (Kd.int .u8) w A0 l0.length l0) (hc0 : l0.length ≤ c0) (h : mummerref02_stands.f l0 = some (r1, r2)) :
  Calls Tryz.prog 92 #[.slice A0 l0.length c0] w fun e w' => e = .returned (.tuple #[.int .i32 r1, .bool r2]) ∧ Below w.heap.size w w' := by
 have HR0 := ak hr0
 have HC0 := ak hc0
 clear hr0 hc0
 have HB := ak (Below.refl w.heap.size w)
 have H : ((mummerref02_number.f l0).bind fun t173 => ((mummerref02_Is.f t173).bind fun t174 => (if t174 = true then ((mummerref02_Encode.f t173).bind fun bt175 => (some (t173, ((strOfNums l0).toList == (strOfNums bt175.1).toList)))) else (some (0, false))))) = some (r1, r2) := h
 clear h
 replace H := Option.bind_eq_some_iff.mp H
 obtain ⟨t173, A20, H⟩ := H
 try dsimp only at H
 have A2 := ak A20
 clear A20
 replace H := Option.bind_eq_some_iff.mp H
 obtain ⟨t174, A30, H⟩ := H
 try dsimp only at H
 have A3 := ak A30
 clear A30
 by_cases c4 : t174 = true
 ·subst c4
  have H1 : ((mummerref02_Encode.f t173).bind fun bt175 => (some (t173, ((strOfNums l0).toList == (strOfNums bt175.1).toList)))) = some (r1, r2) := by rw [if_pos rfl] at H; exact H
  clear H
  have H := H1
  clear H1
  replace H := Option.bind_eq_some_iff.mp H
  obtain ⟨⟨t175, t176⟩, A50, H⟩ := H
  replace H : (some (t173, ((strOfNums l0).toList == (strOfNums t175).toList))) = some (r1, r2) := H
  have A5 := ak A50
  clear A50
  simp only [Option.some.injEq, Prod.mk.injEq] at H
  obtain ⟨rfl, rfl⟩ := H
  go_enter Tryz.func92, Tryz.ntmps92
  go_wp2_with (first | (go_at_call 118; (with_reducible refine (mummerref02_number.calls _ _ l0 t173 _ ?side1 ?side2 A2.out).mono ?_); (case side1 => repeat (first | exact HR0.out | (with_reducible refine Kd.C_alloc ?_ _) | (with_reducible refine Kd.C_drewN ?_ _) | (with_reducible refine Kd.C_drew ?_))); (case side2 => exact HC0.out); rintro e w6 ⟨rfl, hb⟩; have n0_ := ak (below_step (by repeat (first | (with_reducible first | exact HB.out | apply wA | apply wN | apply wD) | exact HB.out)) hb); clear HB; have HB := n0_; clear n0_; (try clear hb); (try clear hb2); (try clear hk); (try clear hi)) | (go_at_call 119; (with_reducible refine (mummerref02_Is.calls t173 true _ A3.out).mono ?_); rintro e w' ⟨rfl, ⟨nd, rfl⟩⟩; (try first | exact ⟨rfl, _, World.drewN_drewN _ _ _⟩ | exact ⟨rfl, _, Eq.trans (World.drewN_drewN _ _ _) (congrArg (World.drewN _) (Nat.add_assoc _ _ _))⟩)) | (go_at_call 120; (with_reducible refine (mummerref02_Encode.calls t173 t175 t176 _ A5.out).mono ?_); rintro e w7 ⟨v177, rfl, ho0, hb⟩; have n0_ := ak (Kd.R_lower ho0 (below_size (by repeat (first | (with_reducible first | exact HB.out | apply wA | apply wN | apply wD) | exact HB.out)))); have n1_ := ak (below_step (by repeat (first | (with_reducible first | exact HB.out | apply wA | apply wN | apply wD) | exact HB.out)) hb); clear HB; have HO178 := n0_; have HB := n1_; clear n0_ n1_; (try clear hb); (try clear hb2); (try clear hk); (try clear hi); (try clear ho0); have hcv8 := Kd.C_string (P := Tryz.prog) (A := A0) (c := c0) Tryz.underlying29 Tryz.underlying5 Tryz.underlying9 (Kd.C_below HR0.out HB.out); have hcv9 := own_string (P := Tryz.prog) Tryz.underlying29 Tryz.underlying5 Tryz.underlying9 (Kd.own_of_R HO178.out)))
  have hs1_ := Kd.C_string (P := Tryz.prog) (A := A0) (c := c0) Tryz.underlying29 Tryz.underlying5 Tryz.underlying9 (Kd.C_drew (Kd.C_below HR0.out HB.out))
  have hs2_ := own_string (P := Tryz.prog) Tryz.underlying29 Tryz.underlying5 Tryz.underlying9 (Kd.own_of_R (Kd.R_drew HO178.out))
  refine start_ (n := 8) (S := fun w' => (convert 29 9 (.slice A0 l0.length c0)).run Tryz.prog w' = .ok (.string (strOfNums l0)) w' ∧ (convert 29 9 v177).run Tryz.prog w' = .ok (.string (strOfNums t175)) w') (ds := []) #[false, false, false, false, false, false, false, false] (by kernel_rfl) rfl rfl ⟨hs1_, hs2_⟩ (fun hHeld => ?_)
  refine pure_ (i := 0) (N := some 17) (v := ?_) (a' := ?_) #[true, false, false, false, false, false, false, false] rfl rfl (by kernel_rfl) (fun _ _ _ h => h) (Or.inl ⟨by rfl, ?_⟩) ?_ ?_; rotate_left; · (intro w'; go_simp; with_reducible rfl)
  rotate_left; · (simp only [Act.put, List.setIfInBounds_toArray, List.set_cons_zero, List.set_cons_succ, i64_w, i32_w]; rfl)
  refine pure_ (i := 1) (N := some 18) (v := ?_) (a' := ?_) #[true, true, false, false, false, false, false, false] rfl rfl (by kernel_rfl) (fun _ _ _ h => h) (Or.inl ⟨by rfl, ?_⟩) ?_ ?_; rotate_left; · (intro w'; go_simp; with_reducible rfl)
  rotate_left; · (simp only [Act.put, List.setIfInBounds_toArray, List.set_cons_zero, List.set_cons_succ, i64_w, i32_w]; rfl)
  refine take_ (i := 2) (N := some 19) (v := ?_) (a' := ?_) #[true, true, true, false, false, false, false, false] rfl rfl (by kernel_rfl) (fun _ _ _ h => h) (Or.inl ⟨by rfl, ?_⟩) hHeld ?_ ?_; rotate_left; · (rintro w' ⟨s0, s1⟩; go_simp; with_reducible rfl)
  rotate_left; · (simp only [Act.put, List.setIfInBounds_toArray, List.set_cons_zero, List.set_cons_succ, i64_w, i32_w]; rfl)
  refine pure_ (i := 3) (N := some 20) (v := ?_) (a' := ?_) #[true, true, true, true, false, false, false, false] rfl rfl (by kernel_rfl) (fun _ _ _ h => h) (Or.inl ⟨by rfl, ?_⟩) ?_ ?_; rotate_left; · (intro w'; go_simp; with_reducible rfl)
  rotate_left; · (simp only [Act.put, List.setIfInBounds_toArray, List.set_cons_zero, List.set_cons_succ, i64_w, i32_w]; rfl)
  refine take_ (i := 4) (N := some 21) (v := ?_) (a' := ?_) #[true, true, true, true, true, false, false, false] rfl rfl (by kernel_rfl) (fun _ _ _ h => h) (Or.inl ⟨by rfl, ?_⟩) hHeld ?_ ?_; rotate_left; · (rintro w' ⟨s0, s1⟩; go_simp; with_reducible rfl)
  rotate_left; · (simp only [Act.put, List.setIfInBounds_toArray, List.set_cons_zero, List.set_cons_succ, i64_w, i32_w]; rfl)
  refine pure_ (i := 5) (N := some 22) (v := ?_) (a' := ?_) #[true, true, true, true, true, true, false, false] rfl rfl (by kernel_rfl) (fun _ _ _ h => h) (Or.inl ⟨by rfl, ?_⟩) ?_ ?_; rotate_left; · (intro w'; go_simp; with_reducible rfl)
  rotate_left; · (simp only [Act.put, List.setIfInBounds_toArray, List.set_cons_zero, List.set_cons_succ, i64_w, i32_w]; rfl)
  refine pure_ (i := 6) (N := some 2) (v := ?_) (a' := ?_) #[true, true, true, true, true, true, true, false] rfl rfl (by kernel_rfl) (fun _ _ _ h => h) (Or.inl ⟨by rfl, ?_⟩) ?_ ?_; rotate_left; · (intro w'; go_simp; with_reducible rfl)
  rotate_left; · (simp only [Act.put, List.setIfInBounds_toArray, List.set_cons_zero, List.set_cons_succ, i64_w, i32_w]; rfl)
  refine pure_ (i := 7) (N := some 3) (v := ?_) (a' := ?_) #[true, true, true, true, true, true, true, true] rfl rfl (by kernel_rfl) (fun _ _ _ h => h) (Or.inl ⟨by rfl, ?_⟩) ?_ ?_; rotate_left; · (intro w'; go_simp; with_reducible rfl)
  rotate_left; · (simp only [Act.put, List.setIfInBounds_toArray, List.set_cons_zero, List.set_cons_succ, i64_w, i32_w]; rfl)
  refine done_ (by kernel_rfl) ?_
  try go_wp2
  go_ret2
  exact ⟨by first | rfl | (simp [errW_none, errW_some] <;> rfl) | (simp [*, errW_none, errW_some] <;> rfl), by repeat (first | (with_reducible first | exact HB.out | apply wA | apply wN | apply wD) | exact HB.out)⟩
 ·replace c4 := Bool.eq_false_iff.mpr c4
  subst c4
  have H1 : (some (0, false)) = some (r1, r2) := by rw [if_neg (show ¬ (false = true) by decide)] at H; exact H
  clear H
  have H := H1
  clear H1
  simp only [Option.some.injEq, Prod.mk.injEq] at H
  obtain ⟨rfl, rfl⟩ := H
  go_enter Tryz.func92, Tryz.ntmps92
  go_wp2_with (first | (go_at_call 118; (with_reducible refine (mummerref02_number.calls _ _ l0 t173 _ ?side1 ?side2 A2.out).mono ?_); (case side1 => repeat (first | exact HR0.out | (with_reducible refine Kd.C_alloc ?_ _) | (with_reducible refine Kd.C_drewN ?_ _) | (with_reducible refine Kd.C_drew ?_))); (case side2 => exact HC0.out); rintro e w10 ⟨rfl, hb⟩; have n0_ := ak (below_step (by repeat (first | (with_reducible first | exact HB.out | apply wA | apply wN | apply wD) | exact HB.out)) hb); clear HB; have HB := n0_; clear n0_; (try clear hb); (try clear hb2); (try clear hk); (try clear hi)) | (go_at_call 119; (with_reducible refine (mummerref02_Is.calls t173 false _ A3.out).mono ?_); rintro e w' ⟨rfl, ⟨nd, rfl⟩⟩; (try first | exact ⟨rfl, _, World.drewN_drewN _ _ _⟩ | exact ⟨rfl, _, Eq.trans (World.drewN_drewN _ _ _) (congrArg (World.drewN _) (Nat.add_assoc _ _ _))⟩)))
  repeat (go_quiet (first | (go_at_call 118; (with_reducible refine (mummerref02_number.calls _ _ l0 t173 _ ?side1 ?side2 A2.out).mono ?_); (case side1 => repeat (first | exact HR0.out | (with_reducible refine Kd.C_alloc ?_ _) | (with_reducible refine Kd.C_drewN ?_ _) | (with_reducible refine Kd.C_drew ?_))); (case side2 => exact HC0.out); rintro e w10 ⟨rfl, hb⟩; have n0_ := ak (below_step (by repeat (first | (with_reducible first | exact HB.out | apply wA | apply wN | apply wD) | exact HB.out)) hb); clear HB; have HB := n0_; clear n0_; (try clear hb); (try clear hb2); (try clear hk); (try clear hi)) | (go_at_call 119; (with_reducible refine (mummerref02_Is.calls t173 false _ A3.out).mono ?_); rintro e w' ⟨rfl, ⟨nd, rfl⟩⟩; (try first | exact ⟨rfl, _, World.drewN_drewN _ _ _⟩ | exact ⟨rfl, _, Eq.trans (World.drewN_drewN _ _ _) (congrArg (World.drewN _) (Nat.add_assoc _ _ _))⟩))); try go_wp2_with (first | (go_at_call 118; (with_reducible refine (mummerref02_number.calls _ _ l0 t173 _ ?side1 ?side2 A2.out).mono ?_); (case side1 => repeat (first | exact HR0.out | (with_reducible refine Kd.C_alloc ?_ _) | (with_reducible refine Kd.C_drewN ?_ _) | (with_reducible refine Kd.C_drew ?_))); (case side2 => exact HC0.out); rintro e w10 ⟨rfl, hb⟩; have n0_ := ak (below_step (by repeat (first | (with_reducible first | exact HB.out | apply wA | apply wN | apply wD) | exact HB.out)) hb); clear HB; have HB := n0_; clear n0_; (try clear hb); (try clear hb2); (try clear hk); (try clear hi)) | (go_at_call 119; (with_reducible refine (mummerref02_Is.calls t173 false _ A3.out).mono ?_); rintro e w' ⟨rfl, ⟨nd, rfl⟩⟩; (try first | exact ⟨rfl, _, World.drewN_drewN _ _ _⟩ | exact ⟨rfl, _, Eq.trans (World.drewN_drewN _ _ _) (congrArg (World.drewN _) (Nat.add_assoc _ _ _))⟩))))
  go_ret2
  exact ⟨by first | rfl | (simp [errW_none, errW_some] <;> rfl) | (simp [*, errW_none, errW_some] <;> rfl), by repeat (first | (with_reducible first | exact HB.out | apply wA | apply wN | apply wD) | exact HB.out)⟩
end Go.Proofs.YtdjkdlbokepoaaaGreatDoor.P
namespace Go.Proofs.YtdjkdlbokepoaaaGreatDoor.P
open Go.RowKit Go.Proofs.YtdjkdlbokepoaaaGreatDoorW.PrintWords Go.Proofs.YtdjkdlbokepoaaaGreatDoorW.PrintLast Go.Proofs.YtdjkdlbokepoaaaGreatDoorW.PrintMore
attribute [local go_sem] max2_int min2_int max_two min_two max_three min_three max_four min_four
set_option linter.unusedVariables false
set_option linter.unusedSimpArgs false
mutual
def mummerref02_begins.j2 : Nat → List Int → Int → Option (Bool)
 | 0, _, _ => none
 | k + 1, x0, x3 => if (x0.length : Int) ≥ x3 then (some false) else (mummerref02_begins.l0 k x0 x3 128)
def mummerref02_begins.l0 : Nat → List Int → Int → Int → Option (Bool)
 | 0, _, _, _ => none
 | k + 1, x0, x3, x5 => if x5 ≤ 191 then ((some (([] : List Int) : List Int)).bind fun y180 => (if y180.length + x0.length < 140737488355328 then (mummerref02_begins.l1 k x0 x3 x5 (y180 ++ x0)) else (none))) else (some false)
def mummerref02_begins.l1 : Nat → List Int → Int → Int → List Int → Option (Bool)
 | 0, _, _, _, _ => none
 | k + 1, x0, x3, x5, x6 => if (x6.length : Int) < x3 then (if x6.length < 140737488355328 then (mummerref02_begins.l1 k x0 x3 x5 (x6 ++ [(x5) % 256])) else (none)) else ((mummerref02_stands.f x6).bind fun bt189 => (if bt189.2 = true then (some true) else (mummerref02_begins.l0 k x0 x3 (wrap64 (x5 + 63)))))
def mummerref02_begins.j0 : Nat → List Int → Int → Int → Bool → Option (Bool)
 | 0, _, _, _, _ => none
 | k + 1, x0, x3, x4, x13 => if x13 = true then (mummerref02_begins.j2 k x0 2) else (if x4 ≥ 224 then (mummerref02_begins.j1 k x0 x3 x4 (decide (x4 < 240))) else (mummerref02_begins.j1 k x0 x3 x4 false))
def mummerref02_begins.j1 : Nat → List Int → Int → Int → Bool → Option (Bool)
 | 0, _, _, _, _ => none
 | k + 1, x0, x3, x4, x20 => if x20 = true then (mummerref02_begins.j2 k x0 3) else (if x4 ≥ 240 then (if x4 < 248 then (mummerref02_begins.j2 k x0 4) else (mummerref02_begins.j2 k x0 x3)) else (mummerref02_begins.j2 k x0 x3))
end
def mummerref02_begins.f (k : Nat) (l0 : List Int) : Option (Bool) := if 0 < (l0.length : Int) then (if (wrap32 (rd l0 0)) ≥ 192 then (mummerref02_begins.j0 k l0 0 (wrap32 (rd l0 0)) (decide ((wrap32 (rd l0 0)) < 224))) else (mummerref02_begins.j0 k l0 0 (wrap32 (rd l0 0)) false)) else (none)
theorem mummerref02_begins.mono_l : ∀ k, (∀ y0 y1, LeO (mummerref02_begins.j2 k y0 y1) (mummerref02_begins.j2 (k + 1) y0 y1)) ∧ (∀ y0 y1 y2, LeO (mummerref02_begins.l0 k y0 y1 y2) (mummerref02_begins.l0 (k + 1) y0 y1 y2)) ∧ (∀ y0 y1 y2 y3, LeO (mummerref02_begins.l1 k y0 y1 y2 y3) (mummerref02_begins.l1 (k + 1) y0 y1 y2 y3)) ∧ (∀ y0 y1 y2 y3, LeO (mummerref02_begins.j0 k y0 y1 y2 y3) (mummerref02_begins.j0 (k + 1) y0 y1 y2 y3)) ∧ (∀ y0 y1 y2 y3, LeO (mummerref02_begins.j1 k y0 y1 y2 y3) (mummerref02_begins.j1 (k + 1) y0 y1 y2 y3))
 | 0 => ⟨fun _ _ r h => by simp [mummerref02_begins.j2] at h, fun _ _ _ r h => by simp [mummerref02_begins.l0] at h, fun _ _ _ _ r h => by simp [mummerref02_begins.l1] at h, fun _ _ _ _ r h => by simp [mummerref02_begins.j0] at h, fun _ _ _ _ r h => by simp [mummerref02_begins.j1] at h⟩
 | k + 1 => by
  obtain ⟨ih0, ih1, ih2, ih3, ih4⟩ := mummerref02_begins.mono_l k
  refine ⟨?_, ?_, ?_, ?_, ?_⟩
  ·intro y0 y1
   unfold mummerref02_begins.j2
   repeat' first
   | (with_reducible exact ih0 _ _)
   | (with_reducible exact ih1 _ _ _)
   | (with_reducible exact ih2 _ _ _ _)
   | (with_reducible exact ih3 _ _ _ _)
   | (with_reducible exact ih4 _ _ _ _)
   | (with_reducible exact LeO.refl _)
   | (with_reducible exact LeO.none _)
   | (with_reducible refine LeO.ite ?_ ?_)
   | (with_reducible refine LeO.bind ?_ (fun _ => ?_))
   | exact ih0 _ _
   | exact ih1 _ _ _
   | exact ih2 _ _ _ _
   | exact ih3 _ _ _ _
   | exact ih4 _ _ _ _
   | exact LeO.none _
   | refine LeO.ite ?_ ?_
   | refine LeO.bind ?_ (fun _ => ?_)
  ·intro y0 y1 y2
   unfold mummerref02_begins.l0
   repeat' first
   | (with_reducible exact ih0 _ _)
   | (with_reducible exact ih1 _ _ _)
   | (with_reducible exact ih2 _ _ _ _)
   | (with_reducible exact ih3 _ _ _ _)
   | (with_reducible exact ih4 _ _ _ _)
   | (with_reducible exact LeO.refl _)
   | (with_reducible exact LeO.none _)
   | (with_reducible refine LeO.ite ?_ ?_)
   | (with_reducible refine LeO.bind ?_ (fun _ => ?_))
   | exact ih0 _ _
   | exact ih1 _ _ _
   | exact ih2 _ _ _ _
   | exact ih3 _ _ _ _
   | exact ih4 _ _ _ _
   | exact LeO.none _
   | refine LeO.ite ?_ ?_
   | refine LeO.bind ?_ (fun _ => ?_)
  ·intro y0 y1 y2 y3
   unfold mummerref02_begins.l1
   repeat' first
   | (with_reducible exact ih0 _ _)
   | (with_reducible exact ih1 _ _ _)
   | (with_reducible exact ih2 _ _ _ _)
   | (with_reducible exact ih3 _ _ _ _)
   | (with_reducible exact ih4 _ _ _ _)
   | (with_reducible exact LeO.refl _)
   | (with_reducible exact LeO.none _)
   | (with_reducible refine LeO.ite ?_ ?_)
   | (with_reducible refine LeO.bind ?_ (fun _ => ?_))
   | exact ih0 _ _
   | exact ih1 _ _ _
   | exact ih2 _ _ _ _
   | exact ih3 _ _ _ _
   | exact ih4 _ _ _ _
   | exact LeO.none _
   | refine LeO.ite ?_ ?_
   | refine LeO.bind ?_ (fun _ => ?_)
  ·intro y0 y1 y2 y3
   unfold mummerref02_begins.j0
   repeat' first
   | (with_reducible exact ih0 _ _)
   | (with_reducible exact ih1 _ _ _)
   | (with_reducible exact ih2 _ _ _ _)
   | (with_reducible exact ih3 _ _ _ _)
   | (with_reducible exact ih4 _ _ _ _)
   | (with_reducible exact LeO.refl _)
   | (with_reducible exact LeO.none _)
   | (with_reducible refine LeO.ite ?_ ?_)
   | (with_reducible refine LeO.bind ?_ (fun _ => ?_))
   | exact ih0 _ _
   | exact ih1 _ _ _
   | exact ih2 _ _ _ _
   | exact ih3 _ _ _ _
   | exact ih4 _ _ _ _
   | exact LeO.none _
   | refine LeO.ite ?_ ?_
   | refine LeO.bind ?_ (fun _ => ?_)
  ·intro y0 y1 y2 y3
   unfold mummerref02_begins.j1
   repeat' first
   | (with_reducible exact ih0 _ _)
   | (with_reducible exact ih1 _ _ _)
   | (with_reducible exact ih2 _ _ _ _)
   | (with_reducible exact ih3 _ _ _ _)
   | (with_reducible exact ih4 _ _ _ _)
   | (with_reducible exact LeO.refl _)
   | (with_reducible exact LeO.none _)
   | (with_reducible refine LeO.ite ?_ ?_)
   | (with_reducible refine LeO.bind ?_ (fun _ => ?_))
   | exact ih0 _ _
   | exact ih1 _ _ _
   | exact ih2 _ _ _ _
   | exact ih3 _ _ _ _
   | exact ih4 _ _ _ _
   | exact LeO.none _
   | refine LeO.ite ?_ ?_
   | refine LeO.bind ?_ (fun _ => ?_)
theorem mummerref02_begins.mono : ∀ a0 k, LeO (mummerref02_begins.f k a0) (mummerref02_begins.f (k + 1) a0) := by
 intro a0 k
 obtain ⟨ih0, ih1, ih2, ih3, ih4⟩ := mummerref02_begins.mono_l k
 unfold mummerref02_begins.f
 repeat' first
   | (with_reducible exact ih0 _ _)
   | (with_reducible exact ih1 _ _ _)
   | (with_reducible exact ih2 _ _ _ _)
   | (with_reducible exact ih3 _ _ _ _)
   | (with_reducible exact ih4 _ _ _ _)
   | (with_reducible exact LeO.refl _)
   | (with_reducible exact LeO.none _)
   | (with_reducible refine LeO.ite ?_ ?_)
   | (with_reducible refine LeO.bind ?_ (fun _ => ?_))
   | exact ih0 _ _
   | exact ih1 _ _ _
   | exact ih2 _ _ _ _
   | exact ih3 _ _ _ _
   | exact ih4 _ _ _ _
   | exact LeO.none _
   | refine LeO.ite ?_ ?_
   | refine LeO.bind ?_ (fun _ => ?_)
set_option maxHeartbeats 8000000 in
set_option maxRecDepth 100000 in
theorem mummerref02_begins.calls (k : Nat) (A0 : Option Addr) (c0 : Nat) (l0 : List Int) (r : Bool) (w : World) (hr0 : Kd.C (Kd.int .u8) w A0 l0.length l0) (hc0 : l0.length ≤ c0) (h : mummerref02_begins.f k l0 = some r) :
  Calls Tryz.prog 93 #[.slice A0 l0.length c0] w fun e w' => e = .returned (.bool r) ∧ Below w.heap.size w w' := by
 have HR0 := ak hr0
 have HC0 := ak hc0
 clear hr0 hc0
 have HB := ak (Below.refl w.heap.size w)
 have H : (if 0 < (l0.length : Int) then (if (wrap32 (rd l0 0)) ≥ 192 then (mummerref02_begins.j0 k l0 0 (wrap32 (rd l0 0)) (decide ((wrap32 (rd l0 0)) < 224))) else (mummerref02_begins.j0 k l0 0 (wrap32 (rd l0 0)) false)) else (none)) = some r := h
 clear h
 by_cases c2 : 0 < (l0.length : Int)
 ·rw [if_pos c2] at H
  have c2b0 : decide (0 < (l0.length : Int)) = true := decide_eq_true c2
  have c2b1 : decide (0 < l0.length) = true := decide_eq_true (by omega)
  clear c2
  have HC3 := ak H
  clear H
  have p179 : 0 ≤ (0 : Int) := (by omega)
  have q179 : 0 < (l0.length : Int) := of_decide_eq_true (by first | (with_reducible assumption) | assumption)
  obtain ⟨ad179, e179, hx179_0⟩ := Kd.at_int HR0.out 0 p179 q179
  cases e179
  have qi179 : (0 < l0.length) = True := eq_true (by omega)
  (try rw [show ((0 : Int)).toNat = 0 from rfl] at hx179_0)
  (try rw [Addr.add_zero'] at hx179_0)
  replace p179 := eq_true p179
  replace q179 := eq_true q179
  go_enter Tryz.func93, Tryz.ntmps93
  go_upto_block 0 with (fail)
  go_cut [3] (fun v3 wc => ∃ (kq : Nat) (x3_2 : Int), v3 = .int .i64 x3_2 ∧ Aside0 (mummerref02_begins.j2 kq l0 x3_2 = some r) ∧ Aside0 (kq ≤ k) ∧ Aside0 (Below w.heap.size w wc))
  case first =>
   have H := HC3.out
   clear HC3
   have HC4 := ak H
   clear H
   go_upto_region 3 with (fail)
   go_cut [13] (fun v13 wc => ∃ (kq : Nat) (x13_3 : Bool), v13 = .bool x13_3 ∧ Aside0 (mummerref02_begins.j0 kq l0 0 (wrap32 (rd l0 0)) x13_3 = some r) ∧ Aside0 (kq ≤ k) ∧ Aside0 (Below w.heap.size w wc))
   case first =>
    have H := HC4.out
    clear HC4
    by_cases c5 : (wrap32 (rd l0 0)) ≥ 192
    ·rw [if_pos c5] at H
     have c5b0 : decide (192 ≤ (wrap32 (rd l0 0))) = true := decide_eq_true c5
     clear c5
     (first | rw [c5b0] | (simp only [i64_w, i32_w]; rw [c5b0]) | skip)
     have H' := ak H
     clear H
     go_wp2
     go_meet
     case rel => exact ⟨_, (decide ((wrap32 (rd l0 0)) < 224)), (by first | rfl | (simp; done) | (simp [*]; done)), H', ⟨by first | omega | exact Nat.le_refl _⟩, ⟨by repeat (first | (with_reducible first | exact HB.out | apply wA | apply wN | apply wD) | exact HB.out)⟩⟩
    ·rw [if_neg c5] at H
     have c5b0 : decide (192 ≤ (wrap32 (rd l0 0))) = false := decide_eq_false c5
     clear c5
     (first | rw [c5b0] | (simp only [i64_w, i32_w]; rw [c5b0]) | skip)
     have H' := ak H
     clear H
     go_wp2
     go_meet
     case rel => exact ⟨_, (false), (by first | rfl | (simp; done) | (simp [*]; done)), H', ⟨by first | omega | exact Nat.le_refl _⟩, ⟨by repeat (first | (with_reducible first | exact HB.out | apply wA | apply wN | apply wD) | exact HB.out)⟩⟩
   case rest =>
    clear HC4
    try clear p1
    try clear q1
    try clear hx1
    try clear qi1
    try clear c2
    try clear c2b0
    try clear c2b1
    try clear p2
    try clear p3
    try clear c5
    try clear c5b0
    try clear hx179_0
    try clear p179
    try clear q179
    obtain ⟨kq, x13_3, rfl, HA, HJ3, HB⟩ := hcut
    cases kq with
    | zero => exact absurd HA.out (by simp [mummerref02_begins.j0])
    | succ kj3 =>
     have H := HA.out
     clear HA
     simp only [mummerref02_begins.j0] at H
     by_cases c6 : x13_3 = true
     ·subst c6
      have H1 : (mummerref02_begins.j2 kj3 l0 2) = some r := by rw [if_pos rfl] at H; exact H
      clear H
      have H := H1
      clear H1
      have H' := ak H
      clear H
      go_wp2
      go_meet
      case rel => exact ⟨_, (2), (by first | rfl | (simp; done) | (simp [*]; done)), H', ⟨by have := HJ3.out; first | omega | exact Nat.le_refl _⟩, ⟨by repeat (first | (with_reducible first | exact HB.out | apply wA | apply wN | apply wD) | exact HB.out)⟩⟩
     ·replace c6 := Bool.eq_false_iff.mpr c6
      subst c6
      have H1 : (if (wrap32 (rd l0 0)) ≥ 224 then (mummerref02_begins.j1 kj3 l0 0 (wrap32 (rd l0 0)) (decide ((wrap32 (rd l0 0)) < 240))) else (mummerref02_begins.j1 kj3 l0 0 (wrap32 (rd l0 0)) false)) = some r := by rw [if_neg (show ¬ (false = true) by decide)] at H; exact H
      clear H
      have H := H1
      clear H1
      have HC7 := ak H
      clear H
      go_upto_region 5 with (fail)
      go_cut [20] (fun v20 wc => ∃ (kq : Nat) (x20_6 : Bool), v20 = .bool x20_6 ∧ Aside0 (mummerref02_begins.j1 kq l0 0 (wrap32 (rd l0 0)) x20_6 = some r) ∧ Aside0 (kq ≤ kj3) ∧ Aside0 (Below w.heap.size w wc))
      case first =>
       have H := HC7.out
       clear HC7
       by_cases c8 : (wrap32 (rd l0 0)) ≥ 224
       ·rw [if_pos c8] at H
        have c8b0 : decide (224 ≤ (wrap32 (rd l0 0))) = true := decide_eq_true c8
        clear c8
        (first | rw [c8b0] | (simp only [i64_w, i32_w]; rw [c8b0]) | skip)
        have H' := ak H
        clear H
        go_wp2
        go_meet
        case rel => exact ⟨_, (decide ((wrap32 (rd l0 0)) < 240)), (by first | rfl | (simp; done) | (simp [*]; done)), H', ⟨by have := HJ3.out; first | omega | exact Nat.le_refl _⟩, ⟨by repeat (first | (with_reducible first | exact HB.out | apply wA | apply wN | apply wD) | exact HB.out)⟩⟩
       ·rw [if_neg c8] at H
        have c8b0 : decide (224 ≤ (wrap32 (rd l0 0))) = false := decide_eq_false c8
        clear c8
        (first | rw [c8b0] | (simp only [i64_w, i32_w]; rw [c8b0]) | skip)
        have H' := ak H
        clear H
        go_wp2
        go_meet
        case rel => exact ⟨_, (false), (by first | rfl | (simp; done) | (simp [*]; done)), H', ⟨by have := HJ3.out; first | omega | exact Nat.le_refl _⟩, ⟨by repeat (first | (with_reducible first | exact HB.out | apply wA | apply wN | apply wD) | exact HB.out)⟩⟩
      case rest =>
       clear HC7
       try clear p1
       try clear q1
       try clear hx1
       try clear qi1
       try clear c2
       try clear c2b0
       try clear c2b1
       try clear p2
       try clear p3
       try clear c5
       try clear c5b0
       try clear c6
       try clear c8
       try clear c8b0
       try clear hx179_0
       try clear p1
       try clear p179
       try clear p2
       try clear p3
       try clear q1
       try clear q179
       obtain ⟨kq, x20_6, rfl, HA, HJ6, HB⟩ := hcut
       cases kq with
       | zero => exact absurd HA.out (by simp [mummerref02_begins.j1])
       | succ kj6 =>
        have H := HA.out
        clear HA
        simp only [mummerref02_begins.j1] at H
        by_cases c9 : x20_6 = true
        ·subst c9
         have H1 : (mummerref02_begins.j2 kj6 l0 3) = some r := by rw [if_pos rfl] at H; exact H
         clear H
         have H := H1
         clear H1
         have H' := ak H
         clear H
         go_wp2
         go_meet
         case rel => exact ⟨_, (3), (by first | rfl | (simp; done) | (simp [*]; done)), H', ⟨by have := HJ3.out; have := HJ6.out; first | omega | exact Nat.le_refl _⟩, ⟨by repeat (first | (with_reducible first | exact HB.out | apply wA | apply wN | apply wD) | exact HB.out)⟩⟩
        ·replace c9 := Bool.eq_false_iff.mpr c9
         subst c9
         have H1 : (if (wrap32 (rd l0 0)) ≥ 240 then (if (wrap32 (rd l0 0)) < 248 then (mummerref02_begins.j2 kj6 l0 4) else (mummerref02_begins.j2 kj6 l0 0)) else (mummerref02_begins.j2 kj6 l0 0)) = some r := by rw [if_neg (show ¬ (false = true) by decide)] at H; exact H
         clear H
         have H := H1
         clear H1
         by_cases c10 : (wrap32 (rd l0 0)) ≥ 240
         ·rw [if_pos c10] at H
          have c10b0 : decide (240 ≤ (wrap32 (rd l0 0))) = true := decide_eq_true c10
          clear c10
          by_cases c11 : (wrap32 (rd l0 0)) < 248
          ·rw [if_pos c11] at H
           have c11b0 : decide ((wrap32 (rd l0 0)) < 248) = true := decide_eq_true c11
           clear c11
           have H' := ak H
           clear H
           go_wp2
           go_meet
           case rel => exact ⟨_, (4), (by first | rfl | (simp; done) | (simp [*]; done)), H', ⟨by have := HJ3.out; have := HJ6.out; first | omega | exact Nat.le_refl _⟩, ⟨by repeat (first | (with_reducible first | exact HB.out | apply wA | apply wN | apply wD) | exact HB.out)⟩⟩
          ·rw [if_neg c11] at H
           have c11b0 : decide ((wrap32 (rd l0 0)) < 248) = false := decide_eq_false c11
           clear c11
           have H' := ak H
           clear H
           go_wp2
           go_meet
           case rel => exact ⟨_, (0), (by first | rfl | (simp; done) | (simp [*]; done)), H', ⟨by have := HJ3.out; have := HJ6.out; first | omega | exact Nat.le_refl _⟩, ⟨by repeat (first | (with_reducible first | exact HB.out | apply wA | apply wN | apply wD) | exact HB.out)⟩⟩
         ·rw [if_neg c10] at H
          have c10b0 : decide (240 ≤ (wrap32 (rd l0 0))) = false := decide_eq_false c10
          clear c10
          have H' := ak H
          clear H
          go_wp2
          go_meet
          case rel => exact ⟨_, (0), (by first | rfl | (simp; done) | (simp [*]; done)), H', ⟨by have := HJ3.out; have := HJ6.out; first | omega | exact Nat.le_refl _⟩, ⟨by repeat (first | (with_reducible first | exact HB.out | apply wA | apply wN | apply wD) | exact HB.out)⟩⟩
  case rest =>
   clear HC3
   try clear c1
   try clear p1
   try clear q1
   try clear hx1
   try clear qi1
   try clear c2
   try clear c2b0
   try clear c2b1
   try clear p2
   try clear p3
   try clear c5
   try clear c5b0
   try clear c6
   try clear c8
   try clear c8b0
   try clear c9
   try clear c10
   try clear c10b0
   try clear c11
   try clear c11b0
   try clear hx179_0
   try clear p1
   try clear p179
   try clear p2
   try clear p3
   try clear q1
   try clear q179
   obtain ⟨kq, x3_2, rfl, HA, HJ2, HB⟩ := hcut
   cases kq with
   | zero => exact absurd HA.out (by simp [mummerref02_begins.j2])
   | succ kj2 =>
    have H := HA.out
    clear HA
    simp only [mummerref02_begins.j2] at H
    by_cases c12 : (l0.length : Int) ≥ x3_2
    ·rw [if_pos c12] at H
     have c12b0 : decide (x3_2 ≤ (l0.length : Int)) = true := decide_eq_true c12
     clear c12
     obtain rfl := Option.some.inj H
     go_wp2
     go_ret
     exact ⟨by first | rfl | (simp [errW_none, errW_some] <;> rfl) | (simp [*, errW_none, errW_some] <;> rfl), by repeat (first | (with_reducible first | exact HB.out | apply wA | apply wN | apply wD) | exact HB.out)⟩
    ·rw [if_neg c12] at H
     have c12b0 : decide (x3_2 ≤ (l0.length : Int)) = false := decide_eq_false c12
     clear c12
     have H' := ak H
     clear H
     go_wp2
     go_loopg [5] kj2 (fun kq v5 w' => ∃ (x5_2 : Int), v5 = .int .i64 x5_2 ∧ Aside0 (mummerref02_begins.l0 kq l0 x3_2 x5_2 = some r) ∧ Aside0 (kq ≤ kj2) ∧ Aside0 (Below w.heap.size w w'))
     case atStart => exact ⟨(128), (by first | rfl | (simp; done) | (simp [*]; done)), H', ⟨Nat.le_refl _⟩, ⟨by repeat (first | (with_reducible first | exact HB.out | apply wA | apply wN | apply wD) | exact HB.out)⟩⟩
     case round =>
      clear H'
      try clear c1
      try clear p1
      try clear q1
      try clear hx1
      try clear qi1
      try clear c2
      try clear c2b0
      try clear c2b1
      try clear p2
      try clear p3
      try clear c5
      try clear c5b0
      try clear c6
      try clear c8
      try clear c8b0
      try clear c9
      try clear c10
      try clear c10b0
      try clear c11
      try clear c11b0
      try clear c12
      try clear c12b0
      try clear hx179_0
      try clear p1
      try clear p179
      try clear p2
      try clear p3
      try clear q1
      try clear q179
      obtain ⟨x5_2, rfl, HA, HK2, HB⟩ := hrel
      cases gk with
      | zero => exact absurd HA.out (by simp [mummerref02_begins.l0])
      | succ k2 =>
       have H := HA.out
       clear HA
       simp only [mummerref02_begins.l0] at H
       by_cases c13 : x5_2 ≤ 191
       ·rw [if_pos c13] at H
        have c13b0 : decide (x5_2 ≤ 191) = true := decide_eq_true c13
        clear c13
        obtain ⟨y180, hy180⟩ : ∃ y_ : List Int, y_ = (([] : List Int)) := ⟨_, rfl⟩
        replace H : (if y180.length + l0.length < 140737488355328 then (mummerref02_begins.l1 k2 l0 x3_2 x5_2 (y180 ++ l0)) else (none)) = some r := by first | (rw [hy180]; with_reducible exact H) | (have H2_ := (Option.bind_some _ _).symm.trans H; rw [hy180]; with_reducible exact H2_) | (have H2_ := (Option.bind_some _ _).symm.trans H; with_reducible exact H2_) | with_reducible exact H | (rw [hy180]; exact H) | exact H
        have Ny180 := ak hy180
        clear hy180
        by_cases c14 : y180.length + l0.length < 140737488355328
        ·rw [if_pos c14] at H
         have LMc14 := ak c14
         clear c14
         obtain ⟨y183, hy183⟩ : ∃ y_ : List Int, y_ = (y180 ++ l0) := ⟨_, rfl⟩
         replace H : (mummerref02_begins.l1 k2 l0 x3_2 x5_2 y183) = some r := by first | (rw [hy183]; with_reducible exact H) | (have H2_ := (Option.bind_some _ _).symm.trans H; rw [hy183]; with_reducible exact H2_) | (have H2_ := (Option.bind_some _ _).symm.trans H; with_reducible exact H2_) | with_reducible exact H | (rw [hy183]; exact H) | exact H
         have Ny183 := ak hy183
         clear hy183
         have H' := ak H
         clear H
         go_wp2_with (first | ((with_reducible refine gate_dst (N := 42) rfl ?_); refine Kd.R_lit (Kd.int .u8) _ 5 ?hg (N := 42) ?hd (xs := ([] : List Int)) (inner := []) (ok := fun _ => True) (okp := fun _ => True) ?hr ?hp (fun _ hk => hk) trivial (Below.refl _ _) (Nat.le_refl _) (by simp) ?_; (case hd => rfl); (case hg => rfl); (case hr => first | (go_simp; done) | (go_simp; rfl)); (case hp => exact (Reps.none _ _)); intro v181 w15 ho16 hb hg_ hnew_; clear hg_ hnew_; (first | rw [← Ny180.out] at ho16 | (simp only [Int.reduceToNat] at ho16; rw [← Ny180.out] at ho16)); have n0_ := ak (Kd.R_lower ho16 (below_size (by repeat (first | (with_reducible first | exact HB.out | apply wA | apply wN | apply wD) | exact HB.out)))); have n1_ := ak (below_step (by repeat (first | (with_reducible first | exact HB.out | apply wA | apply wN | apply wD) | exact HB.out)) hb); clear HB; have HO182 := n0_; have HB := n1_; clear n0_ n1_; clear hb ho16) | ((with_reducible refine gate_builtin (b := .append) (xs := #[.tmp 42, .tmp 43]) rfl ?_); at_builtin; refine Kd.R_append_rows (Kd.int .u8) (w0 := w) w.heap.size rfl (.tmp 42) (.tmp 43) 29 5 (.int .u8 0) 1 rfl Tryz.underlying29 info5 rfl (by decide) (by omega) v181 y180 l0 _ _ _ (fun _ => True) (fun _ => False) rfl rfl ?aO ?aR (fun _ _ h => h) (fun _ h => h.elim) ?aF ?aB ?aS ?aL ?_; (case aR => repeat (first | exact (Kd.C_below HR0.out HB.out) | (with_reducible refine Kd.C_alloc ?_ _) | (with_reducible refine Kd.C_drewN ?_ _) | (with_reducible refine Kd.C_drew ?_))); (case aB => exact (by repeat (first | (with_reducible first | exact HB.out | apply wA | apply wN | apply wD) | exact HB.out))); (case aF => exact (fun _ _ => trivial)); (case aO => exact (by (with_reducible repeat (first | apply Kd.R_alloc | apply Kd.R_drewN | apply Kd.R_drew)); exact HO182.out)); (case aS => exact (below_size (by repeat (first | (with_reducible first | exact HB.out | apply wA | apply wN | apply wD) | exact HB.out)))); (case aL => have := LMc14.out; omega); intro v184 w17 ho hb hg hat; rw [← Ny183.out] at ho; have n0_ := ak (hb); have n1_ := ak (ho); clear HB; clear HO182; have HB := n0_; have HO185 := n1_; clear n0_ n1_; clear ho hb hg hat))
         go_loopg [6] k2 (fun kq v6 w' => ∃ (x6_3 : List Int), Aside0 (mummerref02_begins.l1 kq l0 x3_2 x5_2 x6_3 = some r) ∧ Aside0 (kq ≤ k2) ∧ Aside0 (Kd.R (Kd.int .u8) 5 w' w.heap.size (fun _ => True) v6 x6_3) ∧ Aside0 (Below w.heap.size w w'))
         case atStart => exact ⟨(y183), H', ⟨Nat.le_refl _⟩, ⟨by (with_reducible repeat (first | apply Kd.R_alloc | apply Kd.R_drewN | apply Kd.R_drew)); exact HO185.out⟩, ⟨by repeat (first | (with_reducible first | exact HB.out | apply wA | apply wN | apply wD) | exact HB.out)⟩⟩
         case round =>
          clear H'
          try clear c1
          try clear p1
          try clear q1
          try clear hx1
          try clear qi1
          try clear c2
          try clear c2b0
          try clear c2b1
          try clear p2
          try clear p3
          try clear c5
          try clear c5b0
          try clear c6
          try clear c8
          try clear c8b0
          try clear c9
          try clear c10
          try clear c10b0
          try clear c11
          try clear c11b0
          try clear c12
          try clear c12b0
          try clear c13
          try clear c13b0
          try clear c14
          try clear p17
          try clear q17
          try clear hx17
          try clear qi17
          try clear hx179_0
          try clear p1
          try clear p179
          try clear p2
          try clear p3
          try clear q1
          try clear q179
          obtain ⟨x6_3, HA, HK3, HO_6, HB⟩ := hrel
          cases gk with
          | zero => exact absurd HA.out (by simp [mummerref02_begins.l1])
          | succ k3 =>
           have H := HA.out
           clear HA
           simp only [mummerref02_begins.l1] at H
           by_cases c18 : (x6_3.length : Int) < x3_2
           ·rw [if_pos c18] at H
            have c18b0 : decide ((x6_3.length : Int) < x3_2) = true := decide_eq_true c18
            clear c18
            by_cases c19 : x6_3.length < 140737488355328
            ·rw [if_pos c19] at H
             have LMc19 := ak c19
             clear c19
             obtain ⟨y186, hy186⟩ : ∃ y_ : List Int, y_ = (x6_3 ++ [(x5_2) % 256]) := ⟨_, rfl⟩
             replace H : (mummerref02_begins.l1 k3 l0 x3_2 x5_2 y186) = some r := by first | (rw [hy186]; with_reducible exact H) | (have H2_ := (Option.bind_some _ _).symm.trans H; rw [hy186]; with_reducible exact H2_) | (have H2_ := (Option.bind_some _ _).symm.trans H; with_reducible exact H2_) | with_reducible exact H | (rw [hy186]; exact H) | exact H
             have Ny186 := ak hy186
             clear hy186
             have H' := ak H
             clear H
             obtain ⟨Ao20, co20, eo20⟩ := Kd.R_slice HO_6.out
             subst eo20
             go_wp2_with (first | ((with_reducible refine gate_builtin (b := .append) (xs := #[.tmp 49, .tmp 52]) rfl ?_); at_builtin; refine Kd.R_append (Kd.int .u8) (w0 := w) w.heap.size rfl (.tmp 49) (.tmp 52) 29 5 (.int .u8 0) 1 rfl Tryz.underlying29 info5 rfl (by decide) (by omega) (.slice Ao20 x6_3.length co20) x6_3 ((x5_2) % 256) [.int .u8 ((x5_2) % 256)] (fun _ => True) (fun _ => False) rfl rfl ?aP (fun _ hk => hk.elim) ?aF ?aO ?aB ?aS ?aL ?_; (case aP => exact rfl); (case aB => exact (by repeat (first | (with_reducible first | exact HB.out | apply wA | apply wN | apply wD) | exact HB.out))); (case aF => exact (fun _ _ => trivial)); (case aO => exact (by (with_reducible repeat (first | apply Kd.R_alloc | apply Kd.R_drewN | apply Kd.R_drew)); exact HO_6.out)); (case aS => exact (below_size (by repeat (first | (with_reducible first | exact HB.out | apply wA | apply wN | apply wD) | exact HB.out)))); (case aL => have := LMc19.out; omega); intro v187 w21 ho hb hg hat; rw [← Ny186.out] at ho; have n0_ := ak (hb); have n1_ := ak (ho); clear HB; clear HO_6; have HB := n0_; have HO188 := n1_; clear n0_ n1_; clear ho hb hg hat))
             go_roundg k3
             case measure => have := HJ2.out; have := HK2.out; have := HK3.out; omega
             case rel => exact ⟨(y186), H', ⟨by have := HJ2.out; have := HK2.out; have := HK3.out; omega⟩, ⟨by (with_reducible repeat (first | apply Kd.R_alloc | apply Kd.R_drewN | apply Kd.R_drew)); exact HO188.out⟩, ⟨by repeat (first | (with_reducible first | exact HB.out | apply wA | apply wN | apply wD) | exact HB.out)⟩⟩
            ·rw [if_neg c19] at H
             exact absurd H (by simp)
           ·rw [if_neg c18] at H
            have c18b0 : decide ((x6_3.length : Int) < x3_2) = false := decide_eq_false c18
            clear c18
            replace H := Option.bind_eq_some_iff.mp H
            obtain ⟨⟨t189, t190⟩, A220, H⟩ := H
            try dsimp only at H
            have A22 := ak A220
            clear A220
            by_cases c23 : t190 = true
            ·subst c23
             have H1 : (some true) = some r := by rw [if_pos rfl] at H; exact H
             clear H
             have H := H1
             clear H1
             obtain rfl := Option.some.inj H
             obtain ⟨Ao24, co24, eo24⟩ := Kd.R_slice HO_6.out
             subst eo24
             go_wp2_with (first | ((with_reducible refine gate_callee (f := 92) rfl ?_); refine goesL_ (some 56) rfl rfl Tryz.func92 (by kernel_rfl) rfl #[.slice Ao24 x6_3.length co24] rfl (by (try simp only [List.map_toArray, List.map_cons, List.map_nil]); first | done | rfl | (simp only [List.length_drop, List.length_take]; rfl)) ?_; (with_reducible refine (mummerref02_stands.calls _ _ x6_3 t189 true _ ?side1 ?side2 A22.out).mono ?_); (case side1 => repeat (first | exact (Kd.R_reads' HO_6.out).2.2 | (with_reducible refine Kd.C_alloc ?_ _) | (with_reducible refine Kd.C_drewN ?_ _) | (with_reducible refine Kd.C_drew ?_))); (case side2 => exact (Kd.R_reads' HO_6.out).2.1); rintro e w25 ⟨rfl, hb⟩; refine ⟨_, rfl, ?_⟩; have n0_ := ak (Kd.R_below (by (with_reducible repeat (first | apply Kd.R_alloc | apply Kd.R_drewN | apply Kd.R_drew)); exact HO_6.out) hb); have n1_ := ak (below_step (by repeat (first | (with_reducible first | exact HB.out | apply wA | apply wN | apply wD) | exact HB.out)) hb); clear HO_6; clear HB; have HO_6 := n0_; have HB := n1_; clear n0_ n1_; (try clear hb); (try clear hb2); (try clear hk); (try clear hi)))
             go_ret
             exact ⟨by first | rfl | (simp [errW_none, errW_some] <;> rfl) | (simp [*, errW_none, errW_some] <;> rfl), by repeat (first | (with_reducible first | exact HB.out | apply wA | apply wN | apply wD) | exact HB.out)⟩
            ·replace c23 := Bool.eq_false_iff.mpr c23
             subst c23
             have H1 : (mummerref02_begins.l0 k3 l0 x3_2 (wrap64 (x5_2 + 63))) = some r := by rw [if_neg (show ¬ (false = true) by decide)] at H; exact H
             clear H
             have H := H1
             clear H1
             have H' := ak H
             clear H
             obtain ⟨Ao26, co26, eo26⟩ := Kd.R_slice HO_6.out
             subst eo26
             go_wp2_with (first | ((with_reducible refine gate_callee (f := 92) rfl ?_); refine goesL_ (some 56) rfl rfl Tryz.func92 (by kernel_rfl) rfl #[.slice Ao26 x6_3.length co26] rfl (by (try simp only [List.map_toArray, List.map_cons, List.map_nil]); first | done | rfl | (simp only [List.length_drop, List.length_take]; rfl)) ?_; (with_reducible refine (mummerref02_stands.calls _ _ x6_3 t189 false _ ?side1 ?side2 A22.out).mono ?_); (case side1 => repeat (first | exact (Kd.R_reads' HO_6.out).2.2 | (with_reducible refine Kd.C_alloc ?_ _) | (with_reducible refine Kd.C_drewN ?_ _) | (with_reducible refine Kd.C_drew ?_))); (case side2 => exact (Kd.R_reads' HO_6.out).2.1); rintro e w27 ⟨rfl, hb⟩; refine ⟨_, rfl, ?_⟩; have n0_ := ak (Kd.R_below (by (with_reducible repeat (first | apply Kd.R_alloc | apply Kd.R_drewN | apply Kd.R_drew)); exact HO_6.out) hb); have n1_ := ak (below_step (by repeat (first | (with_reducible first | exact HB.out | apply wA | apply wN | apply wD) | exact HB.out)) hb); clear HO_6; clear HB; have HO_6 := n0_; have HB := n1_; clear n0_ n1_; (try clear hb); (try clear hb2); (try clear hk); (try clear hi)))
             go_roundg k3
             case measure => have := HJ2.out; have := HK2.out; have := HK3.out; omega
             case rel => exact ⟨(wrap64 (x5_2 + 63)), (by first | rfl | (simp; done) | (simp [*]; done)), H', ⟨by have := HJ2.out; have := HK2.out; have := HK3.out; omega⟩, ⟨by repeat (first | (with_reducible first | exact HB.out | apply wA | apply wN | apply wD) | exact HB.out)⟩⟩
        ·rw [if_neg c14] at H
         exact absurd H (by simp)
       ·rw [if_neg c13] at H
        have c13b0 : decide (x5_2 ≤ 191) = false := decide_eq_false c13
        clear c13
        obtain rfl := Option.some.inj H
        go_wp2
        go_ret
        exact ⟨by first | rfl | (simp [errW_none, errW_some] <;> rfl) | (simp [*, errW_none, errW_some] <;> rfl), by repeat (first | (with_reducible first | exact HB.out | apply wA | apply wN | apply wD) | exact HB.out)⟩
 ·rw [if_neg c2] at H
  exact absurd H (by simp)
end Go.Proofs.YtdjkdlbokepoaaaGreatDoor.P
namespace Go.Proofs.YtdjkdlbokepoaaaGreatDoor.P
open Go.RowKit Go.Proofs.YtdjkdlbokepoaaaGreatDoorW.PrintWords Go.Proofs.YtdjkdlbokepoaaaGreatDoorW.PrintLast Go.Proofs.YtdjkdlbokepoaaaGreatDoorW.PrintMore
attribute [local go_sem] max2_int min2_int max_two min_two max_three min_three max_four min_four
set_option linter.unusedVariables false
set_option linter.unusedSimpArgs false
mutual
def mummerref02_Decode.j0 : Nat → List Int → Int → Bool → Option (Int × Int × Int)
 | 0, _, _, _ => none
 | k + 1, x0, x1, x17 => if x17 = true then (some (0, 0, 7)) else (mummerref02_Decode.l0 k x0 x1 1)
def mummerref02_Decode.l0 : Nat → List Int → Int → Int → Option (Int × Int × Int)
 | 0, _, _, _ => none
 | k + 1, x0, x1, x7 => if x7 ≤ 4 then (mummerref02_Decode.j2 k x0 x1 x7 (decide ((wrap64 (x1 + x7)) ≤ (x0.length : Int)))) else (mummerref02_Decode.j2 k x0 x1 x7 false)
def mummerref02_Decode.j2 : Nat → List Int → Int → Int → Bool → Option (Int × Int × Int)
 | 0, _, _, _, _ => none
 | k + 1, x0, x1, x7, x27 => if x27 = true then (if 0 ≤ x1 then (if x1 ≤ (wrap64 (x1 + x7)) then (if (wrap64 (x1 + x7)) ≤ (x0.length : Int) then ((mummerref02_stands.f ((x0.take ((wrap64 (x1 + x7)) : Int).toNat).drop (x1 : Int).toNat)).bind fun bt192 => (if bt192.2 = true then (some (bt192.1, x7, 0)) else (mummerref02_Decode.l0 k x0 x1 (wrap64 (x7 + 1))))) else (none)) else (none)) else (none)) else (if (wrap64 ((x0.length : Int) - x1)) < 4 then (if 0 ≤ x1 then (if x1 ≤ (x0.length : Int) then ((mummerref02_begins.f k (x0.drop (x1 : Int).toNat)).bind fun t195 => (if t195 = true then (some (0, 0, 320)) else (some (0, 0, 6)))) else (none)) else (none)) else (some (0, 0, 6)))
end
def mummerref02_Decode.f (k : Nat) (l0 : List Int) (a1 : Int) : Option (Int × Int × Int) := if a1 < 0 then (mummerref02_Decode.j0 k l0 a1 true) else (mummerref02_Decode.j0 k l0 a1 (decide (a1 ≥ (l0.length : Int))))
theorem mummerref02_Decode.mono_l : ∀ k, (∀ y0 y1 y2, LeO (mummerref02_Decode.j0 k y0 y1 y2) (mummerref02_Decode.j0 (k + 1) y0 y1 y2)) ∧ (∀ y0 y1 y2, LeO (mummerref02_Decode.l0 k y0 y1 y2) (mummerref02_Decode.l0 (k + 1) y0 y1 y2)) ∧ (∀ y0 y1 y2 y3, LeO (mummerref02_Decode.j2 k y0 y1 y2 y3) (mummerref02_Decode.j2 (k + 1) y0 y1 y2 y3))
 | 0 => ⟨fun _ _ _ r h => by simp [mummerref02_Decode.j0] at h, fun _ _ _ r h => by simp [mummerref02_Decode.l0] at h, fun _ _ _ _ r h => by simp [mummerref02_Decode.j2] at h⟩
 | k + 1 => by
  obtain ⟨ih0, ih1, ih2⟩ := mummerref02_Decode.mono_l k
  refine ⟨?_, ?_, ?_⟩
  ·intro y0 y1 y2
   unfold mummerref02_Decode.j0
   repeat' first
   | (with_reducible exact ih0 _ _ _)
   | (with_reducible exact ih1 _ _ _)
   | (with_reducible exact ih2 _ _ _ _)
   | (with_reducible exact mummerref02_begins.mono _ _)
   | (with_reducible exact LeO.refl _)
   | (with_reducible exact LeO.none _)
   | (with_reducible refine LeO.ite ?_ ?_)
   | (with_reducible refine LeO.bind ?_ (fun _ => ?_))
   | exact ih0 _ _ _
   | exact ih1 _ _ _
   | exact ih2 _ _ _ _
   | exact mummerref02_begins.mono _ _
   | exact LeO.none _
   | refine LeO.ite ?_ ?_
   | refine LeO.bind ?_ (fun _ => ?_)
  ·intro y0 y1 y2
   unfold mummerref02_Decode.l0
   repeat' first
   | (with_reducible exact ih0 _ _ _)
   | (with_reducible exact ih1 _ _ _)
   | (with_reducible exact ih2 _ _ _ _)
   | (with_reducible exact mummerref02_begins.mono _ _)
   | (with_reducible exact LeO.refl _)
   | (with_reducible exact LeO.none _)
   | (with_reducible refine LeO.ite ?_ ?_)
   | (with_reducible refine LeO.bind ?_ (fun _ => ?_))
   | exact ih0 _ _ _
   | exact ih1 _ _ _
   | exact ih2 _ _ _ _
   | exact mummerref02_begins.mono _ _
   | exact LeO.none _
   | refine LeO.ite ?_ ?_
   | refine LeO.bind ?_ (fun _ => ?_)
  ·intro y0 y1 y2 y3
   unfold mummerref02_Decode.j2
   repeat' first
   | (with_reducible exact ih0 _ _ _)
   | (with_reducible exact ih1 _ _ _)
   | (with_reducible exact ih2 _ _ _ _)
   | (with_reducible exact mummerref02_begins.mono _ _)
   | (with_reducible exact LeO.refl _)
   | (with_reducible exact LeO.none _)
   | (with_reducible refine LeO.ite ?_ ?_)
   | (with_reducible refine LeO.bind ?_ (fun _ => ?_))
   | exact ih0 _ _ _
   | exact ih1 _ _ _
   | exact ih2 _ _ _ _
   | exact mummerref02_begins.mono _ _
   | exact LeO.none _
   | refine LeO.ite ?_ ?_
   | refine LeO.bind ?_ (fun _ => ?_)
theorem mummerref02_Decode.mono : ∀ a0 a1 k, LeO (mummerref02_Decode.f k a0 a1) (mummerref02_Decode.f (k + 1) a0 a1) := by
 intro a0 a1 k
 obtain ⟨ih0, ih1, ih2⟩ := mummerref02_Decode.mono_l k
 unfold mummerref02_Decode.f
 repeat' first
   | (with_reducible exact ih0 _ _ _)
   | (with_reducible exact ih1 _ _ _)
   | (with_reducible exact ih2 _ _ _ _)
   | (with_reducible exact mummerref02_begins.mono _ _)
   | (with_reducible exact LeO.refl _)
   | (with_reducible exact LeO.none _)
   | (with_reducible refine LeO.ite ?_ ?_)
   | (with_reducible refine LeO.bind ?_ (fun _ => ?_))
   | exact ih0 _ _ _
   | exact ih1 _ _ _
   | exact ih2 _ _ _ _
   | exact mummerref02_begins.mono _ _
   | exact LeO.none _
   | refine LeO.ite ?_ ?_
   | refine LeO.bind ?_ (fun _ => ?_)
set_option maxHeartbeats 8000000 in
set_option maxRecDepth 100000 in
theorem mummerref02_Decode.calls (k : Nat) (A0 : Option Addr) (c0 : Nat) (l0 : List Int) (a1 : Int) (r1 : Int) (r2 : Int) (r3 : Int) (w : World) (hr0 : Kd.C (Kd.int .u8) w A0 l0.length l0) (hc0 : l0.length ≤ c0) (h : mummerref02_Decode.f k l0 a1 = some (r1, r2, r3)) :
  Calls Tryz.prog 60 #[.slice A0 l0.length c0, .int .i64 a1] w fun e w' => e = .returned (.tuple #[.int .i32 r1, .int .i64 r2, .int .i64 r3]) ∧ Below w.heap.size w w' := by
 have HR0 := ak hr0
 have HC0 := ak hc0
 clear hr0 hc0
 have HB := ak (Below.refl w.heap.size w)
 have H : (if a1 < 0 then (mummerref02_Decode.j0 k l0 a1 true) else (mummerref02_Decode.j0 k l0 a1 (decide (a1 ≥ (l0.length : Int))))) = some (r1, r2, r3) := h
 clear h
 have HC3 := ak H
 clear H
 go_enter Tryz.func60, Tryz.ntmps60
 go_upto_region 1 with (fail)
 go_cut [17] (fun v17 wc => ∃ (kq : Nat) (x17_2 : Bool), v17 = .bool x17_2 ∧ Aside0 (mummerref02_Decode.j0 kq l0 a1 x17_2 = some (r1, r2, r3)) ∧ Aside0 (kq ≤ k) ∧ Aside0 (Below w.heap.size w wc))
 case first =>
  have H := HC3.out
  clear HC3
  by_cases c4 : a1 < 0
  ·rw [if_pos c4] at H
   have c4b0 : decide (a1 < 0) = true := decide_eq_true c4
   clear c4
   (first | rw [c4b0] | (simp only [i64_w, i32_w]; rw [c4b0]) | skip)
   have H' := ak H
   clear H
   go_wp2
   go_meet
   case rel => exact ⟨_, (true), (by first | rfl | (simp; done) | (simp [*]; done)), H', ⟨by first | omega | exact Nat.le_refl _⟩, ⟨by repeat (first | (with_reducible first | exact HB.out | apply wA | apply wN | apply wD) | exact HB.out)⟩⟩
  ·rw [if_neg c4] at H
   have c4b0 : decide (a1 < 0) = false := decide_eq_false c4
   clear c4
   (first | rw [c4b0] | (simp only [i64_w, i32_w]; rw [c4b0]) | skip)
   have H' := ak H
   clear H
   go_wp2
   go_meet
   case rel => exact ⟨_, (decide (a1 ≥ (l0.length : Int))), (by first | rfl | (simp; done) | (simp [*]; done)), H', ⟨by first | omega | exact Nat.le_refl _⟩, ⟨by repeat (first | (with_reducible first | exact HB.out | apply wA | apply wN | apply wD) | exact HB.out)⟩⟩
 case rest =>
  clear HC3
  try clear p2
  try clear c4
  try clear c4b0
  obtain ⟨kq, x17_2, rfl, HA, HJ2, HB⟩ := hcut
  cases kq with
  | zero => exact absurd HA.out (by simp [mummerref02_Decode.j0])
  | succ kj2 =>
   have H := HA.out
   clear HA
   simp only [mummerref02_Decode.j0] at H
   by_cases c5 : x17_2 = true
   ·subst c5
    have H1 : (some (0, 0, 7)) = some (r1, r2, r3) := by rw [if_pos rfl] at H; exact H
    clear H
    have H := H1
    clear H1
    simp only [Option.some.injEq, Prod.mk.injEq] at H
    obtain ⟨rfl, rfl, rfl⟩ := H
    go_wp2
    go_ret3
    exact ⟨by first | rfl | (simp [errW_none, errW_some] <;> rfl) | (simp [*, errW_none, errW_some] <;> rfl), by repeat (first | (with_reducible first | exact HB.out | apply wA | apply wN | apply wD) | exact HB.out)⟩
   ·replace c5 := Bool.eq_false_iff.mpr c5
    subst c5
    have H1 : (mummerref02_Decode.l0 kj2 l0 a1 1) = some (r1, r2, r3) := by rw [if_neg (show ¬ (false = true) by decide)] at H; exact H
    clear H
    have H := H1
    clear H1
    have H' := ak H
    clear H
    go_wp2
    go_loopg [7] kj2 (fun kq v7 w' => ∃ (x7_2 : Int), v7 = .int .i64 x7_2 ∧ Aside0 (mummerref02_Decode.l0 kq l0 a1 x7_2 = some (r1, r2, r3)) ∧ Aside0 (kq ≤ kj2) ∧ Aside0 (Below w.heap.size w w'))
    case atStart => exact ⟨(1), (by first | rfl | (simp; done) | (simp [*]; done)), H', ⟨Nat.le_refl _⟩, ⟨by repeat (first | (with_reducible first | exact HB.out | apply wA | apply wN | apply wD) | exact HB.out)⟩⟩
    case round =>
     clear H'
     try clear p2
     try clear c4
     try clear c4b0
     try clear c5
     try clear p2
     obtain ⟨x7_2, rfl, HA, HK2, HB⟩ := hrel
     cases gk with
     | zero => exact absurd HA.out (by simp [mummerref02_Decode.l0])
     | succ k2 =>
      have H := HA.out
      clear HA
      simp only [mummerref02_Decode.l0] at H
      have HC6 := ak H
      clear H
      go_upto_region 4 with (fail)
      go_cut [27] (fun v27 wc => ∃ (kq : Nat) (x27_5 : Bool), v27 = .bool x27_5 ∧ Aside0 (mummerref02_Decode.j2 kq l0 a1 x7_2 x27_5 = some (r1, r2, r3)) ∧ Aside0 (kq ≤ k2) ∧ Aside0 (Below w.heap.size w wc))
      case first =>
       have H := HC6.out
       clear HC6
       by_cases c7 : x7_2 ≤ 4
       ·rw [if_pos c7] at H
        have c7b0 : decide (x7_2 ≤ 4) = true := decide_eq_true c7
        clear c7
        (first | rw [c7b0] | (simp only [i64_w, i32_w]; rw [c7b0]) | skip)
        have H' := ak H
        clear H
        go_wp2
        go_meet
        case rel => exact ⟨_, (decide ((wrap64 (a1 + x7_2)) ≤ (l0.length : Int))), (by first | rfl | (simp; done) | (simp [*]; done)), H', ⟨by have := HJ2.out; have := HK2.out; first | omega | exact Nat.le_refl _⟩, ⟨by repeat (first | (with_reducible first | exact HB.out | apply wA | apply wN | apply wD) | exact HB.out)⟩⟩
       ·rw [if_neg c7] at H
        have c7b0 : decide (x7_2 ≤ 4) = false := decide_eq_false c7
        clear c7
        (first | rw [c7b0] | (simp only [i64_w, i32_w]; rw [c7b0]) | skip)
        have H' := ak H
        clear H
        go_wp2
        go_meet
        case rel => exact ⟨_, (false), (by first | rfl | (simp; done) | (simp [*]; done)), H', ⟨by have := HJ2.out; have := HK2.out; first | omega | exact Nat.le_refl _⟩, ⟨by repeat (first | (with_reducible first | exact HB.out | apply wA | apply wN | apply wD) | exact HB.out)⟩⟩
      case rest =>
       clear HC6
       try clear p2
       try clear c4
       try clear c4b0
       try clear c5
       try clear c6
       try clear p6
       try clear c7
       try clear c7b0
       try clear p2
       obtain ⟨kq, x27_5, rfl, HA, HJ5, HB⟩ := hcut
       cases kq with
       | zero => exact absurd HA.out (by simp [mummerref02_Decode.j2])
       | succ kj5 =>
        have H := HA.out
        clear HA
        simp only [mummerref02_Decode.j2] at H
        by_cases c8 : x27_5 = true
        ·subst c8
         have H1 : (if 0 ≤ a1 then (if a1 ≤ (wrap64 (a1 + x7_2)) then (if (wrap64 (a1 + x7_2)) ≤ (l0.length : Int) then ((mummerref02_stands.f ((l0.take ((wrap64 (a1 + x7_2)) : Int).toNat).drop (a1 : Int).toNat)).bind fun bt192 => (if bt192.2 = true then (some (bt192.1, x7_2, 0)) else (mummerref02_Decode.l0 kj5 l0 a1 (wrap64 (x7_2 + 1))))) else (none)) else (none)) else (none)) = some (r1, r2, r3) := by rw [if_pos rfl] at H; exact H
         clear H
         have H := H1
         clear H1
         by_cases c9 : 0 ≤ a1
         ·rw [if_pos c9] at H
          have c9b0 := eq_true c9
          have c9b1 : decide (0 ≤ a1) = true := decide_eq_true c9
          clear c9
          by_cases c10 : a1 ≤ (wrap64 (a1 + x7_2))
          ·rw [if_pos c10] at H
           have c10b0 := eq_true c10
           have c10b1 : decide (a1 ≤ (wrap64 (a1 + x7_2))) = true := decide_eq_true c10
           by_cases c11 : (wrap64 (a1 + x7_2)) ≤ (l0.length : Int)
           ·rw [if_pos c11] at H
            have c11b0 := eq_true c11
            have c11b1 : decide ((wrap64 (a1 + x7_2)) ≤ (l0.length : Int)) = true := decide_eq_true c11
            replace H := Option.bind_eq_some_iff.mp H
            obtain ⟨⟨t192, t193⟩, A120, H⟩ := H
            try dsimp only at H
            have A12 := ak A120
            clear A120
            by_cases c13 : t193 = true
            ·subst c13
             have H1 : (some (t192, x7_2, 0)) = some (r1, r2, r3) := by rw [if_pos rfl] at H; exact H
             clear H
             have H := H1
             clear H1
             simp only [Option.some.injEq, Prod.mk.injEq] at H
             obtain ⟨rfl, rfl, rfl⟩ := H
             obtain ⟨i014, hi014, _, hsz14, _⟩ := info_parts info5
             obtain ⟨A14, hcut14, hA14, hC14⟩ := print_mid_of (P := Tryz.prog) (Value.int .u8) 0 29 5 .i64 .i64 Tryz.underlying29 hi014 hsz14 A0 c0 l0 a1 (wrap64 (a1 + x7_2)) (of_decide_eq_true (by first | (with_reducible assumption) | assumption)) (by first | omega | exact of_decide_eq_true (by first | (with_reducible assumption) | assumption)) (of_decide_eq_true (by first | (with_reducible assumption) | assumption)) HC0.out
             have HR191 := ak (Kd.C_of_reads (h1 := fun _ => rfl) (hA14 _ (Kd.reads_of_C HR0.out)))
             have HC191 := ak hC14
             clear hA14 hC14 hi014 hsz14
             go_wp2_with (first | ((with_reducible refine gate_callee (f := 92) rfl ?_); refine goesL_ (some 37) rfl rfl Tryz.func92 (by kernel_rfl) rfl #[.slice A14 ((l0.take ((wrap64 (a1 + x7_2)) : Int).toNat).drop (a1 : Int).toNat).length (c0 - a1.toNat)] rfl (by (try simp only [List.map_toArray, List.map_cons, List.map_nil]); first | done | (rw [show ((l0.take ((wrap64 (a1 + x7_2)) : Int).toNat).drop (a1 : Int).toNat).length = ((wrap64 (a1 + x7_2)).toNat - a1.toNat) from (by rw [List.length_drop, List.length_take]; have h_ : ((wrap64 (a1 + x7_2)) : Int) ≤ (l0.length : Int) := of_decide_eq_true (by first | (with_reducible assumption) | assumption); omega)] <;> rfl) | rfl | (simp only [List.length_drop, List.length_take]; rfl)) ?_; (with_reducible refine (mummerref02_stands.calls _ _ ((l0.take ((wrap64 (a1 + x7_2)) : Int).toNat).drop (a1 : Int).toNat) t192 true _ ?side1 ?side2 A12.out).mono ?_); (case side1 => repeat (first | exact (Kd.C_below HR191.out HB.out) | (with_reducible refine Kd.C_alloc ?_ _) | (with_reducible refine Kd.C_drewN ?_ _) | (with_reducible refine Kd.C_drew ?_))); (case side2 => exact HC191.out); rintro e w15 ⟨rfl, hb⟩; refine ⟨_, rfl, ?_⟩; have n0_ := ak (below_step (by repeat (first | (with_reducible first | exact HB.out | apply wA | apply wN | apply wD) | exact HB.out)) hb); clear HB; have HB := n0_; clear n0_; (try clear hb); (try clear hb2); (try clear hk); (try clear hi)))
             go_ret3
             exact ⟨by first | rfl | (simp [errW_none, errW_some] <;> rfl) | (simp [*, errW_none, errW_some] <;> rfl), by repeat (first | (with_reducible first | exact HB.out | apply wA | apply wN | apply wD) | exact HB.out)⟩
            ·replace c13 := Bool.eq_false_iff.mpr c13
             subst c13
             have H1 : (mummerref02_Decode.l0 kj5 l0 a1 (wrap64 (x7_2 + 1))) = some (r1, r2, r3) := by rw [if_neg (show ¬ (false = true) by decide)] at H; exact H
             clear H
             have H := H1
             clear H1
             have H' := ak H
             clear H
             obtain ⟨i016, hi016, _, hsz16, _⟩ := info_parts info5
             obtain ⟨A16, hcut16, hA16, hC16⟩ := print_mid_of (P := Tryz.prog) (Value.int .u8) 0 29 5 .i64 .i64 Tryz.underlying29 hi016 hsz16 A0 c0 l0 a1 (wrap64 (a1 + x7_2)) (of_decide_eq_true (by first | (with_reducible assumption) | assumption)) (by first | omega | exact of_decide_eq_true (by first | (with_reducible assumption) | assumption)) (of_decide_eq_true (by first | (with_reducible assumption) | assumption)) HC0.out
             have HR191 := ak (Kd.C_of_reads (h1 := fun _ => rfl) (hA16 _ (Kd.reads_of_C HR0.out)))
             have HC191 := ak hC16
             clear hA16 hC16 hi016 hsz16
             go_wp2_with (first | ((with_reducible refine gate_callee (f := 92) rfl ?_); refine goesL_ (some 37) rfl rfl Tryz.func92 (by kernel_rfl) rfl #[.slice A16 ((l0.take ((wrap64 (a1 + x7_2)) : Int).toNat).drop (a1 : Int).toNat).length (c0 - a1.toNat)] rfl (by (try simp only [List.map_toArray, List.map_cons, List.map_nil]); first | done | (rw [show ((l0.take ((wrap64 (a1 + x7_2)) : Int).toNat).drop (a1 : Int).toNat).length = ((wrap64 (a1 + x7_2)).toNat - a1.toNat) from (by rw [List.length_drop, List.length_take]; have h_ : ((wrap64 (a1 + x7_2)) : Int) ≤ (l0.length : Int) := of_decide_eq_true (by first | (with_reducible assumption) | assumption); omega)] <;> rfl) | rfl | (simp only [List.length_drop, List.length_take]; rfl)) ?_; (with_reducible refine (mummerref02_stands.calls _ _ ((l0.take ((wrap64 (a1 + x7_2)) : Int).toNat).drop (a1 : Int).toNat) t192 false _ ?side1 ?side2 A12.out).mono ?_); (case side1 => repeat (first | exact (Kd.C_below HR191.out HB.out) | (with_reducible refine Kd.C_alloc ?_ _) | (with_reducible refine Kd.C_drewN ?_ _) | (with_reducible refine Kd.C_drew ?_))); (case side2 => exact HC191.out); rintro e w17 ⟨rfl, hb⟩; refine ⟨_, rfl, ?_⟩; have n0_ := ak (below_step (by repeat (first | (with_reducible first | exact HB.out | apply wA | apply wN | apply wD) | exact HB.out)) hb); clear HB; have HB := n0_; clear n0_; (try clear hb); (try clear hb2); (try clear hk); (try clear hi)))
             go_roundg kj5
             case measure => have := HJ2.out; have := HK2.out; have := HJ5.out; omega
             case rel => exact ⟨(wrap64 (x7_2 + 1)), (by first | rfl | (simp; done) | (simp [*]; done)), H', ⟨by have := HJ2.out; have := HK2.out; have := HJ5.out; omega⟩, ⟨by repeat (first | (with_reducible first | exact HB.out | apply wA | apply wN | apply wD) | exact HB.out)⟩⟩
           ·rw [if_neg c11] at H
            exact absurd H (by simp)
          ·rw [if_neg c10] at H
           exact absurd H (by simp)
         ·rw [if_neg c9] at H
          exact absurd H (by simp)
        ·replace c8 := Bool.eq_false_iff.mpr c8
         subst c8
         have H1 : (if (wrap64 ((l0.length : Int) - a1)) < 4 then (if 0 ≤ a1 then (if a1 ≤ (l0.length : Int) then ((mummerref02_begins.f kj5 (l0.drop (a1 : Int).toNat)).bind fun t195 => (if t195 = true then (some (0, 0, 320)) else (some (0, 0, 6)))) else (none)) else (none)) else (some (0, 0, 6))) = some (r1, r2, r3) := by rw [if_neg (show ¬ (false = true) by decide)] at H; exact H
         clear H
         have H := H1
         clear H1
         by_cases c18 : (wrap64 ((l0.length : Int) - a1)) < 4
         ·rw [if_pos c18] at H
          have c18b0 : decide ((wrap64 ((l0.length : Int) - a1)) < 4) = true := decide_eq_true c18
          clear c18
          by_cases c19 : 0 ≤ a1
          ·rw [if_pos c19] at H
           have c19b0 := eq_true c19
           have c19b1 : decide (0 ≤ a1) = true := decide_eq_true c19
           clear c19
           by_cases c20 : a1 ≤ (l0.length : Int)
           ·rw [if_pos c20] at H
            have c20b0 := eq_true c20
            have c20b1 : decide (a1 ≤ (l0.length : Int)) = true := decide_eq_true c20
            clear c20
            replace H := Option.bind_eq_some_iff.mp H
            obtain ⟨t195, A210, H⟩ := H
            try dsimp only at H
            have A21 := ak A210
            clear A210
            by_cases c22 : t195 = true
            ·subst c22
             have H1 : (some (0, 0, 320)) = some (r1, r2, r3) := by rw [if_pos rfl] at H; exact H
             clear H
             have H := H1
             clear H1
             simp only [Option.some.injEq, Prod.mk.injEq] at H
             obtain ⟨rfl, rfl, rfl⟩ := H
             obtain ⟨i023, hi023, _, hsz23, _⟩ := info_parts info5
             obtain ⟨A23, hcut23, hA23, hC23⟩ := print_drop_of (P := Tryz.prog) (Value.int .u8) 0 29 5 .i64 Tryz.underlying29 hi023 hsz23 A0 c0 l0 a1 (of_decide_eq_true (by first | (with_reducible assumption) | assumption)) (of_decide_eq_true (by first | (with_reducible assumption) | assumption)) HC0.out
             have HR194 := ak (Kd.C_of_reads (h1 := fun _ => rfl) (hA23 _ (Kd.reads_of_C HR0.out)))
             have HC194 := ak hC23
             clear hA23 hC23 hi023 hsz23
             go_wp2_with (first | (go_at_call 93; (first | rw [show l0.length - (a1 : Int).toNat = (l0.drop (a1 : Int).toNat).length by rw [List.length_drop]] | skip); (with_reducible refine (mummerref02_begins.calls kj5 _ _ (l0.drop (a1 : Int).toNat) true _ ?side1 ?side2 A21.out).mono ?_); (case side1 => repeat (first | exact (Kd.C_below HR194.out HB.out) | (with_reducible refine Kd.C_alloc ?_ _) | (with_reducible refine Kd.C_drewN ?_ _) | (with_reducible refine Kd.C_drew ?_))); (case side2 => exact HC194.out); rintro e w24 ⟨rfl, hb⟩; have n0_ := ak (below_step (by repeat (first | (with_reducible first | exact HB.out | apply wA | apply wN | apply wD) | exact HB.out)) hb); clear HB; have HB := n0_; clear n0_; (try clear hb); (try clear hb2); (try clear hk); (try clear hi)))
             go_ret3
             exact ⟨by first | rfl | (simp [errW_none, errW_some] <;> rfl) | (simp [*, errW_none, errW_some] <;> rfl), by repeat (first | (with_reducible first | exact HB.out | apply wA | apply wN | apply wD) | exact HB.out)⟩
            ·replace c22 := Bool.eq_false_iff.mpr c22
             subst c22
             have H1 : (some (0, 0, 6)) = some (r1, r2, r3) := by rw [if_neg (show ¬ (false = true) by decide)] at H; exact H
             clear H
             have H := H1
             clear H1
             simp only [Option.some.injEq, Prod.mk.injEq] at H
             obtain ⟨rfl, rfl, rfl⟩ := H
             obtain ⟨i025, hi025, _, hsz25, _⟩ := info_parts info5
             obtain ⟨A25, hcut25, hA25, hC25⟩ := print_drop_of (P := Tryz.prog) (Value.int .u8) 0 29 5 .i64 Tryz.underlying29 hi025 hsz25 A0 c0 l0 a1 (of_decide_eq_true (by first | (with_reducible assumption) | assumption)) (of_decide_eq_true (by first | (with_reducible assumption) | assumption)) HC0.out
             have HR194 := ak (Kd.C_of_reads (h1 := fun _ => rfl) (hA25 _ (Kd.reads_of_C HR0.out)))
             have HC194 := ak hC25
             clear hA25 hC25 hi025 hsz25
             go_wp2_with (first | (go_at_call 93; (first | rw [show l0.length - (a1 : Int).toNat = (l0.drop (a1 : Int).toNat).length by rw [List.length_drop]] | skip); (with_reducible refine (mummerref02_begins.calls kj5 _ _ (l0.drop (a1 : Int).toNat) false _ ?side1 ?side2 A21.out).mono ?_); (case side1 => repeat (first | exact (Kd.C_below HR194.out HB.out) | (with_reducible refine Kd.C_alloc ?_ _) | (with_reducible refine Kd.C_drewN ?_ _) | (with_reducible refine Kd.C_drew ?_))); (case side2 => exact HC194.out); rintro e w26 ⟨rfl, hb⟩; have n0_ := ak (below_step (by repeat (first | (with_reducible first | exact HB.out | apply wA | apply wN | apply wD) | exact HB.out)) hb); clear HB; have HB := n0_; clear n0_; (try clear hb); (try clear hb2); (try clear hk); (try clear hi)))
             go_ret3
             exact ⟨by first | rfl | (simp [errW_none, errW_some] <;> rfl) | (simp [*, errW_none, errW_some] <;> rfl), by repeat (first | (with_reducible first | exact HB.out | apply wA | apply wN | apply wD) | exact HB.out)⟩
           ·rw [if_neg c20] at H
            exact absurd H (by simp)
          ·rw [if_neg c19] at H
           exact absurd H (by simp)
         ·rw [if_neg c18] at H
          have c18b0 : decide ((wrap64 ((l0.length : Int) - a1)) < 4) = false := decide_eq_false c18
          clear c18
          simp only [Option.some.injEq, Prod.mk.injEq] at H
          obtain ⟨rfl, rfl, rfl⟩ := H
          go_wp2
          go_ret3
          exact ⟨by first | rfl | (simp [errW_none, errW_some] <;> rfl) | (simp [*, errW_none, errW_some] <;> rfl), by repeat (first | (with_reducible first | exact HB.out | apply wA | apply wN | apply wD) | exact HB.out)⟩
end Go.Proofs.YtdjkdlbokepoaaaGreatDoor.P
namespace Go.Proofs.YtdjkdlbokepoaaaGreatDoor.P
open Go.RowKit Go.Proofs.YtdjkdlbokepoaaaGreatDoorW.PrintWords Go.Proofs.YtdjkdlbokepoaaaGreatDoorW.PrintLast Go.Proofs.YtdjkdlbokepoaaaGreatDoorW.PrintMore
attribute [local go_sem] max2_int min2_int max_two min_two max_three min_three max_four min_four
set_option linter.unusedVariables false
set_option linter.unusedSimpArgs false
def mummerref02_Check.l0 : Nat → List Int → Int → Option (Int × Int)
 | 0, _, _ => none
 | k + 1, x0, x4 => if x4 < (x0.length : Int) then ((mummerref02_Decode.f k x0 x4).bind fun bt196 => (if bt196.2.2 = 0 then (mummerref02_Check.l0 k x0 (wrap64 (x4 + bt196.2.1))) else (some (x4, bt196.2.2)))) else (some (x4, 0))
def mummerref02_Check.f (k : Nat) (l0 : List Int) : Option (Int × Int) := if (l0.length : Int) > 8000 then (some (0, 3)) else (mummerref02_Check.l0 k l0 0)
set_option maxHeartbeats 8000000 in
set_option maxRecDepth 100000 in
theorem mummerref02_Check.calls (k : Nat) (A0 : Option Addr) (c0 : Nat) (l0 : List Int) (r1 : Int) (r2 : Int) (w : World) (hr0 : Kd.C (Kd.int .u8) w A0 l0.length l0) (hc0 : l0.length ≤ c0) (h : mummerref02_Check.f k l0 = some (r1, r2)) :
  Calls Tryz.prog 50 #[.slice A0 l0.length c0] w fun e w' => e = .returned (.tuple #[.int .i64 r1, .int .i64 r2]) ∧ Below w.heap.size w w' := by
 have HR0 := ak hr0
 have HC0 := ak hc0
 clear hr0 hc0
 have HB := ak (Below.refl w.heap.size w)
 have H : (if (l0.length : Int) > 8000 then (some (0, 3)) else (mummerref02_Check.l0 k l0 0)) = some (r1, r2) := h
 clear h
 by_cases c2 : (l0.length : Int) > 8000
 ·rw [if_pos c2] at H
  have c2b0 : decide (8000 < (l0.length : Int)) = true := decide_eq_true c2
  have c2b1 : decide (8000 < l0.length) = true := decide_eq_true (by omega)
  clear c2
  simp only [Option.some.injEq, Prod.mk.injEq] at H
  obtain ⟨rfl, rfl⟩ := H
  go_enter Tryz.func50, Tryz.ntmps50
  go_wp2
  go_ret2
  exact ⟨by first | rfl | (simp [errW_none, errW_some] <;> rfl) | (simp [*, errW_none, errW_some] <;> rfl), by repeat (first | (with_reducible first | exact HB.out | apply wA | apply wN | apply wD) | exact HB.out)⟩
 ·rw [if_neg c2] at H
  have c2b0 : decide (8000 < (l0.length : Int)) = false := decide_eq_false c2
  have c2b1 : decide (8000 < l0.length) = false := decide_eq_false (by omega)
  clear c2
  have H' := ak H
  clear H
  go_enter Tryz.func50, Tryz.ntmps50
  go_wp2
  go_loopg [4] k (fun kq v4 w' => ∃ (x4_1 : Int), v4 = .int .i64 x4_1 ∧ Aside0 (mummerref02_Check.l0 kq l0 x4_1 = some (r1, r2)) ∧ Aside0 (kq ≤ k) ∧ Aside0 (Below w.heap.size w w'))
  case atStart => exact ⟨(0), (by first | rfl | (simp; done) | (simp [*]; done)), H', ⟨Nat.le_refl _⟩, ⟨by repeat (first | (with_reducible first | exact HB.out | apply wA | apply wN | apply wD) | exact HB.out)⟩⟩
  case round =>
   clear H'
   try clear c2
   try clear c2b0
   try clear c2b1
   try clear p2
   obtain ⟨x4_1, rfl, HA, HK1, HB⟩ := hrel
   cases gk with
   | zero => exact absurd HA.out (by simp [mummerref02_Check.l0])
   | succ k1 =>
    have H := HA.out
    clear HA
    simp only [mummerref02_Check.l0] at H
    by_cases c3 : x4_1 < (l0.length : Int)
    ·rw [if_pos c3] at H
     have c3b0 : decide (x4_1 < (l0.length : Int)) = true := decide_eq_true c3
     clear c3
     replace H := Option.bind_eq_some_iff.mp H
     obtain ⟨⟨t196, t197, t198⟩, A40, H⟩ := H
     try dsimp only at H
     have A4 := ak A40
     clear A40
     by_cases c5 : t198 = 0
     ·rw [if_pos c5] at H
      have c5b0 : (t198 == 0) = true := beq_iff_eq.mpr c5
      have c5b1 : (t198 != 0) = false := bne_eq_false_iff_eq.mpr c5
      clear c5
      have H' := ak H
      clear H
      go_wp2_with (first | ((with_reducible refine gate_callee (f := 60) rfl ?_); refine goesL_ (some 18) rfl rfl Tryz.func60 (by kernel_rfl) rfl #[.slice A0 l0.length c0, .int .i64 x4_1] rfl (by (try simp only [List.map_toArray, List.map_cons, List.map_nil]); first | done | rfl | (simp only [List.length_drop, List.length_take]; rfl)) ?_; (with_reducible refine (mummerref02_Decode.calls k1 _ _ l0 x4_1 t196 t197 t198 _ ?side1 ?side2 A4.out).mono ?_); (case side1 => repeat (first | exact (Kd.C_below HR0.out HB.out) | (with_reducible refine Kd.C_alloc ?_ _) | (with_reducible refine Kd.C_drewN ?_ _) | (with_reducible refine Kd.C_drew ?_))); (case side2 => exact HC0.out); rintro e w6 ⟨rfl, hb⟩; refine ⟨_, rfl, ?_⟩; have n0_ := ak (below_step (by repeat (first | (with_reducible first | exact HB.out | apply wA | apply wN | apply wD) | exact HB.out)) hb); clear HB; have HB := n0_; clear n0_; (try clear hb); (try clear hb2); (try clear hk); (try clear hi)))
      go_roundg k1
      case measure => have := HK1.out; omega
      case rel => exact ⟨(wrap64 (x4_1 + t197)), (by first | rfl | (simp; done) | (simp [*]; done)), H', ⟨by have := HK1.out; omega⟩, ⟨by repeat (first | (with_reducible first | exact HB.out | apply wA | apply wN | apply wD) | exact HB.out)⟩⟩
     ·rw [if_neg c5] at H
      have c5b0 : (t198 == 0) = false := beq_eq_false_iff_ne.mpr c5
      have c5b1 : (t198 != 0) = true := bne_iff_ne.mpr c5
      simp only [Option.some.injEq, Prod.mk.injEq] at H
      obtain ⟨rfl, rfl⟩ := H
      go_wp2_with (first | ((with_reducible refine gate_callee (f := 60) rfl ?_); refine goesL_ (some 18) rfl rfl Tryz.func60 (by kernel_rfl) rfl #[.slice A0 l0.length c0, .int .i64 x4_1] rfl (by (try simp only [List.map_toArray, List.map_cons, List.map_nil]); first | done | rfl | (simp only [List.length_drop, List.length_take]; rfl)) ?_; (with_reducible refine (mummerref02_Decode.calls k1 _ _ l0 x4_1 t196 t197 t198 _ ?side1 ?side2 A4.out).mono ?_); (case side1 => repeat (first | exact (Kd.C_below HR0.out HB.out) | (with_reducible refine Kd.C_alloc ?_ _) | (with_reducible refine Kd.C_drewN ?_ _) | (with_reducible refine Kd.C_drew ?_))); (case side2 => exact HC0.out); rintro e w7 ⟨rfl, hb⟩; refine ⟨_, rfl, ?_⟩; have n0_ := ak (below_step (by repeat (first | (with_reducible first | exact HB.out | apply wA | apply wN | apply wD) | exact HB.out)) hb); clear HB; have HB := n0_; clear n0_; (try clear hb); (try clear hb2); (try clear hk); (try clear hi)))
      go_ret2
      exact ⟨by first | rfl | (simp [errW_none, errW_some] <;> rfl) | (simp [*, errW_none, errW_some] <;> rfl), by repeat (first | (with_reducible first | exact HB.out | apply wA | apply wN | apply wD) | exact HB.out)⟩
    ·rw [if_neg c3] at H
     have c3b0 : decide (x4_1 < (l0.length : Int)) = false := decide_eq_false c3
     clear c3
     simp only [Option.some.injEq, Prod.mk.injEq] at H
     obtain ⟨rfl, rfl⟩ := H
     go_wp2
     go_ret2
     exact ⟨by first | rfl | (simp [errW_none, errW_some] <;> rfl) | (simp [*, errW_none, errW_some] <;> rfl), by repeat (first | (with_reducible first | exact HB.out | apply wA | apply wN | apply wD) | exact HB.out)⟩
end Go.Proofs.YtdjkdlbokepoaaaGreatDoor.P
