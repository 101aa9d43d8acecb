import Derived.Test.YtdjkdlbokepoaaaGreatDoorKA17
namespace Go.Proofs.YtdjkdlbokepoaaaGreatDoor.P.Sc
open Go.RowKit Go.Shelf YtdjkdlbokepoaaaGreatDoorW.PrintWords YtdjkdlbokepoaaaGreatDoorW.PrintLast YtdjkdlbokepoaaaGreatDoorW.PrintMore
attribute [local go_sem] Oper.semAt_some
set_option linter.unusedVariables false
set_option linter.unusedSimpArgs false
theorem cell_new_l (W : World) (v : Value) (t : TypeId) : (W.alloc (.cells #[v] t)).cell? ⟨W.heap.size, 0, none⟩ = some v ∧ (W.alloc (.cells #[v] t)).frozen? ⟨W.heap.size, 0, none⟩ = false :=
 ⟨(Boxed.new W t v).cell, (Boxed.new W t v).frozen⟩
theorem cell_alloc_l {W : World} {a : Addr} {v : Value} (o : Obj) (h : W.cell? a = some v) : (W.alloc o).cell? a = some v := cell_kept h (World.grownBy_alloc W o none) (fun r e => by cases e)
theorem frozen_alloc_l {W : World} {a : Addr} {v : Value} (o : Obj) (h : W.cell? a = some v) (hf : W.frozen? a = false) : (W.alloc o).frozen? a = false := (frozen_kept h (World.grownBy_alloc W o none) (fun r e => by cases e)).trans hf
theorem cell_far (w : World) {p a : Addr} {v : Value} (h : p.block ≠ a.block) : (w.setCell p v).cell? a = w.cell? a := by
 simp only [World.cell?, heap_setCell_other w p a.block v (Ne.symm h)]
theorem Txt.stay {w W : World} {A : Option Addr} {s : ByteArray} (h : Txt w A s) (hb : Below w.heap.size w W) : Txt W A s := h.grow (grownBy_of_below hb) (fun r e => by cases e)
def fin (l : List (Nat × Nat)) : Int := l.foldl (fun _ x => wrap64 ((x.1 : Int) + Lib.runeLen x.2)) 0
theorem fin_snoc (l : List (Nat × Nat)) (x : Nat × Nat) : fin (l ++ [x]) = wrap64 ((x.1 : Int) + Lib.runeLen x.2) := by unfold fin; rw [List.foldl_append]; rfl
theorem fin_runs {s : ByteArray} (hs : s.size ≤ 8000) {at_ : Nat} {rs : List (Nat × Nat)} (h : Runs s at_ rs) : ∀ z : Int, z = at_ → rs.foldl (fun _ x => wrap64 ((x.1 : Int) + Lib.runeLen x.2)) z = (s.size : Int) := by
 induction h with
 | stop => intro z hz; exact hz
 | step hat hd hok hlen hm hle _ ih =>
  intro z hz
  rw [List.foldl_cons]
  apply ih
  rw [hlen, ← i64_w, IntKind.wrap_i64]
  omega
set_option maxRecDepth 100000 in
set_option maxHeartbeats 2000000 in
theorem check_in (A : Option Addr) (cap : Nat) (s : ByteArray) (rs : List (Nat × Nat)) (hs : s.size ≤ 8000) (hcap : s.size ≤ cap) (hrs : Runs s 0 rs) (w : World) (hT : Txt w A s) (hG : Tab w) :
  CallsIn Fence.wide 3 Tryz.prog 45 #[.slice A s.size cap] w fun e W' => e = .returned (.tuple #[.int .i64 s.size, .int .i64 0]) ∧ Below w.heap.size w W' := by
 refine callsIn_of_wp_marks Tryz.func45 rfl trivial ?_ rfl
 simp only [Tryz.ntmps45, List.size_toArray, List.length_cons, List.length_nil, Nat.reduceAdd, Nat.reduceSub, Array.replicate_succ, Array.replicate_zero, List.push_toArray, List.append_toArray, List.nil_append, List.cons_append]
 have b1 : decide ((8000 : Int) < (s.size : Int)) = false := decide_eq_false (by omega)
 gi_wp2_with (refine ⟨trivial, (all_in _ _ _ _ _).mono ?_⟩; rintro e w' ⟨rfl, rfl⟩)
 have d0 := cell_new_l w (.int .i64 0) 3
 have d2 := cell_new_l (w.alloc (.cells #[.int .i64 0] 3)) (.slice A s.size cap) 29
 simp only [World.size_alloc] at d2
 have hB0 : Below w.heap.size w ((w.alloc (.cells #[.int .i64 0] 3)).alloc (.cells #[.slice A s.size cap] 29)) := ((Below.refl _ w).alloc (Nat.le_refl _) _).alloc (by simp) _
 refine wpIn_rangeFunc_ownF rfl (by omega) (gf := 103) (lb := #[.pointer (some ⟨w.heap.size + 1, 0, none⟩)]) rfl trivial (enters_of Tryz.func103 (by kernel_rfl) rfl)
  (all_stops 2 (by omega) (w.heap.size + 1) cap A s rs hs hcap hrs _ ⟨d2.1, hT.stay hB0, hG.stay hB0⟩) KB.t (fun W l o o' _ ho hc _ => KB.b W l o o' ho hc) (Below.refl _ _) (fun _ => rfl)
  (fun pre W => (W.cell? ⟨w.heap.size, 0, none⟩ = some (.int .i64 (fin pre)) ∧ W.frozen? ⟨w.heap.size, 0, none⟩ = false) ∧ Below w.heap.size w W)
  (fun c pre W => False)
  (OwnFrom.and (Own.from (fun p A B row hs hg hr => ⟨cell_kept hs.1 hg hr, (frozen_kept hs.1 hg hr).trans hs.2⟩) _) (ownFrom_below (Nat.le_refl _) (by simp; omega)))
  (fun _ _ _ _ _ hs _ _ => hs)
  ⟨⟨cell_alloc_l _ d0.1, frozen_alloc_l _ d0.1 d0.2⟩, hB0⟩
  (fun x => { tmps := #[.slice A s.size cap, undef, .pointer (some ⟨w.heap.size, 0, none⟩), .int .i64 0, .int .i64 x.1, .int .i32 x.2, .slice A s.size cap, .int .i64 s.size, .bool false, .slice A s.size cap, .func (.func 103) #[] #[.pointer (some ⟨w.heap.size + 1, 0, none⟩)], .int .i64 x.1, .int .i32 x.2, undef, undef, undef, undef, undef, undef, undef, undef, undef, undef, undef, undef, undef, undef, undef, undef, undef], defers := [] }) ?assign ?body ?done ?stop
 case assign =>
  intro l x W K hK
  gi_wp2
  exact hK
 case body =>
  rintro l pre x W ⟨⟨hc0, hf0⟩, hB⟩ _
  clear d0 d2 hB0
  have hn : 1 ≤ 3 - 1 - 1 := by omega
  gi_wp2_with (refine ⟨trivial, (CallsIn.inRound l (callsIn_wide.2 (Tryz.utf8_RuneLen x.2 _))).mono ?_⟩; rintro e w1 ⟨rfl, rfl⟩)
  have hB2 := hB.setCell (p := ⟨w.heap.size, 0, none⟩) (Nat.le_refl _) (.int .i64 (wrap64 ((x.1 : Int) + Lib.runeLen x.2)))
  refine ⟨KeepsOthers.setCell _ _ _, fun e => ⟨by rw [cell_far _ (by simp)]; exact e.box, hT.stay hB2, hG.stay hB2⟩, ⟨?_, by rw [World.frozen?_setCell]; exact hf0⟩, hB2⟩
  rw [fin_snoc]
  exact World.cell?_setCell_same' _ _ _ (by rw [hc0]; rfl)
 case done =>
  rintro D ys W hD rfl ⟨⟨hc0, hf0⟩, hB⟩ hK
  clear d0 d2 hB0
  have hfin : fin ys = (s.size : Int) := fin_runs hs hrs 0 rfl
  rw [hfin] at hc0
  gi_wp2
  have hK' := (KeepsOthers.setCell W ⟨w.heap.size, 0, none⟩ (.int .i64 s.size)).same D _ hK rfl
  refine ⟨by simp, .inl ⟨_, _, rfl, run_takeDeferred hK', ?_⟩⟩
  have hc5 := cell_kept (World.cell?_setCell_same' W ⟨w.heap.size, 0, none⟩ (.int .i64 s.size) (by rw [hc0]; rfl)) (grownBy_putObj' _ D (.deferred none)) (fun r e => by cases e; exact ⟨_, hK', rfl⟩)
  refine ⟨.tuple #[.int .i64 s.size, .int .i64 0], ?_, rfl, (hB.setCell (p := ⟨w.heap.size, 0, none⟩) (Nat.le_refl _) _).trans (belowK_b (w := w) (Nat.le_refl _) _ D _ _ (by simp at hD; omega) hK' rfl rfl)⟩
  simp [results, Tryz.f45, go_sem, hc5]
 case stop =>
  rintro D c pre W hD _ h hK
  exact h.elim
end Go.Proofs.YtdjkdlbokepoaaaGreatDoor.P.Sc
