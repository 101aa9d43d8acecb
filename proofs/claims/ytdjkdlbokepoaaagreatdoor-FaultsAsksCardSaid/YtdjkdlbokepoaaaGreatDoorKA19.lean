import Derived.Test.YtdjkdlbokepoaaaGreatDoorKA18
namespace Go.Proofs.YtdjkdlbokepoaaaGreatDoor.P.Sc
open Go.RowKit Go.Shelf YtdjkdlbokepoaaaGreatDoorW.PrintWords YtdjkdlbokepoaaaGreatDoorW.PrintLast YtdjkdlbokepoaaaGreatDoorW.PrintMore
attribute [local go_sem] Oper.semAt_some
set_option linter.unusedVariables false
set_option linter.unusedSimpArgs false
theorem inf21 : (Tryz.prog.info? 21).map (fun i => (i.zero, i.size, i.bytes)) = some (some (.int .i32 0), 1, 4) := by kernel_rfl
theorem ownsRow_low {W : World} {base base' : Nat} {e : TypeId} {size : Nat} {v : Value} {k : Nat} {xs : List Value} (h : W.ownsRow base e size v k xs) (hb : base' ≤ base) : W.ownsRow base' e size v k xs := by
 obtain ⟨h1, h2⟩ := h
 refine ⟨h1, ?_⟩
 rcases h2 with h2 | ⟨g, cap, cur, hv, hg, r⟩
 ·exact .inl h2
 ·exact .inr ⟨g, cap, cur, hv, Nat.le_trans hb hg, r⟩
theorem boxed_own {β : Type} (B : Nat) (t : TypeId) (v : Value) : Own (fun (_ : β) W => Boxed W B t v) := fun s X Y row h hg hrow =>
 h.kept hg (fun e' => by obtain ⟨o, ho, hc⟩ := hrow B e'.symm; rw [show X.heap[B]? = _ from h] at ho; cases ho; cases hc)
theorem runs_len {s : ByteArray} {at_ : Nat} {rs : List (Nat × Nat)} (h : Runs s at_ rs) : rs.length + at_ ≤ s.size := by
 induction h with
 | stop => simp
 | step hat hd hok hlen hm hle _ ih => rw [List.length_cons]; omega
set_option maxRecDepth 100000 in
set_option maxHeartbeats 4000000 in
theorem runes_in (A : Option Addr) (cap : Nat) (s : ByteArray) (rs : List (Nat × Nat)) (hs : s.size ≤ 8000) (hcap : s.size ≤ cap) (hrs : Runs s 0 rs) (w : World) (hT : Txt w A s) (hG : Tab w) :
  CallsIn Fence.wide 4 Tryz.prog 81 #[.slice A s.size cap] w fun e W' => ∃ v, e = .returned (.tuple #[v, .int .i64 0]) ∧ W'.ownsRow w.heap.size 21 1 v (rs.map (fun x => ((x.2 : Nat) : Int))).length ((rs.map (fun x => ((x.2 : Nat) : Int))).map (Value.int .i32)) ∧ Below w.heap.size w W' := by
 obtain ⟨i0, hi, hz0, hz1, hz2⟩ := info_parts inf21
 have cC : CallsIn Fence.wide 3 Tryz.prog 45 #[.slice A s.size cap] w _ := callsIn_wide.2 (callsIn_wide.1 (check_in A cap s rs hs hcap hrs w hT hG))
 refine callsIn_of_wp_marks Tryz.func81 rfl trivial ?_ rfl
 simp only [Tryz.ntmps81, List.size_toArray, List.length_cons, List.length_nil, Nat.reduceAdd, Nat.reduceSub, Array.replicate_succ, Array.replicate_zero, List.push_toArray, List.append_toArray, List.nil_append, List.cons_append]
 gi_wp2_with (first
  | (refine ⟨trivial, cC.mono ?_⟩; rintro e w1 ⟨rfl, hb1⟩)
  | (refine ⟨trivial, (all_in _ _ _ _ _).mono ?_⟩; rintro e w' ⟨rfl, rfl⟩))
 have bO := (Boxed.new w1 113 (.slice none 0 0)).alloc (.cells #[.slice A s.size cap] 29)
 have bB := Boxed.new (w1.alloc (.cells #[.slice none 0 0] 113)) 29 (.slice A s.size cap)
 simp only [World.size_alloc] at bB
 have hB0 : Below w1.heap.size w1 ((w1.alloc (.cells #[.slice none 0 0] 113)).alloc (.cells #[.slice A s.size cap] 29)) := ((Below.refl _ w1).alloc (Nat.le_refl _) _).alloc (by simp) _
 have hT1 : Txt w1 A s := hT.stay hb1
 have hG1 : Tab w1 := hG.stay hb1
 have hlen := runs_len hrs
 refine wpIn_rangeFunc_ownG rfl (by omega) (gf := 103) (lb := #[.pointer (some ⟨w1.heap.size + 1, 0, none⟩)]) rfl trivial (enters_of Tryz.func103 (by kernel_rfl) rfl)
  (all_stops 3 (by omega) (w1.heap.size + 1) cap A s rs hs hcap hrs _ ⟨bB.cell, hT1.stay hB0, hG1.stay hB0⟩) KB.t (fun W l o o' _ ho hc _ => KB.b W l o o' ho hc) (Below.refl _ _) (fun _ => rfl)
  (fun (pre : List (Nat × Nat)) W => ((∃ v, Boxed W w1.heap.size 113 v ∧ W.ownsRow w1.heap.size 21 1 v pre.length (pre.map (fun x => Value.int .i32 x.2)) ∧ True) ∧ Boxed W (w1.heap.size + 1) 29 (.slice A s.size cap)) ∧ Below w1.heap.size w1 W)
  (fun _ _ _ => False)
  (OwnFrom.and (Own.from (fun p U V row hs hg hr => ⟨holdsRow_own w1.heap.size w1.heap.size 113 21 1 (fun (pre : List (Nat × Nat)) => pre.length) (fun pre => pre.map (fun x => Value.int .i32 x.2)) (fun _ _ => True) p U V row hs.1 hg hr, boxed_own (w1.heap.size + 1) 29 (.slice A s.size cap) p U V row hs.2 hg hr⟩) _) (ownFrom_below (Nat.le_refl _) (by simp; omega)))
  (fun _ _ _ _ _ hs _ _ => hs)
  ⟨⟨⟨_, bO, World.ownsRow_nil _ _ _ _, trivial⟩, bB⟩, hB0⟩
  (fun x => { tmps := #[.slice A s.size cap, undef, .slice none 0 0, .int .i64 0, .int .i64 s.size, .int .i64 0, .pointer (some ⟨w1.heap.size, 0, none⟩), undef, .int .i32 x.2, .tuple #[.int .i64 s.size, .int .i64 0], .slice A s.size cap, .tuple #[.int .i64 s.size, .int .i64 0], .int .i64 s.size, .int .i64 0, .int .i64 0, .bool false, undef, .slice A s.size cap, .func (.func 103) #[] #[.pointer (some ⟨w1.heap.size + 1, 0, none⟩)], .int .i64 x.1, .int .i32 x.2, undef, undef, undef, undef, undef], defers := [] }) ?assign ?body ?done ?stop
 case assign =>
  intro l x W K hK
  gi_wp2
  exact hK
 case body =>
  rintro l pre x W ⟨⟨⟨v, hv, hrow, hnil⟩, hv45⟩, hB⟩ hlt
  clear bO hB0 bB
  have hc := hv.cell
  have hlt' : pre.length < 8000 := by omega
  have hmx : pre.length + 1 ≤ maxLen := by unfold maxLen; omega
  clear hlt
  gi_wp2_with (gi_at_builtin; refine wpListIn_append_own _ rfl _ _ 113 rfl w1.heap.size 21 i0 (.int .i32 0) 1 4 Tryz.underlying113 hi hz0 hz1 hz2 rfl (by decide) _ _ _ rfl (hrow.alloc _) ⟨W.heap.size, 0, none⟩ 1 1 [.int .i32 x.2] rfl rfl (cell_one_new _ _ _) (by simp [Value.oneCell']) (by omega) (by omega) (by have := hB.size; simp; omega) ?_; intro v' w2 hown' hgrow _; have hv45b := (hv45.alloc _).kept hgrow (hv45.not_row (by decide) hrow); obtain ⟨g', cap', rfl⟩ := ownsRow_succ hown'; obtain ⟨hv1, hv2, hr2, hk2, hb2⟩ := hv.appended (by decide) hrow hB.size (Nat.le_refl _) hown' hgrow; have hc1 := hv1.cell; have hf1 := hv1.frozen)
  have hv45c := hv45b.kept (grownBy_setCell' w2 w1.heap.size (.slice (some ⟨g', 0, none⟩) (pre.length + 1) cap')) (by simp)
  exact ⟨hk2.from _, fun _ => ⟨hv45c.cell, hT1.stay (hB.trans hb2), hG1.stay (hB.trans hb2)⟩, ⟨⟨_, hv2, by simpa using hr2, trivial⟩, hv45c⟩, hB.trans hb2⟩
 case done =>
  rintro D ys W hD rfl ⟨⟨⟨v, hv, hrow, hnil⟩, _⟩, hB⟩ hK
  have hc := hv.cell
  gi_wp2
  refine ⟨by simp, .inl ⟨_, _, rfl, run_takeDeferred hK, ?_⟩⟩
  refine ⟨.tuple #[v, .int .i64 0], by simp [results, Tryz.f81, go_sem], v, rfl, ?_, hb1.trans ((hB.trans (belowK_b (w := w1) (Nat.le_refl _) W D _ _ (by simp at hD; omega) hK rfl rfl)).mono hb1.size)⟩
  have := ownsRow_low (ownsRow_putObj hrow (.deferred none) hK rfl) hb1.size
  rw [List.length_map, List.map_map]; exact this
 case stop =>
  rintro D c pre W _ _ h _
  exact h.elim
end Go.Proofs.YtdjkdlbokepoaaaGreatDoor.P.Sc
