import Derived.Test.YtkalbdeopogbpaaGreatDoorKX15
import Derived.Maps.AppendAt
namespace Go.Proofs.YtkalbdeopogbpaaGreatDoor.P.Sc
open Go.RowKit Go.Shelf Go.Proofs.YtkalbdeopogbpaaGreatDoorW.PrintWords Go.Proofs.YtkalbdeopogbpaaGreatDoorW.PrintLast Go.Proofs.YtkalbdeopogbpaaGreatDoorW.PrintMore
attribute [local go_sem] Oper.semAt_some
theorem inf3 : (Tryz.prog.info? 3).map (fun i => (i.zero, i.size, i.bytes)) = some (some (.int .i64 0), 1, 8) := by kernel_rfl
theorem ownsRow_low {W : World} {base base' : Nat} {e : TypeId} {size : Nat} {v : Value} {k : Nat} {xs : List Value} (h : W.ownsRow base e size v k xs) (hb : base' ≤ base) : W.ownsRow base' e size v k xs := by
  obtain ⟨h1, h2⟩ := h
  refine ⟨h1, ?_⟩
  rcases h2 with h2 | ⟨g, cap, cur, hv, hg, r⟩
  · exact .inl h2
  · exact .inr ⟨g, cap, cur, hv, Nat.le_trans hb hg, r⟩
theorem below_KB {n₀ Bs : Nat} {s : ByteArray} {w A B : World} (hb : Bs < n₀) (hc : w.cell? ⟨Bs, 0, none⟩ = some (.string s)) (h' : Below n₀ w B) : KB Bs s A B := fun _ =>
  (h'.cell (p := ⟨Bs, 0, none⟩) hb).trans hc
set_option maxRecDepth 100000 in
set_option maxHeartbeats 2000000 in
theorem appendSeq_in (s : ByteArray) (hs : s.size ≤ 20000) (Bs : Nat) (w : World) (hBs : Bs < w.heap.size) (hcs : w.cell? ⟨Bs, 0, none⟩ = some (.string s)) :
    CallsIn Fence.wide 3 Tryz.prog 60 #[.slice none 0 0, .func (.func 61) #[] #[.pointer (some ⟨Bs, 0, none⟩)]] w fun e W' => ∃ v, e = .returned v ∧ W'.ownsRow w.heap.size 3 1 v (pairs s (s.size / 2)).length ((pairs s (s.size / 2)).map (Value.int .i64)) ∧ Below w.heap.size w W' := by
  obtain ⟨i0, hi, hz0, hz1, hz2⟩ := info_parts inf3
  refine callsIn_of_wp_marks Tryz.func60 rfl trivial ?_ rfl
  simp only [Tryz.ntmps60, List.size_toArray, List.length_cons, List.length_nil, Nat.reduceAdd, Nat.reduceSub, Array.replicate_succ, Array.replicate_zero, List.push_toArray, List.append_toArray, List.nil_append, List.cons_append]
  gi_wp2
  have bO := Boxed.new w 28 (.slice none 0 0)
  have hB0 : Below w.heap.size w (w.alloc (.cells #[.slice none 0 0] 28)) := (Below.refl _ w).alloc (Nat.le_refl _) _
  refine wpIn_rangeFunc_ownG rfl (by omega) (gf := 61) (lb := #[.pointer (some ⟨Bs, 0, none⟩)]) rfl trivial (enters_of Tryz.func61 (by kernel_rfl) rfl)
    (all_stops 2 (by omega) Bs s (by omega) _ (by simp; omega) (hB0.cell (p := ⟨Bs, 0, none⟩) hBs |>.trans hcs)) KB.t (fun W l o o' _ ho hc _ => KB.b W l o o' ho hc) (Below.refl _ _) (fun _ => rfl)
    (fun (pre : List Int) W => (∃ v, Boxed W w.heap.size 28 v ∧ W.ownsRow w.heap.size 3 1 v pre.length (pre.map (Value.int .i64)) ∧ True) ∧ Below w.heap.size w W)
    (fun _ _ _ => False)
    (OwnFrom.and (Own.from (holdsRow_own w.heap.size w.heap.size 28 3 1 (fun (pre : List Int) => pre.length) (fun (pre : List Int) => pre.map (Value.int .i64)) (fun (_ : List Int) _ => True)) _) (ownFrom_below (Nat.le_refl _) (by simp)))
    (fun _ _ _ _ _ hs _ _ => hs)
    ⟨⟨_, bO, World.ownsRow_nil _ _ _ _, trivial⟩, hB0⟩
    (fun x => { tmps := #[.slice none 0 0, .func (.func 61) #[] #[.pointer (some ⟨Bs, 0, none⟩)], .pointer (some ⟨w.heap.size, 0, none⟩), undef, .slice none 0 0, .int .i64 x, .func (.func 61) #[] #[.pointer (some ⟨Bs, 0, none⟩)], .int .i64 x, undef, undef, undef, undef, undef], defers := [] }) ?assign ?body ?done ?stop
  case assign =>
    intro l x W K hK
    gi_wp2
    exact hK
  case body =>
    rintro l pre x W ⟨⟨v, hv, hrow, hnil⟩, hB⟩ hlt
    clear bO hB0
    have hc := hv.cell
    have hlt' : pre.length < 10000 := by omega
    have hmx : pre.length + 1 ≤ maxLen := by unfold maxLen; omega
    clear hlt
    gi_wp2_with (gi_at_builtin; refine wpListIn_append_own _ rfl _ _ 28 rfl w.heap.size 3 i0 (.int .i64 0) 1 8 Tryz.underlying28 hi hz0 hz1 hz2 rfl (by decide) _ _ _ rfl (hrow.alloc _) ⟨W.heap.size, 0, none⟩ 1 1 [.int .i64 x] rfl rfl (cell_one_new _ _ _) (by simp [Value.oneCell']) (by omega) (by omega) (by have := hB.size; simp; omega) ?_; intro v' w1 hown' hgrow _; obtain ⟨g', cap', rfl⟩ := ownsRow_succ hown'; obtain ⟨hv1, hv2, hr2, hk2, hb2⟩ := hv.appended (by decide) hrow hB.size (Nat.le_refl _) hown' hgrow; have hc1 := hv1.cell; have hf1 := hv1.frozen)
    exact ⟨hk2.from _, below_KB hBs hcs (hB.trans hb2), ⟨_, hv2, by simpa using hr2, trivial⟩, hB.trans hb2⟩
  case done =>
    rintro D ys W hD rfl ⟨⟨v, hv, hrow, hnil⟩, hB⟩ hK
    have hc := hv.cell
    gi_wp2
    refine ⟨by simp, .inl ⟨_, _, rfl, run_takeDeferred hK, ?_⟩⟩
    exact ⟨_, results_tmp rfl _ _ _, v, rfl, ownsRow_putObj hrow _ hK rfl, hB.trans (belowK_b (w := w) (Nat.le_refl _) W D _ _ (by simp at hD; omega) hK rfl rfl)⟩
  case stop =>
    rintro D c pre W _ _ h _
    exact h.elim
set_option maxRecDepth 100000 in
set_option maxHeartbeats 2000000 in
theorem collect_in (s : ByteArray) (hs : s.size ≤ 20000) (Bs : Nat) (w : World) (hBs : Bs < w.heap.size) (hcs : w.cell? ⟨Bs, 0, none⟩ = some (.string s)) :
    CallsIn Fence.wide 4 Tryz.prog 31 #[.func (.func 61) #[] #[.pointer (some ⟨Bs, 0, none⟩)]] w fun e W' => ∃ v, e = .returned v ∧ W'.ownsRow w.heap.size 3 1 v (pairs s (s.size / 2)).length ((pairs s (s.size / 2)).map (Value.int .i64)) ∧ Below w.heap.size w W' := by
  have cA := appendSeq_in s hs Bs w hBs hcs
  have hf : Fence.wide.fn 60 := trivial
  refine callsIn_of_wp Tryz.func31 rfl trivial ?_ rfl
  simp only [Tryz.ntmps31, List.size_toArray, List.length_cons, List.length_nil, Nat.reduceAdd, Nat.reduceSub, Array.replicate_succ, Array.replicate_zero, List.push_toArray, List.append_toArray, List.nil_append, List.cons_append]
  gi_wp2_with (gi_at_call 60; refine cA.mono ?_; rintro e w' ⟨v, rfl, hrow, hb⟩)
  go_ret
  exact ⟨v, rfl, hrow, hb⟩
def Ids_p (s : ByteArray) : List Int × Int := if chk s = 0 then (pairs s (s.size / 2), 0) else ([], chk s)
theorem chk_size {s : ByteArray} (h : chk s = 0) : s.size ≤ 20000 := by
  unfold chk at h
  split at h
  · split at h
    · split at h
      · cases h
      · omega
    · cases h
  · cases h
set_option maxRecDepth 100000 in
set_option maxHeartbeats 2000000 in
theorem ids_in (s : ByteArray) (hs : s.size ≤ 9223372036854775807) (w : World) :
    CallsIn Fence.wide 5 Tryz.prog 14 #[.string s] w fun e W' => ∃ v, e = .returned (.tuple #[v, .int .i64 (Ids_p s).2]) ∧ W'.ownsRow w.heap.size 3 1 v (Ids_p s).1.length ((Ids_p s).1.map (Value.int .i64)) ∧ Below w.heap.size w W' := by
  have cC : ∀ W, CallsIn Fence.wide 4 Tryz.prog 30 #[.string s] W fun e W' => e = .returned (.int .i64 (chk s)) ∧ Below W.heap.size W W' := fun W => callsIn_wide.2 (callsIn_wide.1 (check_in s hs W))
  have hf1 : Fence.wide.fn 30 := trivial
  have hf2 : Fence.wide.fn 32 := trivial
  have hf3 : Fence.wide.fn 31 := trivial
  obtain ⟨j, hj⟩ : ∃ j, chk s = j := ⟨_, rfl⟩
  by_cases h0 : j = 0
  · subst h0
    have hsz := chk_size hj
    have hp : Ids_p s = (pairs s (s.size / 2), 0) := by unfold Ids_p; rw [if_pos hj]
    rw [hp]
    simp only [hj] at cC
    clear hj hp
    have cK := fun W Bs hB hc => collect_in s hsz Bs W hB hc
    refine callsIn_of_wp Tryz.func14 rfl trivial ?_ rfl
    simp only [Tryz.ntmps14, List.size_toArray, List.length_cons, List.length_nil, Nat.reduceAdd, Nat.reduceSub, Array.replicate_succ, Array.replicate_zero, List.push_toArray, List.append_toArray, List.nil_append, List.cons_append]
    gi_wp2_with (first
      | (gi_at_call 30; refine (cC _).mono ?_; rintro e w1 ⟨rfl, hb1⟩)
      | (gi_at_call 32; refine (all_in _ _ _).mono ?_; rintro e w2 ⟨rfl, rfl⟩)
      | (gi_at_call 31; refine (cK _ _ (by simp) (cell_new_l _ _ _).1).mono ?_; rintro e w3 ⟨v, rfl, hrow, hb3⟩))
    go_ret2
    refine ⟨v, rfl, ?_, ?_⟩
    · exact ownsRow_low hrow (by have := hb1.size; simp; omega)
    · exact hb1.trans (((Below.refl _ w1).alloc hb1.size _).trans (hb3.mono (by have := hb1.size; simp; omega)))
  · have h0b : (j != 0) = true := bne_iff_ne.mpr h0
    have hp : Ids_p s = ([], j) := by unfold Ids_p; rw [if_neg (by rw [hj]; exact h0), hj]
    rw [hp]
    simp only [hj] at cC
    clear hj hp h0
    refine callsIn_of_wp Tryz.func14 rfl trivial ?_ rfl
    simp only [Tryz.ntmps14, List.size_toArray, List.length_cons, List.length_nil, Nat.reduceAdd, Nat.reduceSub, Array.replicate_succ, Array.replicate_zero, List.push_toArray, List.append_toArray, List.nil_append, List.cons_append]
    gi_wp2_with (first
      | (gi_at_call 30; refine (cC _).mono ?_; rintro e w1 ⟨rfl, hb1⟩))
    go_ret2
    exact ⟨_, rfl, World.ownsRow_nil _ _ _ _, hb1⟩
end Go.Proofs.YtkalbdeopogbpaaGreatDoor.P.Sc
