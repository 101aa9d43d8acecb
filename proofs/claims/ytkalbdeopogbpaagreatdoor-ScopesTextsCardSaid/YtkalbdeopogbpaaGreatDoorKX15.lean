import Derived.Test.YtkalbdeopogbpaaGreatDoorKX14
import Derived.RangeFuncFrom
namespace Go.Proofs.YtkalbdeopogbpaaGreatDoor.P.Sc
open Go.RowKit Go.Shelf Go.Proofs.YtkalbdeopogbpaaGreatDoorW.PrintWords Go.Proofs.YtkalbdeopogbpaaGreatDoorW.PrintLast Go.Proofs.YtkalbdeopogbpaaGreatDoorW.PrintMore
attribute [local go_sem] Oper.semAt_some
theorem cell_new_l (W : World) (v : Value) (t : TypeId) : (W.alloc (.cells #[v] t)).cell? ⟨W.heap.size, 0, none⟩ = some v ∧ (W.alloc (.cells #[v] t)).frozen? ⟨W.heap.size, 0, none⟩ = false :=
  ⟨(Boxed.new W t v).cell, (Boxed.new W t v).frozen⟩
theorem cell_alloc_l {W : World} {a : Addr} {v : Value} (o : Obj) (h : W.cell? a = some v) : (W.alloc o).cell? a = some v := cell_kept h (World.grownBy_alloc W o none) (fun r e => by cases e)
theorem frozen_alloc_l {W : World} {a : Addr} {v : Value} (o : Obj) (h : W.cell? a = some v) (hf : W.frozen? a = false) : (W.alloc o).frozen? a = false := (frozen_kept h (World.grownBy_alloc W o none) (fun r e => by cases e)).trans hf
theorem cell_far (w : World) {p a : Addr} {v : Value} (h : p.block ≠ a.block) : (w.setCell p v).cell? a = w.cell? a := by
  simp only [World.cell?, heap_setCell_other w p a.block v (Ne.symm h)]
/-- Ascending, and above last. -/
def asc : Int → List Int → Bool
  | _, [] => true
  | last, x :: r => decide (last < x) && asc x r
def lastOf (l : List Int) : Int := l.getLast?.getD (-1)
theorem asc_cons_eq (a y : Int) (r : List Int) : (asc a (y :: r) = true) ↔ (a < y ∧ asc y r = true) := by simp [asc]
theorem asc_snoc (a x : Int) (l : List Int) : (asc a (l ++ [x]) = true) ↔ (asc a l = true ∧ (l.getLast?.getD a) < x) := by
  induction l generalizing a with
  | nil => rw [List.nil_append, asc_cons_eq]; simp [asc]
  | cons y r ih =>
    rw [List.cons_append, asc_cons_eq, ih, asc_cons_eq, and_assoc]
    cases r with
    | nil => simp
    | cons z q => rw [List.getLast?_cons_cons]; simp [List.getLast?_cons]
theorem asc_append (a : Int) (l m : List Int) (h : asc a l = false) : asc a (l ++ m) = false := by
  induction l generalizing a with
  | nil => simp [asc] at h
  | cons y r ih =>
    simp only [List.cons_append, asc, Bool.and_eq_false_iff] at h ⊢
    exact h.imp id (ih y)
theorem pairs_prefix (s : ByteArray) {k n : Nat} (h : k ≤ n) : ∃ m, pairs s n = pairs s k ++ m := by
  induction h with
  | refl => exact ⟨[], by simp⟩
  | step _ ih => obtain ⟨m, e⟩ := ih; exact ⟨m ++ [pairAt s _], by rw [pairs_succ, e, List.append_assoc]⟩
theorem lastOf_snoc (l : List Int) (x : Int) : lastOf (l ++ [x]) = x := by simp [lastOf]
def chk (s : ByteArray) : Int := if (s.size : Int) % 2 = 0 then (if asc (-1) (pairs s (s.size / 2)) = true then (if (s.size : Int) > 20000 then 3 else 0) else 6) else 6
set_option maxRecDepth 100000 in
set_option maxHeartbeats 2000000 in
theorem check_in (s : ByteArray) (hs : s.size ≤ 9223372036854775807) (w : World) :
    CallsIn Fence.wide 3 Tryz.prog 30 #[.string s] w fun e W' => e = .returned (.int .i64 (chk s)) ∧ Below w.heap.size w W' := by
  refine callsIn_of_wp_marks Tryz.func30 rfl trivial ?_ rfl
  simp only [Tryz.ntmps30, List.size_toArray, List.length_cons, List.length_nil, Nat.reduceAdd, Nat.reduceSub, Array.replicate_succ, Array.replicate_zero, List.push_toArray, List.append_toArray, List.nil_append, List.cons_append]
  by_cases c2 : ((s.size : Int) % 2) = 0
  · have c2b0 : (((s.size : Int) % 2) == 0) = true := beq_iff_eq.mpr c2
    have c2b1 : (((s.size : Int) % 2) != 0) = false := bne_eq_false_iff_eq.mpr c2
    clear c2
    gi_wp2_with (refine ⟨trivial, (all_in _ _ _).mono ?_⟩; rintro e w' ⟨rfl, rfl⟩)
    have d0 := cell_new_l w (.int .i64 0) 23
    have d1 := cell_new_l (w.alloc (.cells #[.int .i64 0] 23)) (.int .i64 (-1)) 3
    have d2 := cell_new_l ((w.alloc (.cells #[.int .i64 0] 23)).alloc (.cells #[.int .i64 (-1)] 3)) (.string s) 9
    simp only [World.size_alloc] at d1 d2
    have hB0 : Below w.heap.size w (((w.alloc (.cells #[.int .i64 0] 23)).alloc (.cells #[.int .i64 (-1)] 3)).alloc (.cells #[.string s] 9)) := (((Below.refl _ w).alloc (Nat.le_refl _) _).alloc (by simp) _).alloc (by simp; omega) _
    refine wpIn_rangeFunc_ownF rfl (by omega) (gf := 61) (lb := #[.pointer (some ⟨w.heap.size + 1 + 1, 0, none⟩)]) rfl trivial (enters_of Tryz.func61 (by kernel_rfl) rfl)
      (all_stops 2 (by omega) (w.heap.size + 1 + 1) s hs _ (by simp) d2.1) KB.t (fun W l o o' _ ho hc _ => KB.b W l o o' ho hc) (Below.refl _ _) (fun _ => rfl)
      (fun pre W => (asc (-1) pre = true ∧ W.cell? ⟨w.heap.size + 1, 0, none⟩ = some (.int .i64 (lastOf pre)) ∧ W.frozen? ⟨w.heap.size + 1, 0, none⟩ = false ∧ W.cell? ⟨w.heap.size, 0, none⟩ = some (.int .i64 0) ∧ W.frozen? ⟨w.heap.size, 0, none⟩ = false) ∧ Below w.heap.size w W)
      (fun c pre W => (c = .ret ∧ asc (-1) pre = false ∧ W.cell? ⟨w.heap.size, 0, none⟩ = some (.int .i64 6)) ∧ Below w.heap.size w W)
      (OwnFrom.and (Own.from (fun p A B row hs hg hr => ⟨hs.1, cell_kept hs.2.1 hg hr, (frozen_kept hs.2.1 hg hr).trans hs.2.2.1, cell_kept hs.2.2.2.1 hg hr, (frozen_kept hs.2.2.2.1 hg hr).trans hs.2.2.2.2⟩) _) (ownFrom_below (Nat.le_refl _) (by simp; omega)))
      (fun c => OwnFrom.and (Own.from (fun p A B row hs hg hr => ⟨hs.1, hs.2.1, cell_kept hs.2.2 hg hr⟩) _) (ownFrom_below (Nat.le_refl _) (by simp; omega)))
      ⟨⟨rfl, cell_alloc_l _ d1.1, frozen_alloc_l _ d1.1 d1.2, cell_alloc_l _ (cell_alloc_l _ d0.1), frozen_alloc_l _ (cell_alloc_l _ d0.1) (frozen_alloc_l _ d0.1 d0.2)⟩, hB0⟩
      (fun x => { tmps := #[.string s, undef, .pointer (some ⟨w.heap.size, 0, none⟩), .pointer (some ⟨w.heap.size + 1, 0, none⟩), .int .i64 x, .string s, .int .i64 (s.size : Int), .int .i64 ((s.size : Int) % 2), .bool false, .string s, .func (.func 61) #[] #[.pointer (some ⟨w.heap.size + 1 + 1, 0, none⟩)], .int .i64 x, undef, undef, undef, undef, undef, undef, undef], defers := [] }) ?assign ?body ?done ?stop
    case assign =>
      intro l x W K hK
      gi_wp2
      exact hK
    case body =>
      rintro l pre x W ⟨⟨ha, hc1, hf1, hc0, hf0⟩, hB⟩ _
      clear d0 d1 d2 hB0
      by_cases hx : x ≤ lastOf pre
      · have hxb : decide (x ≤ lastOf pre) = true := decide_eq_true hx
        have hx2 : Aside0 (x ≤ (pre.getLast?.getD (-1))) := ⟨hx⟩
        clear hx
        gi_wp2
        exact ⟨KeepsOthers.setCell _ _ _, ⟨rfl, Bool.eq_false_iff.2 (fun e => absurd ((asc_snoc _ _ _).1 e).2 (Int.not_lt.2 hx2.out)), World.cell?_setCell_same' _ _ _ (by rw [hc0]; rfl)⟩, hB.setCell (p := ⟨w.heap.size, 0, none⟩) (Nat.le_refl _) _⟩
      · have hxb : decide (x ≤ lastOf pre) = false := decide_eq_false hx
        have hx2 : Aside0 ((pre.getLast?.getD (-1)) < x) := ⟨Int.not_le.1 hx⟩
        clear hx
        gi_wp2
        refine ⟨KeepsOthers.setCell _ _ _, ?_, ⟨(asc_snoc _ _ _).2 ⟨ha, hx2.out⟩, by rw [lastOf_snoc]; exact World.cell?_setCell_same' _ _ _ (by rw [hc1]; rfl), by rw [World.frozen?_setCell]; exact hf1, ?_, by rw [World.frozen?_setCell]; exact hf0⟩, hB.setCell (p := ⟨w.heap.size + 1, 0, none⟩) (by simp) _⟩
        · intro e; rw [cell_far _ (by simp)]; exact e
        · rw [cell_far _ (by simp)]; exact hc0
    case done =>
      rintro D ys W hD rfl ⟨⟨ha, hc1, hf1, hc0, hf0⟩, hB⟩ hK
      clear d0 d1 d2 hB0
      have hch : Aside0 (chk s = if (s.size : Int) > 20000 then 3 else 0) := ⟨by unfold chk; rw [if_pos (beq_iff_eq.1 c2b0), if_pos ha]⟩
      by_cases hx : (s.size : Int) > 20000
      · have hxb : decide ((20000 : Int) < (s.size : Int)) = true := decide_eq_true hx
        replace hx : Aside0 ((s.size : Int) > 20000) := ⟨hx⟩
        gi_wp2
        have hK' := (KeepsOthers.setCell W ⟨w.heap.size, 0, none⟩ (.int .i64 3)).same D _ hK rfl
        refine ⟨by simp, .inl ⟨_, _, rfl, run_takeDeferred hK', ?_⟩⟩
        have hc5 := cell_kept (World.cell?_setCell_same' W ⟨w.heap.size, 0, none⟩ (.int .i64 3) (by rw [hc0]; rfl)) (grownBy_putObj' _ D (.deferred none)) (fun r e => by cases e; exact ⟨_, hK', rfl⟩)
        refine ⟨.int .i64 3, ?_, by rw [hch.out, if_pos hx.out], (hB.setCell (p := ⟨w.heap.size, 0, none⟩) (Nat.le_refl _) _).trans (belowK_b (w := w) (Nat.le_refl _) _ D _ _ (by simp at hD; omega) hK' rfl rfl)⟩
        simp [results, Tryz.f30, go_sem, hc5]
      · have hxb : decide ((20000 : Int) < (s.size : Int)) = false := decide_eq_false hx
        replace hx : Aside0 (¬ (s.size : Int) > 20000) := ⟨hx⟩
        gi_wp2
        have hK' := (KeepsOthers.setCell W ⟨w.heap.size, 0, none⟩ (.int .i64 0)).same D _ hK rfl
        refine ⟨by simp, .inl ⟨_, _, rfl, run_takeDeferred hK', ?_⟩⟩
        have hc5 := cell_kept (World.cell?_setCell_same' W ⟨w.heap.size, 0, none⟩ (.int .i64 0) (by rw [hc0]; rfl)) (grownBy_putObj' _ D (.deferred none)) (fun r e => by cases e; exact ⟨_, hK', rfl⟩)
        refine ⟨.int .i64 0, ?_, by rw [hch.out, if_neg (Int.not_lt.2 hx.out)], (hB.setCell (p := ⟨w.heap.size, 0, none⟩) (Nat.le_refl _) _).trans (belowK_b (w := w) (Nat.le_refl _) _ D _ _ (by simp at hD; omega) hK' rfl rfl)⟩
        simp [results, Tryz.f30, go_sem, hc5]
    case stop =>
      rintro D c pre W hD ⟨k, hk, rfl⟩ ⟨⟨rfl, hin, hcr⟩, hB⟩ hK
      clear d0 d1 d2 hB0
      have hch : Aside0 (chk s = 6) := by
        obtain ⟨m, e⟩ := pairs_prefix s hk
        have h6 : asc (-1) (pairs s (s.size / 2)) = false := by rw [e]; exact asc_append _ _ _ hin
        exact ⟨by simp [chk, h6]⟩
      gi_wp2
      refine ⟨by simp, .inl ⟨_, _, rfl, run_takeDeferred hK, ?_⟩⟩
      have hc5 := cell_kept hcr (grownBy_putObj' _ D (.deferred none)) (fun r e => by cases e; exact ⟨_, hK, rfl⟩)
      refine ⟨.int .i64 6, ?_, by rw [hch.out], hB.trans (belowK_b (w := w) (Nat.le_refl _) W D _ _ (by simp at hD; omega) hK rfl rfl)⟩
      simp [results, Tryz.f30, go_sem, hc5]
  · have c2b0 : (((s.size : Int) % 2) == 0) = false := beq_eq_false_iff_ne.mpr c2
    have c2b1 : (((s.size : Int) % 2) != 0) = true := bne_iff_ne.mpr c2
    have hch : Aside0 (chk s = 6) := ⟨by simp [chk, c2]⟩
    clear c2
    gi_wp2
    refine ⟨.int .i64 6, ?_, by rw [hch.out], (Below.refl _ w).alloc (Nat.le_refl _) _⟩
    simp [results, Tryz.f30, go_sem]
end Go.Proofs.YtkalbdeopogbpaaGreatDoor.P.Sc
