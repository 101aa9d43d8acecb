import Derived.Test.YtnkfdobcmfdhfaaDoorKL18
import Derived.Lib.SlSplitV
import Derived.Lib.SplitLaws
import Derived.Lib.IndexLaws
import Derived.Shelf.RegionOpenPlain
import Derived.Lib.Walk
import Derived.Deep.OwnRows
import Derived.Deep.LoopGhost
import Derived.Deep.Draws
import Derived.Shelf.Bytes.SlSplit
import Derived.Shelf.Bytes.SlCountOne
import Derived.LoopN
namespace Go.Proofs.YtnkfdobcmfdhfaaDoor.P.Sc
open Go.RowKit Go.Shelf Go.Proofs.YtnkfdobcmfdhfaaDoorW.PrintWords Go.Proofs.YtnkfdobcmfdhfaaDoorW.PrintLast Go.Proofs.YtnkfdobcmfdhfaaDoorW.PrintMore
set_option linter.unusedVariables false
set_option linter.unusedSimpArgs false
/-- How long the lines are: what stands between the bytes 10. -/
def lens : List Int → Nat → List Nat
  | [], k => [k]
  | x :: r, k => if x = 10 then k :: lens r 0 else lens r (k + 1)
theorem u8_ten {x : Int} (h : 0 ≤ x ∧ x < 256) : (UInt8.ofNat x.toNat == 10) = decide (x = 10) := by
  rw [Bool.eq_iff_iff, beq_iff_eq, decide_eq_true_eq]
  constructor
  · intro e
    have := congrArg UInt8.toNat e
    rw [UInt8.toNat_ofNat'] at this
    have h2 : (10 : UInt8).toNat = 10 := rfl
    omega
  · rintro rfl; rfl
theorem InB_cons {x : Int} {r : List Int} (h : InB (x :: r) = true) : (0 ≤ x ∧ x < 256) ∧ InB r = true := by
  unfold InB at h ⊢
  rw [List.all_cons, Bool.and_eq_true] at h
  exact ⟨of_decide_eq_true h.1, h.2⟩
theorem InB_drop {l : List Int} (h : InB l = true) (i : Nat) : InB (l.drop i) = true := by
  unfold InB at h ⊢
  rw [List.all_eq_true] at h ⊢
  exact fun x hx => h x (List.mem_of_mem_drop hx)
theorem lens_none : ∀ (l : List Int) (k : Nat), InB l = true → Lib.indexByte (Lib.bytesOf l) 10 = -1 → lens l k = [k + l.length]
  | [], k, _, _ => by simp [lens]
  | x :: r, k, hI, h => by
    obtain ⟨hx, hr⟩ := InB_cons hI
    have e : Lib.bytesOf (x :: r) = UInt8.ofNat x.toNat :: Lib.bytesOf r := rfl
    rw [e] at h
    unfold Lib.indexByte at h
    rw [u8_ten hx] at h
    by_cases c : x = 10
    · rw [if_pos (decide_eq_true c)] at h; cases h
    · rw [if_neg (by simpa using c)] at h
      have hge := Lib.indexByte_ge (Lib.bytesOf r) 10
      have h2 : Lib.indexByte (Lib.bytesOf r) 10 = -1 := by
        split at h
        · rename_i h'; exact beq_iff_eq.1 h'
        · omega
      rw [lens, if_neg c, lens_none r (k + 1) hr h2, List.length_cons]
      congr 1; omega
theorem lens_some : ∀ (l : List Int) (k i : Nat), InB l = true → Lib.indexByte (Lib.bytesOf l) 10 = (i : Int) → lens l k = (k + i) :: lens (l.drop (i + 1)) 0 ∧ i < l.length
  | [], k, i, _, h => by simp [Lib.bytesOf, Lib.indexByte] at h
  | x :: r, k, i, hI, h => by
    obtain ⟨hx, hr⟩ := InB_cons hI
    have e : Lib.bytesOf (x :: r) = UInt8.ofNat x.toNat :: Lib.bytesOf r := rfl
    rw [e] at h
    unfold Lib.indexByte at h
    rw [u8_ten hx] at h
    by_cases c : x = 10
    · rw [if_pos (decide_eq_true c)] at h
      obtain rfl : i = 0 := by omega
      exact ⟨by rw [lens, if_pos c]; simp, by simp⟩
    · rw [if_neg (by simpa using c)] at h
      split at h
      · omega
      · obtain ⟨j, rfl⟩ : ∃ j, i = j + 1 := ⟨i - 1, by have := Lib.indexByte_ge (Lib.bytesOf r) 10; rename_i h'; have : ¬ Lib.indexByte (Lib.bytesOf r) 10 = -1 := fun e => h' (by rw [e]; rfl); omega⟩
        obtain ⟨h1, h2⟩ := lens_some r (k + 1) j hr (by omega)
        refine ⟨?_, by rw [List.length_cons]; omega⟩
        rw [lens, if_neg c, h1]
        congr 1; omega
theorem lens_count : ∀ (l : List Int) (k : Nat), InB l = true → (lens l k).length = Lib.countByte (Lib.bytesOf l) 10 + 1
  | [], k, _ => by simp [lens, Lib.bytesOf, Lib.countByte]
  | x :: r, k, hI => by
    obtain ⟨hx, hr⟩ := InB_cons hI
    have e : Lib.bytesOf (x :: r) = UInt8.ofNat x.toNat :: Lib.bytesOf r := rfl
    rw [e]
    unfold Lib.countByte
    rw [List.count_cons, u8_ten hx]
    by_cases c : x = 10
    · rw [lens, if_pos c, List.length_cons, lens_count r 0 hr, if_pos (decide_eq_true c)]; rfl
    · rw [lens, if_neg c, lens_count r (k + 1) hr, if_neg (by simpa using c)]; rfl
theorem lens_le : ∀ (l : List Int) (k : Nat), (lens l k).length ≤ l.length + 1
  | [], k => by simp [lens]
  | x :: r, k => by
    rw [lens]
    split
    · have := lens_le r 0; simp only [List.length_cons]; omega
    · have := lens_le r (k + 1); simp only [List.length_cons]; omega
theorem lens_ne : ∀ (l : List Int) (k : Nat), 1 ≤ (lens l k).length
  | [], k => by simp [lens]
  | x :: r, k => by
    rw [lens]
    split
    · simp
    · exact lens_ne r (k + 1)
theorem lens_one : ∀ (l : List Int) (k : Nat), (lens l k).length = 1 → lens l k = [k + l.length]
  | [], k, _ => by simp [lens]
  | x :: r, k, h => by
    rw [lens] at h ⊢
    split at h
    · have := lens_ne r 0; rw [List.length_cons] at h; omega
    · rename_i c
      rw [if_neg c, lens_one r (k + 1) h, List.length_cons]
      congr 1; omega
/-- Slices of these lengths. -/
def Lens (vs : List Value) (ns : List Nat) : Prop := vs.length = ns.length ∧ ∀ (j : Nat) (v : Value), vs[j]? = some v → ∃ A c, v = Value.slice A (ns.getD j 0) c
theorem Lens.snoc {vs : List Value} {ns : List Nat} (h : Lens vs ns) (A : Option Addr) (n c : Nat) : Lens (vs ++ [.slice A n c]) (ns ++ [n]) := by
  refine ⟨by simp [h.1], fun j v hj => ?_⟩
  rcases Nat.lt_trichotomy j vs.length with h1 | h1 | h1
  · rw [List.getElem?_append_left h1] at hj
    obtain ⟨A', c', e⟩ := h.2 j v hj
    refine ⟨A', c', ?_⟩
    rw [e]
    have h2 : j < ns.length := by rw [← h.1]; exact h1
    simp [List.getD_eq_getElem?_getD, List.getElem?_append_left h2]
  · subst h1
    rw [List.getElem?_append_right (Nat.le_refl _), Nat.sub_self] at hj
    cases hj
    refine ⟨A, c, ?_⟩
    rw [h.1]
    simp [List.getD_eq_getElem?_getD]
  · rw [List.getElem?_eq_none (by simp; omega)] at hj; cases hj
theorem inf45 : (Tryd.prog.info? 45).map (fun i => (i.zero, i.size, i.bytes)) = some (some (.slice none 0 0), 1, 24) := by kernel_rfl
set_option maxHeartbeats 8000000 in
set_option maxRecDepth 1000000 in
theorem genSplit_own (a1 : Addr) (n c1 g d : Nat) (xs : List Int) (w : World) (hx : xs.length = n) (hn : n ≤ 8000) (hI : InB xs = true) (hc1 : ∀ i, i < n → w.cell? (a1.add i) = some (.int .u8 (xs.getD i 0))) (hcap : n ≤ c1) (hsep : w.cell? ⟨g, 0, none⟩ = some (.int .u8 10)) :
    Calls Tryd.prog 58 #[.slice (some a1) n c1, .slice (some ⟨g, 0, none⟩) 1 d, .int .i64 0, .int .i64 (-1)] w fun e w' => ∃ done : List Value, Lens done (lens xs 0) ∧ e = .returned (.slice (some ⟨w.heap.size, 0, none⟩) done.length done.length) ∧ ∃ q, w' = (w.alloc (.cells done.toArray 45)).drewN q := by
  obtain ⟨m, hm⟩ : ∃ m, Lib.countByte (Lib.bytesOf xs) 10 = m := ⟨_, rfl⟩
  have hN1 := lens_count xs 0 hI
  have hNl := lens_le xs 0
  rw [hm] at hN1
  rw [hN1] at hNl
  have hC := Tryd.bytes_Count_one_at a1 n c1 g 0 d xs 10 w hx hc1 hsep
  rw [show (10 : Int).toNat.toUInt8 = 10 from rfl, hm] at hC
  clear hm
  have hmk : ∀ w, (Instr.makeSlice 69 (.int .i64 ((m : Int) + 1)) (.int .i64 ((m : Int) + 1))).run Tryd.prog w = .ok (.slice (some ⟨w.heap.size, 0, none⟩) (m + 1) (m + 1)) (w.alloc (.cells (madeCells #[.slice none 0 0] (m + 1)) 45)) := run_make_row' (P := Tryd.prog) 69 45 (.slice none 0 0) 24 Tryd.underlying69 inf45 rfl .i64 .i64 (m + 1) (by omega) (by omega)
  have eN : min (m : Int) (n : Int) = (m : Int) := by omega
  have HC := Aside0.mk hC
  clear hC
  go_enter Tryd.func58, Tryd.ntmps58
  go_wp2_with (go_at_call 68; refine (HC.out).mono ?_; rintro e w' ⟨rfl, hw⟩; subst hw; dsimp only)
  go_wp2
  clear hmk HC
  go_loopg [0, 10] m (fun gh s0 s10 wr => ∃ (done : List Value) (pre : List Nat) (a : Addr) (zs : List Int) (ln cap : Nat), s0 = .slice (some a) ln cap ∧ s10 = .int .i64 done.length ∧ done.length ≤ m ∧ gh = m - done.length ∧ zs.length = ln ∧ ln ≤ cap ∧ ln ≤ n ∧
    wr = w'.alloc (.cells (Lib.cellsOfV done (m + 1)) 45) ∧
    Aside0 (InB zs = true ∧ (∀ i, i < ln → w'.cell? (a.add i) = some (.int .u8 (zs.getD i 0))) ∧ Lens done pre ∧ pre ++ lens zs 0 = lens xs 0))
  case atStart =>
    exact ⟨[], [], a1, xs, n, c1, rfl, rfl, Nat.zero_le _, rfl, hx, hcap, Nat.le_refl _, by rw [Lib.cellsOfV_nil], hI, hc1, ⟨rfl, fun j v hj => by cases hj⟩, rfl⟩
  case round =>
    obtain ⟨done, pre, a, zs, ln, cap, rfl, rfl, hd, rfl, hz, hcp, hln, rfl, A⟩ := hrel
    have hnext : (Lib.cellsOfV done (m + 1))[done.length]? = some (.slice none 0 0) := Lib.cellsOfV_next (by omega)
    have hpl : pre.length = done.length := A.out.2.2.1.1.symm
    have fin : lens zs 0 = [ln] → Lens (done ++ [.slice (some a) ln cap]) (lens xs 0) ∧ (done ++ [Value.slice (some a) ln cap]).length = m + 1 ∧ (Lib.cellsOfV done (m + 1)).setIfInBounds done.length (.slice (some a) ln cap) = (done ++ [Value.slice (some a) ln cap]).toArray := fun h => by
      have e := A.out.2.2.2
      rw [h] at e
      have hl := A.out.2.2.1.snoc (some a) ln cap
      rw [e] at hl
      have h2 : (done ++ [Value.slice (some a) ln cap]).length = m + 1 := by rw [hl.1, hN1]
      refine ⟨hl, h2, ?_⟩
      rw [Lib.cellsOfV_set (by omega)]
      unfold Lib.cellsOfV
      rw [h2, Nat.sub_self]
      simp
    by_cases hlt : done.length < m
    · have hltz : ((done.length : Nat) : Int) < (m : Int) := by omega
      have hcon := Tryd.bytes_Index_one_at a ln cap g 0 d zs 10 (w'.alloc (.cells (Lib.cellsOfV done (m + 1)) 45)) hz (fun i hi => cell_alloc_l _ (A.out.2.1 i hi)) (cell_alloc_l _ hsep)
      rw [show (10 : Int).toNat.toUInt8 = 10 from rfl] at hcon
      by_cases hm1 : Lib.indexByte (Lib.bytesOf zs) 10 = -1
      · rw [hm1] at hcon
        have hfin := fin (by rw [lens_none zs 0 A.out.1 hm1, hz, Nat.zero_add])
        have HC := Aside0.mk hcon
        clear hcon hm1 fin
        go_wp2_with (go_at_call 69; refine (HC.out).mono ?_; rintro e w2 ⟨rfl, hw⟩; subst hw; dsimp only)
        go_ret
        refine ⟨_, hfin.1, ?_, 0, rfl⟩
        have h2 := hfin.2.1
        rw [h2]
        rw [List.length_append, List.length_cons, List.length_nil] at h2
        rw [show done.length + 1 = m + 1 from h2]
        rfl
      · obtain ⟨i, hi⟩ : ∃ i : Nat, Lib.indexByte (Lib.bytesOf zs) 10 = (i : Int) := ⟨(Lib.indexByte (Lib.bytesOf zs) 10).toNat, by have := Lib.indexByte_ge (Lib.bytesOf zs) 10; omega⟩
        rw [hi] at hcon
        obtain ⟨hls, hil⟩ := lens_some zs 0 i A.out.1 hi
        have hls' := Aside0.mk hls
        have hroom : i + 1 ≤ ln := by omega
        have q0 : ¬ ((i : Int) < 0) := by omega
        have q1 : (0 : Int) ≤ ↑i := by omega
        have q2 : (↑i : Int) ≤ ↑cap := by omega
        have q3 : (0 : Int) ≤ ↑i + 1 := by omega
        have q4 : (↑i + 1 : Int) ≤ ↑ln := by omega
        have HC := Aside0.mk hcon
        clear hcon hm1 fin hls hi
        have B : Aside0 (InB (zs.drop (i + 1)) = true ∧ Lens (done ++ [Value.slice (some a) i i]) (pre ++ [i]) ∧ (pre ++ [i]) ++ lens (zs.drop (i + 1)) 0 = lens xs 0) := ⟨InB_drop A.out.1 _, A.out.2.2.1.snoc _ _ _, by
          rw [← A.out.2.2.2, hls'.out, Nat.zero_add]; simp⟩
        by_cases hce : cap = i + 1
        · subst hce
          go_wp2_with (go_at_call 69; refine (HC.out).mono ?_; rintro e w2 ⟨rfl, hw⟩; subst hw; dsimp only)
          go_roundg (m - (done.length + 1))
          case measure => omega
          case rel =>
            refine ⟨done ++ [.slice (some a) i i], pre ++ [i], a, zs.drop (i + 1), 0, 0, rfl, by simp, by simp; omega, by simp, by simp; omega, Nat.le_refl _, Nat.zero_le _, by rw [← Lib.cellsOfV_set (by omega)], B.out.1, fun j hj => absurd hj (by omega), B.out.2.1, B.out.2.2⟩
        · go_wp2_with (go_at_call 69; refine (HC.out).mono ?_; rintro e w2 ⟨rfl, hw⟩; subst hw; dsimp only)
          go_roundg (m - (done.length + 1))
          case measure => omega
          case rel =>
            refine ⟨done ++ [.slice (some a) i i], pre ++ [i], a.add (i + 1), zs.drop (i + 1), ln - (i + 1), cap - (i + 1), by first | rfl | simp [Addr.add], by simp, by simp; omega, by simp, by simp; omega, by omega, by omega, by rw [← Lib.cellsOfV_set (by omega)], B.out.1, fun j hj => ?_, B.out.2.1, B.out.2.2⟩
            rw [Lib.add_add' a (i + 1) j (by omega), A.out.2.1 (i + 1 + j) (by omega)]
            simp [List.getD, List.getElem?_drop]
    · have hltz : ¬ (((done.length : Nat) : Int) < (m : Int)) := by omega
      have hfin := fin (lens_one zs 0 (by have := congrArg List.length A.out.2.2.2; rw [List.length_append, hN1] at this; omega) |>.trans (by rw [Nat.zero_add, hz]))
      clear fin
      go_wp2
      go_ret
      refine ⟨_, hfin.1, ?_, 0, rfl⟩
      have h2 := hfin.2.1
      rw [h2]
      rw [List.length_append, List.length_cons, List.length_nil] at h2
      rw [show done.length + 1 = m + 1 from h2]
      rfl
theorem count_none (b2 o2 d c : Nat) (cv : Int) (w : World) (hc2 : w.cell? ⟨b2, o2, none⟩ = some (.int .u8 cv)) :
    Calls Tryd.prog 68 #[.slice none 0 c, .slice (some ⟨b2, o2, none⟩) 1 d] w fun e w' => e = .returned (.int .i64 0) ∧ w' = w := by
  go_enter Tryd.func68, Tryd.ntmps68
  go_wp2
  rw [run_callFunc_extern Tryd.func76 (by kernel_rfl) (by kernel_rfl) (by kernel_rfl) (e := Extern.BytealgCount.count) (by kernel_rfl), Lib.run_countNil w 0 c cv]
  simp only [Result.andThen]
  rw [Oper.upon_value]
  go_wp2
  go_ret
  exact ⟨rfl, rfl⟩
set_option maxHeartbeats 8000000 in
set_option maxRecDepth 1000000 in
theorem genSplit_none (c1 g d : Nat) (w : World) (hsep : w.cell? ⟨g, 0, none⟩ = some (.int .u8 10)) :
    Calls Tryd.prog 58 #[.slice none 0 c1, .slice (some ⟨g, 0, none⟩) 1 d, .int .i64 0, .int .i64 (-1)] w fun e w' => ∃ done : List Value, Lens done (lens [] 0) ∧ e = .returned (.slice (some ⟨w.heap.size, 0, none⟩) done.length done.length) ∧ ∃ q, w' = (w.alloc (.cells done.toArray 45)).drewN q := by
  have hC := count_none g 0 d c1 10 w hsep
  have hmk : ∀ w, (Instr.makeSlice 69 (.int .i64 1) (.int .i64 1)).run Tryd.prog w = .ok (.slice (some ⟨w.heap.size, 0, none⟩) 1 1) (w.alloc (.cells #[.slice none 0 0] 45)) := fun w => by
    have h := run_make_row' (P := Tryd.prog) 69 45 (.slice none 0 0) 24 Tryd.underlying69 inf45 rfl .i64 .i64 1 (by omega) (by omega) w
    rw [show madeCells #[Value.slice none 0 0] 1 = #[.slice none 0 0] by rw [← Lib.cellsOfV_nil]; rfl] at h
    exact h
  have HC := Aside0.mk hC
  clear hC
  go_enter Tryd.func58, Tryd.ntmps58
  go_wp2_with (go_at_call 68; refine (HC.out).mono ?_; rintro e w' ⟨rfl, hw⟩; subst hw; dsimp only)
  go_wp2
  refine wp_loop_rounds 2 ?_
  rw [rounds_succ]
  go_wp2
  go_ret
  refine ⟨[.slice none 0 c1], ⟨rfl, fun j v hj => ?_⟩, rfl, 0, rfl⟩
  match j, hj with
  | 0, hj => cases hj; exact ⟨none, c1, rfl⟩
  | j + 1, hj => cases hj
end Go.Proofs.YtnkfdobcmfdhfaaDoor.P.Sc
