import Derived.Test.YtkalbdeopogbpaaDoorScFd
namespace Go.Proofs.YtkalbdeopogbpaaDoor.P.Sc
open Go.RowKit Go.Shelf Go.Sort Go.Proofs.YtkalbdeopogbpaaDoorW Go.Proofs.YtkalbdeopogbpaaDoorW.PrintWords Go.Proofs.YtkalbdeopogbpaaDoorW.PrintLast Go.Proofs.YtkalbdeopogbpaaDoorW.PrintMore
set_option linter.unusedVariables false
theorem grow_own (n : Nat) (hn : n ≤ 1000000) (w : World) :
    Calls Tryd.prog 66 #[.slice none 0 0, .int .i64 (n : Int)] w fun e w' => ∃ v, e = .returned v ∧ OwnI w' w.heap.size v [] ∧ Below w.heap.size w w' := by
  by_cases h0 : n = 0
  · subst h0
    refine Calls.mono (Any8.slices_Grow_room Tryd.growI none 0 0 0 w (Nat.le_refl _) (by omega) (by omega) (by omega)) ?_
    rintro e w' ⟨rfl, rfl⟩
    exact ⟨_, rfl, World.ownsRow_nil _ _ _ _, Below.refl _ _⟩
  · obtain ⟨i0, hi, hz0, hz1, hz2⟩ := info_parts inf3
    refine Calls.mono (Any8.slices_Grow_grow Tryd.growI i0 (.int .i64 0) hi hz0 (by omega) none 0 0 n [] w (Nat.le_refl _) (by omega) (by rw [hz2]; omega) (by omega) (by simp) (fun _ => rfl) (fun a ha => by cases ha)) ?_
    rintro e w' ⟨rfl, rfl⟩
    refine ⟨_, rfl, ⟨by simp, .inr ⟨w.heap.size, grownCap w (0 + n) 0 3, ([] : List Value).toArray ++ Builtin.zeroCells (Value.int .i64 0).cells (0 + n - 0) ++ Builtin.zeroCells (Value.int .i64 0).cells (grownCap w (0 + n) 0 3 - (0 + n)), rfl, Nat.le_refl _, World.alloc_heap_new w.drew _, Nat.zero_le _, grownCap_le_maxLen _ _ _ _ (by unfold maxLen; omega), ?_, rfl⟩⟩, ((Below.refl _ w).drew).alloc (Nat.le_refl _) _⟩
    have hge := grownCap_ge w (0 + n) 0 3
    rw [zeros_one, zeros_one]
    simp only [Nat.zero_add] at hge ⊢
    simp
    omega
def flat (L : Nat → List Int) : Nat → List Int
  | 0 => []
  | k + 1 => flat L k ++ L k
theorem OwnI.toR {w : World} {base : Nat} {v : Value} {xs : List Int} (h : OwnI w base v xs) : Kd.R (Kd.int .i64) 3 w base (fun _ => True) v xs := Kd.R_of_own h (fun _ _ => trivial)
theorem OwnI.ofR {w : World} {base : Nat} {ok : Nat → Prop} {v : Value} {xs : List Int} (h : Kd.R (Kd.int .i64) 3 w base ok v xs) : OwnI w base v xs := by
  obtain ⟨inner, ho, hr⟩ := h.2
  have : inner = xs.map (Value.int .i64) := by
    refine List.ext_getElem? fun j => ?_
    by_cases hj : j < xs.length
    · have h2 := hr.2 j _ (List.getElem?_eq_getElem hj)
      have h3 : ((inner.drop (j * 1)).take 1) = [Value.int .i64 xs[j]] := h2
      have h4 := congrArg (fun l => l[0]?) h3
      simp at h4
      rw [h4]; simp [hj]
    · have hl : inner.length = xs.length * 1 := hr.1
      rw [List.getElem?_eq_none (by omega), List.getElem?_eq_none (by simp; omega)]
  subst this
  exact ho
theorem flat_mono (L : Nat → List Int) {a b : Nat} (h : a ≤ b) : (flat L a).length ≤ (flat L b).length := by
  induction h with
  | refl => exact Nat.le_refl _
  | step _ ih => exact Nat.le_trans ih (by simp [flat])
set_option maxHeartbeats 1000000 in
set_option maxRecDepth 100000 in
theorem concat_calls (b n : Nat) (L : Nat → List Int) (AA : Nat → Option Addr) (cc : Nat → Nat) (w : World) (hn : n ≤ 1000) (hbig : (flat L n).length ≤ 1000000)
    (hcell : ∀ k, k < n → w.cell? ⟨b, k, none⟩ = some (.slice (AA k) (L k).length (cc k))) (hread : ∀ k, k < n → Kd.C (Kd.int .i64) w (AA k) (L k).length (L k)) :
    Calls Tryd.prog 54 #[.slice (some ⟨b, 0, none⟩) n n] w fun e w' => ∃ v, e = .returned v ∧ OwnI w' w.heap.size v (flat L n) ∧ Below w.heap.size w w' := by
  have HC := Aside0.mk hcell
  have HR := Aside0.mk hread
  have HG := Aside0.mk hbig
  clear hcell hread hbig
  go_enter Tryd.func54, Tryd.ntmps54
  go_wp2
  go_loop [3, 11] (fun v3 v11 => ∃ k : Nat, k ≤ n ∧ v11 = .int .i64 (k : Int) ∧ v3 = .int .i64 ((flat L k).length : Int)) (fun _ v11 => n - (intOf v11).toNat)
  case atStart => exact ⟨0, Nat.zero_le _, rfl, rfl⟩
  case round =>
    obtain ⟨k, hk, rfl, rfl⟩ := hrel
    by_cases hlt : k < n
    · have hc := HC.out k hlt
      have hlt' : (k : Int) < (n : Int) := by omega
      have hm : (flat L (k + 1)).length ≤ 1000000 := Nat.le_trans (flat_mono L hlt) HG.out
      have HM := Aside0.mk (show (flat L (k + 1)).length = (flat L k).length + (L k).length from by simp [flat])
      have hm2 : ((flat L k).length : Int) + ((L k).length : Int) ≤ 1000000 := by have := HM.out; omega
      have hm3 : ((flat L k).length : Int) + ((L k).length : Int) = ((flat L (k + 1)).length : Int) := by have := HM.out; omega
      obtain ⟨m, hmm⟩ : ∃ m : Nat, (flat L k).length = m := ⟨_, rfl⟩
      obtain ⟨q, hq⟩ : ∃ q : Nat, (L k).length = q := ⟨_, rfl⟩
      rw [hmm, hq] at hm2
      rw [hq] at hc
      have HMM := Aside0.mk hmm
      have HQ := Aside0.mk hq
      have HS := Aside0.mk hlt
      rw [hmm]
      clear hm3 hm hmm hq hlt
      go_wp2
      go_round
      case rel => exact ⟨k + 1, by have := HS.out; omega, by go_num, by rw [show (flat L (k + 1)).length = m + q from by rw [HM.out, HMM.out, HQ.out]]; go_num⟩
      case measure => simp [intOf]; have := HS.out; omega
    · obtain rfl : k = n := by omega
      obtain ⟨m, hmm⟩ : ∃ m : Nat, (flat L k).length = m := ⟨_, rfl⟩
      rw [hmm]
      have hm1 : m ≤ 1000000 := by rw [← hmm]; exact HG.out
      clear hmm
      go_wp2_with (go_at_call 66; refine (grow_own m hm1 _).mono ?_; rintro e w2 ⟨v2, rfl, ho, hb⟩; have HO := Aside0.mk (OwnI.toR ho); have HB := Aside0.mk hb; clear ho hb)
      go_loopw [6, 27] (fun v6 v27 wr => ∃ j : Nat, j ≤ k ∧ v27 = .int .i64 (j : Int) ∧ Aside0 (Kd.R (Kd.int .i64) 3 wr w.heap.size (fun _ => True) v6 (flat L j)) ∧ Aside0 (Below w.heap.size w wr)) (fun _ v27 _ => k - (intOf v27).toNat)
      case atStart => exact ⟨0, Nat.zero_le _, rfl, HO, HB⟩
      case round =>
        clear HO HB
        obtain ⟨j, hj, rfl, HO, HB⟩ := hrel
        by_cases hlt : j < k
        · have hc := HC.out j hlt
          have hlt' : (j : Int) < (k : Int) := by omega
          have HM := Aside0.mk (show (flat L (j + 1)).length ≤ 1000000 from Nat.le_trans (flat_mono L hlt) HG.out)
          have HN := Aside0.mk (show (flat L (j + 1)).length = (flat L j).length + (L j).length from by simp [flat])
          replace hc := (HB.out.cell (World.block_lt_of_cell? w _ hc)).trans hc
          have HRj := Aside0.mk (Kd.C_below (HR.out j hlt) HB.out)
          obtain ⟨A6, c6, rfl, _⟩ := Kd.R_reads HO.out
          have HS := Aside0.mk hlt
          clear hlt
          go_wp2_with (at_builtin; refine Kd.R_append_rows (Kd.int .i64) (w0 := w) w.heap.size rfl (.tmp 31) (.tmp 32) 22 3 (.int .i64 0) 8 rfl Tryd.underlying22 inf3 rfl (by decide) (by omega) _ _ (L j) (AA j) (L j).length (cc j) (fun _ => True) (fun _ => False) rfl rfl HO.out HRj.out (fun _ _ h => h) (fun _ hk => hk.elim) (fun _ _ => trivial) HB.out HB.out.size (by have := HM.out; have := HN.out; omega) ?_; intro v2 w2 ho2 hb2 hg2 hat2; have HO2 := Aside0.mk ho2; have HB2 := Aside0.mk hb2; clear ho2 hb2 hg2 hat2)
          go_roundw
          case rel => exact ⟨j + 1, by have := HS.out; omega, by go_num, HO2, HB2⟩
          case measure => simp [intOf]; have := HS.out; omega
        · obtain rfl : j = k := by omega
          go_wp2
          go_ret
          exact ⟨_, rfl, OwnI.ofR HO.out, HB.out⟩
end Go.Proofs.YtkalbdeopogbpaaDoor.P.Sc
