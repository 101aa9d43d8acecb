import Derived.Test.YtkalbdeopogbpaaGreatDoorKX19
import Derived.Laws.MakeOwn
namespace Go.Proofs.YtkalbdeopogbpaaGreatDoor.P.Sc
open Go.RowKit Go.Shelf Go.Sort Go.Proofs.YtkalbdeopogbpaaGreatDoorW Go.Proofs.YtkalbdeopogbpaaGreatDoorW.PrintWords Go.Proofs.YtkalbdeopogbpaaGreatDoorW.PrintLast Go.Proofs.YtkalbdeopogbpaaGreatDoorW.PrintMore
set_option linter.unusedVariables false
theorem bsI_eq (x : Int) (hx : 0 ≤ x ∧ x < 65536) : bsI x = [x / 256, x % 256] := by
  unfold bsI
  rw [Int.tdiv_eq_ediv_of_nonneg hx.1, Int.tmod_eq_emod_of_nonneg hx.1, w64 (by omega) (by omega), show x / 256 % 256 = x / 256 by omega, show x % 256 % 256 = x % 256 by omega]
theorem flatI_len (l : List Int) : (l.flatMap bsI).length = 2 * l.length := by
  induction l with
  | nil => rfl
  | cons y r ih => rw [List.flatMap_cons, List.length_append, ih]; simp [bsI]; omega
theorem cells2 (W : World) (a b : Value) (t : TypeId) : ∀ (j : Nat) (u : Value), [a, b][j]? = some u → (W.alloc (.cells #[a, b] t)).cell? ((⟨W.heap.size, 0, none⟩ : Addr).add j) = some u := by
  intro j u hj
  have hb := World.alloc_heap_new W (.cells #[a, b] t)
  rw [Addr.add_lit, Nat.zero_add, Lib.cell_of_heap hb, ← Array.getElem?_toList]
  exact hj
theorem inf5 : (Tryz.prog.info? 5).map (fun i => (i.zero, i.size, i.bytes)) = some (some (.int .u8 0), 1, 1) := by kernel_rfl
set_option maxHeartbeats 1000000 in
set_option maxRecDepth 100000 in
theorem write_calls (l : List Int) (A : Option Addr) (c : Nat) (w : World) (hl : l.length ≤ 1000000) (hr : Kd.C (Kd.int .i64) w A l.length l) (hI : InS l) :
    Calls Tryz.prog 56 #[.slice A l.length c] w fun e w' => e = .returned (.string (ofP l)) ∧ Below w.heap.size w w' := by
  have HR := Aside0.mk hr
  have HI := Aside0.mk hI
  clear hr hI
  obtain ⟨i0, hi, hz0, hz1, hz2⟩ := info_parts inf5
  obtain ⟨w1, hmk, hown, hg1⟩ := run_make_own (P := Tryz.prog) w w.heap.size 50 5 i0 (.int .u8 0) 1 Tryz.underlying50 hi hz0 hz1 .i64 .i64 (2 * l.length) (by rw [hz2]; omega) (by unfold maxLen; omega) (Nat.le_refl _)
  have hmk2 : (Instr.makeSlice 50 (.int .i64 0) (.int .i64 (2 * (l.length : Int)))).run Tryz.prog w = .ok (.slice (some ⟨w.heap.size, 0, none⟩) 0 (2 * l.length)) w1 := by
    have e : (2 * (l.length : Int)) = ((2 * l.length : Nat) : Int) := by omega
    rw [e]; exact hmk
  clear hmk
  have HO := Aside0.mk hown
  have HB := Aside0.mk ((Below.refl w.heap.size w).grown hg1 (Nat.le_refl _) (fun k hk => by cases hk))
  clear hown hg1
  go_enter Tryz.func56, Tryz.ntmps56
  go_wp2
  go_loopw [3, 12] (fun v3 v12 wr => ∃ k : Nat, k ≤ l.length ∧ v12 = .int .i64 (k : Int) ∧ Aside0 (wr.ownsRow w.heap.size 5 1 v3 ((l.take k).flatMap bsI).length (nums .u8 ((l.take k).flatMap bsI))) ∧ Aside0 (Below w.heap.size w wr))
    (fun _ v12 _ => l.length - (intOf v12).toNat)
  case atStart => exact ⟨0, Nat.zero_le _, rfl, HO, HB⟩
  case round =>
    clear HO HB hmk2
    obtain ⟨k, hk, rfl, HO, HB⟩ := hrel
    by_cases hlt : k < l.length
    · obtain ⟨ad, rfl, hx0⟩ := Kd.at_int HR.out (k : Int) (by omega) (by omega)
      have hrd : PrintWords.rd l (k : Int) = l[k] := by simp [PrintWords.rd, hlt]
      rw [hrd] at hx0
      simp only [Int.toNat_natCast] at hx0
      replace hx0 := (HB.out.cell (World.block_lt_of_cell? w _ hx0)).trans hx0
      have hxr := HI.out l[k] (List.getElem_mem hlt)
      have HX := Aside0.mk (show l.take (k + 1) = l.take k ++ [l[k]] from by rw [List.take_succ_eq_append_getElem hlt])
      clear hrd
      generalize l[k] = x at hx0 hxr HX
      have hlt' : (k : Int) < (l.length : Int) := by omega
      have HS := Aside0.mk hlt
      obtain ⟨v3s, n3, c3, rfl⟩ : ∃ A3 n3 c3, u3 = Value.slice A3 n3 c3 := by obtain ⟨A3, c3, e⟩ := own_slice HO.out; exact ⟨A3, _, c3, e⟩
      have hln : ((l.take k).flatMap bsI).length ≤ 2000000 := by
        rw [flatI_len, List.length_take]; omega
      have HL := Aside0.mk hln
      clear hln
      go_wp2_with (at_builtin; refine wpList_append_own _ rfl _ _ 50 rfl w.heap.size 5 i0 (.int .u8 0) 1 1 Tryz.underlying50 hi hz0 hz1 hz2 rfl (by decide) _ _ _ rfl (HO.out.alloc _) ⟨wr.heap.size, 0, none⟩ 2 2 [.int .u8 (x / 256), .int .u8 (x % 256)] rfl rfl (cells2 _ _ _ _) (by intro u hu; simp at hu; rcases hu with rfl | rfl <;> rfl) (by have := HL.out; unfold maxLen; omega) (by have := HL.out; omega) (by have := HB.out.size; simp; omega) ?_; intro v' w2 hown2 hg2 _; have HO2 := Aside0.mk hown2; have HB2 := Aside0.mk ((HB.out.alloc HB.out.size (.cells #[.int .u8 (x / 256), .int .u8 (x % 256)] 5)).grown hg2 (by have := HB.out.size; simp; omega) (fun j hj => (World.ownsRow.lt HO.out j hj).1)); clear hown2 hg2)
      go_roundw
      case rel =>
        refine ⟨k + 1, by have := HS.out; omega, by go_num, ⟨?_⟩, HB2⟩
        have h2 := HO2.out
        have e1 : (l.take (k + 1)).flatMap bsI = (l.take k).flatMap bsI ++ [x / 256, x % 256] := by
          rw [HX.out, List.flatMap_append]; simp [bsI_eq x hxr]
        rw [e1, nums_append, List.length_append]
        exact h2
      case measure => simp [intOf]; have := HS.out; omega
    · obtain rfl : k = l.length := by omega
      have hcv := own_string (P := Tryz.prog) (src := 50) (dst := 9) Tryz.underlying50 Tryz.underlying5 Tryz.underlying9 HO.out
      rw [List.take_length] at hcv
      obtain ⟨v3s, n3, c3, rfl⟩ : ∃ A3 n3 c3, u3 = Value.slice A3 n3 c3 := by obtain ⟨A3, c3, e⟩ := own_slice HO.out; exact ⟨A3, _, c3, e⟩
      have HW := Aside0.mk (strOfNums_flat l HI.out)
      go_wp2
      go_ret
      rw [HW.out]
      exact ⟨rfl, HB.out⟩
end Go.Proofs.YtkalbdeopogbpaaGreatDoor.P.Sc
