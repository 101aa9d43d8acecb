import Derived.Test.YtciaocdpojnmcaaGreatDoorKI20
import Derived.Test.YtciaocdpojnmcaaGreatDoorKI1
import Derived.Test.YtciaocdpojnmcaaGreatDoorKI19
import Derived.Lib.SplitLaws
namespace Go.Proofs.YtciaocdpojnmcaaGreatDoor.P.Wd
open Go.RowKit Go.Shelf Go.Proofs.YtciaocdpojnmcaaGreatDoorW.PrintWords Go.Proofs.YtciaocdpojnmcaaGreatDoorW.PrintLast Go.Proofs.YtciaocdpojnmcaaGreatDoorW.PrintMore
set_option linter.unusedVariables false
set_option linter.unusedSimpArgs false
theorem cells_s {l : List ByteArray} {w : World} {A : Option Addr} (h : Kd.C Kd.string w A l.length l) (h0 : 0 < l.length) : ∃ bb off, A = some ⟨bb, off, none⟩ ∧ ∀ (j : Nat) x, l[j]? = some x → w.cell? ⟨bb, off + j, none⟩ = some (.string x) := by
  obtain ⟨ad, rfl, _⟩ := Kd.at_string h (0 : Int) (Int.le_refl _) (by omega)
  obtain ⟨bb, off, sp⟩ := ad
  have hs : sp = none := by
    obtain ⟨ad', e7, h7⟩ := Kd.at_string h (0 : Int) (Int.le_refl _) (by omega)
    cases e7
    have h8 := cell_spot h7
    simpa [Addr.add] using h8
  subst hs
  refine ⟨bb, off, rfl, fun j x hj => ?_⟩
  have hjl := (List.getElem?_eq_some_iff.1 hj).1
  obtain ⟨ad', e7, h7⟩ := Kd.at_string h (j : Int) (by omega) (by omega)
  cases e7
  have hrd : rdOf ByteArray.empty l (j : Int) = x := by
    simp [rdOf, List.getD_eq_getElem?_getD, hj]
  rw [hrd, Addr.add_lit] at h7
  simpa using h7
theorem join_calls (A : Option Addr) (c : Nat) (xs : List ByteArray) (sep : ByteArray) (w : World) (hr : Kd.C Kd.string w A xs.length xs) (hc : xs.length ≤ c) (hN : xs.length ≤ 140737488355328) (hlen : (Lib.join (xs.map (·.data.toList)) sep.data.toList).length ≤ 140737488355328) :
    Calls Tryz.prog 23 #[.slice A xs.length c, .string sep] w fun e w' => e = .returned (.string ⟨(Lib.join (xs.map (·.data.toList)) sep.data.toList).toArray⟩) ∧ Below w.heap.size w w' := by
  cases xs with
  | nil =>
    refine (Tryz.strings_Join_none A c sep w).mono ?_
    rintro e w' ⟨rfl, rfl⟩
    exact ⟨rfl, Below.refl _ _⟩
  | cons x xs =>
    obtain ⟨bb, off, rfl, hcells⟩ := cells_s hr (by simp)
    exact Tryz.strings_Join bb off c (x :: xs) sep w hcells (World.block_lt_of_cell? w _ (hcells 0 x rfl)) hN hc hlen
theorem splits_calls (s sep : ByteArray) (m : Int) (w : World) (hs : s.size < 4294967281) (hm : w.cell? ⟨1, 0, none⟩ = some (.int .i64 m)) (h1 : 1 ≤ sep.size) :
    Calls Tryz.prog 32 #[.string s, .string sep] w fun e w' => ∃ v0_ : Value, e = .returned v0_ ∧ Kd.R Kd.string 9 w' w.heap.size (fun _ => True) v0_ (Lib.splitB sep 0 (Lib.countB s sep) s) ∧ Below w.heap.size w w' := by
  refine (Tryz.strings_Split s sep m w hs hm h1).mono ?_
  rintro e w' ⟨rfl, rfl⟩
  have hl := Lib.splitB_all sep h1 0 _ s rfl
  have hle : (Lib.splitB sep 0 (Lib.countB s sep) s).length ≤ maxLen := by
    have := Lib.countB_le sep h1 s.size s (Nat.le_refl _)
    rw [hl]; unfold maxLen; omega
  have hh : (w.alloc (.cells ((Lib.splitB sep 0 (Lib.countB s sep) s).map Value.string).toArray 9)).heap[w.heap.size]? = some (.cells ((Lib.splitB sep 0 (Lib.countB s sep) s).map Value.string).toArray 9) := heap_alloc_new w _
  rw [← hl]
  refine ⟨_, rfl, Kd.R_of_own (enc := Value.string) (h1 := fun _ => rfl) ⟨by simp [encs], .inr ⟨w.heap.size, _, _, rfl, Nat.le_refl _, hh, Nat.le_refl _, hle, by simp, ?_⟩⟩ (fun _ _ => trivial), (Below.refl _ w).alloc (Nat.le_refl _) _⟩
  simp [encs, List.take_of_length_le]
end Go.Proofs.YtciaocdpojnmcaaGreatDoor.P.Wd
