import Derived.Test.YtciaocdpojnmcaaDoorKB20
import Derived.Test.YtciaocdpojnmcaaDoorKB1
import Derived.Test.YtciaocdpojnmcaaDoorKB19
import Derived.Lib.SplitLaws
namespace Go.Proofs.YtciaocdpojnmcaaDoor.P.Wd
open Go.RowKit Go.Shelf Go.Proofs.YtciaocdpojnmcaaDoorW.PrintWords Go.Proofs.YtciaocdpojnmcaaDoorW.PrintLast Go.Proofs.YtciaocdpojnmcaaDoorW.PrintMore
set_option linter.unusedVariables false
set_option linter.unusedSimpArgs false
theorem cells_s {l : List ByteArray} {w : World} {A : Option Addr} (h : Kd.C Kd.string w A l.length l) (h0 : 0 < l.length) : ∃ bb off, A = some ⟨bb, off, none⟩ ∧ ∀ (j : Nat) x, l[j]? = some x → w.cell? ⟨bb, off + j, none⟩ = some (.string x) := by
  obtain ⟨ad, rfl, _⟩ := Kd.at_string h (0 : Int) (Int.le_refl _) (by omega)
  obtain ⟨bb, off, sp⟩ := ad
  have hs : sp = none := by
    obtain ⟨ad', e7, h7⟩ := Kd.at_string h (0 : Int) (Int.le_refl _) (by omega)
    cases e7
    have h8 := cell_spot h7
    simpa [Addr.add] using h8
  subst hs
  refine ⟨bb, off, rfl, fun j x hj => ?_⟩
  have hjl := (List.getElem?_eq_some_iff.1 hj).1
  obtain ⟨ad', e7, h7⟩ := Kd.at_string h (j : Int) (by omega) (by omega)
  cases e7
  have hrd : rdOf ByteArray.empty l (j : Int) = x := by
    simp [rdOf, List.getD_eq_getElem?_getD, hj]
  rw [hrd, Addr.add_lit] at h7
  simpa using h7
theorem join_calls (A : Option Addr) (c : Nat) (xs : List ByteArray) (sep : ByteArray) (w : World) (hr : Kd.C Kd.string w A xs.length xs) (hc : xs.length ≤ c) (hN : xs.length ≤ 140737488355328) (hlen : (Lib.join (xs.map (·.data.toList)) sep.data.toList).length ≤ 140737488355328) :
    Calls Tryd.prog 43 #[.slice A xs.length c, .string sep] w fun e w' => e = .returned (.string ⟨(Lib.join (xs.map (·.data.toList)) sep.data.toList).toArray⟩) ∧ Below w.heap.size w w' := by
  cases xs with
  | nil =>
    refine (Tryd.strings_Join_none A c sep w).mono ?_
    rintro e w' ⟨rfl, rfl⟩
    exact ⟨rfl, Below.refl _ _⟩
  | cons x xs =>
    obtain ⟨bb, off, rfl, hcells⟩ := cells_s hr (by simp)
    exact Tryd.strings_Join bb off c (x :: xs) sep w hcells (World.block_lt_of_cell? w _ (hcells 0 x rfl)) hN hc hlen
end Go.Proofs.YtciaocdpojnmcaaDoor.P.Wd
