import Derived.Test.YtkalbdeopogbpaaGreatDoorKX29
import Derived.Test.YtkalbdeopogbpaaGreatDoorKX1
import Derived.Test.YtkalbdeopogbpaaGreatDoorKX28
import Derived.Lib.SplitLaws
namespace Go.Proofs.YtkalbdeopogbpaaGreatDoor.P.Wd
open Go.RowKit Go.Shelf Go.Proofs.YtkalbdeopogbpaaGreatDoorW.PrintWords Go.Proofs.YtkalbdeopogbpaaGreatDoorW.PrintLast Go.Proofs.YtkalbdeopogbpaaGreatDoorW.PrintMore
set_option linter.unusedVariables false
set_option linter.unusedSimpArgs false
theorem splits_calls (s sep : ByteArray) (m : Int) (w : World) (hs : s.size < 4294967281) (hm : w.cell? ⟨0, 0, none⟩ = some (.int .i64 m)) (h1 : 1 ≤ sep.size) :
    Calls Tryz.prog 41 #[.string s, .string sep] w fun e w' => ∃ v0_ : Value, e = .returned v0_ ∧ Kd.R Kd.string 9 w' w.heap.size (fun _ => True) v0_ (Lib.splitB sep 0 (Lib.countB s sep) s) ∧ Below w.heap.size w w' := by
  refine (Tryz.strings_Split s sep m w hs hm h1).mono ?_
  rintro e w' ⟨rfl, rfl⟩
  have hl := Lib.splitB_all sep h1 0 _ s rfl
  have hle : (Lib.splitB sep 0 (Lib.countB s sep) s).length ≤ maxLen := by
    have := Lib.countB_le sep h1 s.size s (Nat.le_refl _)
    rw [hl]; unfold maxLen; omega
  have hh : (w.alloc (.cells ((Lib.splitB sep 0 (Lib.countB s sep) s).map Value.string).toArray 9)).heap[w.heap.size]? = some (.cells ((Lib.splitB sep 0 (Lib.countB s sep) s).map Value.string).toArray 9) := heap_alloc_new w _
  rw [← hl]
  refine ⟨_, rfl, Kd.R_of_own (enc := Value.string) (h1 := fun _ => rfl) ⟨by simp [encs], .inr ⟨w.heap.size, _, _, rfl, Nat.le_refl _, hh, Nat.le_refl _, hle, by simp, ?_⟩⟩ (fun _ _ => trivial), (Below.refl _ w).alloc (Nat.le_refl _) _⟩
  simp [encs, List.take_of_length_le]
end Go.Proofs.YtkalbdeopogbpaaGreatDoor.P.Wd
