import Derived.Test.YtkalbdeopogbpaaGreatDoorKX30
import Derived.RangeFuncBox
namespace Go.Proofs.YtkalbdeopogbpaaGreatDoor.P.Wd
open Go.RowKit Go.Shelf Go.Proofs.YtkalbdeopogbpaaGreatDoorW.PrintWords Go.Proofs.YtkalbdeopogbpaaGreatDoorW.PrintLast Go.Proofs.YtkalbdeopogbpaaGreatDoorW.PrintMore
set_option linter.unusedVariables false
set_option linter.unusedSimpArgs false
theorem hv78 : ∀ w, (zeroValue 112).run Tryz.prog w = .ok (.agg (Array.replicate 256 (.bool false))) w := fun w => by kernel_rfl
set_option maxHeartbeats 1000000 in
set_option maxRecDepth 100000 in
theorem trim_calls (s c : ByteArray) (hs : s.size ≤ 9223372036854775807) (h2 : 2 ≤ c.size) (hc : c.size < 4294967281) (ha : ∀ (j : Nat) b, c.data.toList[j]? = some b → b.toNat < 128) (w : World) :
    Calls Tryz.prog 67 #[.string s, .string c] w fun e w' => e = .returned (.string ⟨(trimL c.data.toList (trimR c.data.toList s.data.toList)).toArray⟩) ∧ Below w.heap.size w w' := by
  have e2 : c.toList.isEmpty = false := by
    rw [List.isEmpty_eq_false_iff]; intro h
    rw [Lib.toList_data] at h
    have := congrArg List.length h
    rw [← Lib.size_eq, List.length_nil] at this; omega
  have e3 : ((c.size : Int) == 1) = false := beq_eq_false_iff_ne.mpr (by omega)
  by_cases h0 : s.toList = []
  · have hd : s.data.toList = [] := by rw [← Lib.toList_data]; exact h0
    have hs0 : s = ⟨#[]⟩ := by rw [← Lib.mk_data s, hd]
    subst hs0
    clear h0 hd
    go_enter Tryz.func67, Tryz.ntmps67
    go_wp2
    go_ret
    exact ⟨rfl, Below.refl _ _⟩
  · have e1 : s.toList.isEmpty = false := by rw [List.isEmpty_eq_false_iff]; exact h0
    have hsz := Lib.setCells_size c.data.toList
    have HT := Aside0.mk (fun x : UInt8 => Lib.setCells_at c.data.toList x)
    have hst := run_storeCells_new (P := Tryz.prog) (w.alloc (.cells (Lib.setCells c.data.toList) 112)) 112 Tryz.zeroCells112 (Lib.setCells c.data.toList) (by rw [hsz]; kernel_rfl) (by rw [hsz]; kernel_rfl) (Lib.setCells_one _)
    simp only [World.size_alloc] at hst
    have HB : Aside0 (HasSet ((w.alloc (.cells (Lib.setCells c.data.toList) 112)).alloc (.cells (Lib.setCells c.data.toList) 112)) (w.heap.size + 1) c.data.toList) := ⟨fun x => by
      have h := World.alloc_heap_new (w.alloc (.cells (Lib.setCells c.data.toList) 112)) (.cells (Lib.setCells c.data.toList) 112)
      rw [World.size_alloc] at h
      rw [Lib.cell_of_heap h]
      exact HT.out x⟩
    have HBl := Aside0.mk (((Below.refl w.heap.size w).alloc (Nat.le_refl _) (.cells (Lib.setCells c.data.toList) 112)).alloc (by simp) (.cells (Lib.setCells c.data.toList) 112))
    go_enter Tryz.func67, Tryz.ntmps67
    go_wp2_with (first
      | (go_at_call 97; refine (Tryz.strings_makeASCIISet hv78 c _ hc ha).mono ?_; rintro e w2 ⟨rfl, rfl⟩)
      | (go_at_call 99; refine (trimRight_calls s hs (w.heap.size + 1) c.data.toList _ HB.out).mono ?_; rintro e w2 ⟨rfl, rfl⟩)
      | (go_at_call 98; refine (trimLeft_calls _ (w.heap.size + 1) c.data.toList _ HB.out).mono ?_; rintro e w2 ⟨rfl, rfl⟩))
    go_ret
    exact ⟨rfl, HBl.out⟩
end Go.Proofs.YtkalbdeopogbpaaGreatDoor.P.Wd
