import Derived.Test.YtdjkdlbokepoaaaGreatDoorKA22
namespace Go.Proofs.YtdjkdlbokepoaaaGreatDoor.P.Ft
open Go.RowKit Go.Extern.Stop Go.Stop Go.Extern
set_option linter.unusedSimpArgs false
set_option linter.unusedVariables false
theorem as2_hit (e t va : Addr) (old : Value) (w : World) (hva : w.cell? va = some (.pointer (some t))) (ht0 : w.cell? t = some old) (hf0 : w.frozen? t = false) :
  Calls Tryz.prog 97 #[.iface 125 (.pointer (some e)), .iface 93 (.pointer (some t)), .agg #[.pointer (some ⟨9, 93, none⟩), .pointer (some va), .int .u64 150], .iface 160 (.agg #[.pointer (some ⟨9, 88, none⟩)])] w fun ev w' => ev = .returned (.bool true) ∧ w' = (((w.alloc (.cells #[.pointer (some ⟨9, 93, none⟩), .pointer (some va), .int .u64 150] 131)).alloc (.cells #[.pointer (some e)] 125)).setCell t (.iface 125 (.pointer (some e)))) := by
 have h94 := @run_callFunc_extern Tryz.prog 94 _ (fun args => ReflectliteValue.unpack (args.getD 0 (.tuple #[]))) Tryz.func94 (by kernel_rfl) (by kernel_rfl) (by kernel_rfl) (by kernel_rfl)
 have h98 := @run_callFunc_extern Tryz.prog 98 _ ReflectliteType.typeOf Tryz.func98 (by kernel_rfl) (by kernel_rfl) (by kernel_rfl) (by kernel_rfl)
 have h175 := @run_callFunc_extern Tryz.prog 175 _ (ReflectliteType.relation "AssignableTo" ReflectliteType.assignableTo) Tryz.func175 (by kernel_rfl) (by kernel_rfl) (by kernel_rfl) (by kernel_rfl)
 have h121 := @run_callFunc_extern Tryz.prog 121 _ (ReflectliteValue.method (ReflectliteValue.valueError "reflectlite.Value.Elem" 0) ReflectliteValue.elem) Tryz.func121 (by kernel_rfl) (by kernel_rfl) (by kernel_rfl) (by kernel_rfl)
 have h122 := @run_callFunc_extern Tryz.prog 122 _ ReflectliteValue.set Tryz.func122 (by kernel_rfl) (by kernel_rfl) (by kernel_rfl) (by kernel_rfl)
 have tO := typeOf125
 have mA := methodAssignableTo
 have a125 := assignable125
 have v125 := valueOf125
 have htl : t.block < w.heap.size := World.block_lt_of_cell? w t ht0
 have hvl : va.block < w.heap.size := World.block_lt_of_cell? w va hva
 have el := elemV93 va t (w.alloc (.cells #[.pointer (some ⟨9, 93, none⟩), .pointer (some va), .int .u64 150] 131)) (by rw [World.cell?_alloc_lt _ _ va hvl]; exact hva)
 have st := set88 t ⟨w.heap.size + 1, 0, none⟩ e old ((w.alloc (.cells #[.pointer (some ⟨9, 93, none⟩), .pointer (some va), .int .u64 150] 131)).alloc (.cells #[.pointer (some e)] 125))
  (by rw [World.cell?_alloc_at _ _ _ _ (by simp)]; rfl)
  (by rw [World.cell?_alloc_lt _ _ t (by simp; omega), World.cell?_alloc_lt _ _ t htl]; exact ht0)
  (by rw [World.frozen?_alloc_old _ _ t (by simp; omega), World.frozen?_alloc_old _ _ t (Nat.ne_of_lt htl)]; exact hf0)
 go_enter Tryz.func97, Tryz.ntmps97
 go_wp2
 refine wp_loop_rounds 1 ?_
 rw [rounds_succ]
 go_wp2
 go_ret
 exact ⟨rfl, rfl⟩
end Go.Proofs.YtdjkdlbokepoaaaGreatDoor.P.Ft
