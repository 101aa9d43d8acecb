import Derived.Test.YtciaocdpojnmcaaDoorKL38
import Derived.Test.YtciaocdpojnmcaaDoorKL33
namespace Go.Proofs.YtciaocdpojnmcaaDoor.P
open Go.RowKit Go.Proofs.YtciaocdpojnmcaaDoorW.PrintWords Go.Proofs.YtciaocdpojnmcaaDoorW.PrintLast
set_option linter.unusedVariables false
set_option linter.unusedSimpArgs false
set_option maxRecDepth 20000
theorem bt_byte (s : ByteArray) (j : Nat) (h : j < s.size) (c : UInt8) : s.data.toList[j]? = some c ↔ bt s j = (c.toNat : Int) := by
  have hl : j < s.data.toList.length := by rw [← Lib.size_eq]; exact h
  rw [List.getElem?_eq_getElem hl, ← bt_get s j h]
  have : s.data.toList[j] = s[j] := rfl
  rw [this]
  constructor
  · intro e; rw [Option.some.inj e]
  · intro e
    have : (s[j]).toNat = c.toNat := by exact_mod_cast e
    rw [UInt8.toNat_inj.1 this]
end Go.Proofs.YtciaocdpojnmcaaDoor.P
