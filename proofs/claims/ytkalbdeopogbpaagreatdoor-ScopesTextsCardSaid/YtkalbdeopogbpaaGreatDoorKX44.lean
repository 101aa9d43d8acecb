import Derived.Test.YtkalbdeopogbpaaGreatDoorKX38
import Derived.Test.YtkalbdeopogbpaaGreatDoorKX32
import Derived.Test.YtkalbdeopogbpaaGreatDoorKX35
import Derived.Test.YtkalbdeopogbpaaGreatDoorKX33
import Derived.Test.YtkalbdeopogbpaaGreatDoorKX34
namespace Go.Proofs.YtkalbdeopogbpaaGreatDoor.P.Wq
open Go.RowKit Go.Proofs.YtkalbdeopogbpaaGreatDoorW.PrintWords Go.Proofs.YtkalbdeopogbpaaGreatDoorW.PrintLast
set_option linter.unusedVariables false
set_option linter.unusedSimpArgs false
set_option maxRecDepth 20000
theorem w64 {n : Int} (h : -9223372036854775808 ≤ n) (h' : n ≤ 9223372036854775807) : wrap64 n = n := by unfold wrap64; omega
/-- A digit of base 16. -/
def hx (n : Int) : Int := if n < 10 then 48 + n else 87 + n
/-- A byte's form between quotes. -/
def E (c : Int) : List Int := if 32 ≤ c ∧ c ≤ 126 ∧ c ≠ 34 ∧ c ≠ 92 then [c] else if c = 34 then [92, 34] else if c = 92 then [92, 92] else if c = 10 then [92, 110] else if c = 13 then [92, 114] else if c = 9 then [92, 116] else [92, 120, hx (c / 16), hx (c % 16)]
theorem bt_get (s : ByteArray) (i : Nat) (h : i < s.size) : ((s[i]'h).toNat : Int) = bt s i := bt_at s i h
theorem bt_ext (a : ByteArray) (i j t : Nat) (hij : i + t < j) (hj : j ≤ a.size) : bt (a.extract i j) t = bt a ((i + t : Nat) : Int) := by
  have h1 : t < (a.extract i j).size := by rw [ByteArray.size_extract]; omega
  have h2 : i + t < a.size := by omega
  rw [← bt_get _ t h1, ← bt_get a (i + t) h2]
  congr 2
  exact ByteArray.getElem_extract ..
theorem bt_out (a : ByteArray) (t : Int) (h : (a.size : Int) ≤ t) : bt a t = 0 := by unfold bt; rw [dif_neg (by omega)]
theorem bt_tail (a : ByteArray) (i t : Nat) : bt (a.extract i a.size) t = bt a ((i + t : Nat) : Int) := by
  by_cases h : i + t < a.size
  · exact bt_ext a i a.size t h (Nat.le_refl _)
  · rw [bt_out a _ (by omega), bt_out]
    rw [ByteArray.size_extract]
    omega
theorem toList_nil (a : ByteArray) : (a.toList = ([] : List UInt8)) ↔ a.size = 0 := by
  rw [Lib.toList_data, Lib.size_eq]; exact List.length_eq_zero_iff.symm
theorem str_size (l : List Int) : (strOfNums l).size = l.length := by unfold strOfNums; rw [Lib.size_mk, List.length_map]
end Go.Proofs.YtkalbdeopogbpaaGreatDoor.P.Wq
