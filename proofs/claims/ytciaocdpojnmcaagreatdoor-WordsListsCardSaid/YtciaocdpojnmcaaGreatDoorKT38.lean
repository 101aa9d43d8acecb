import Derived.Test.YtciaocdpojnmcaaGreatDoorKT34
namespace Go.Proofs.YtciaocdpojnmcaaGreatDoor.P
open Go.RowKit Go.Proofs.YtciaocdpojnmcaaGreatDoorW.PrintWords Go.Proofs.YtciaocdpojnmcaaGreatDoorW.PrintLast
set_option linter.unusedVariables false
set_option linter.unusedSimpArgs false
set_option maxRecDepth 20000
theorem shown60 : mummerlaw01_shown.f 60 = some true := by decide +kernel
theorem shown_f (k : Nat) (h : 60 ≤ k) : mummerlaw01_shown.f k = some true := by
  induction h with
  | refl => exact shown60
  | step _ ih => exact mummerlaw01_shown.mono _ _ ih
theorem w64 {n : Int} (h : -9223372036854775808 ≤ n) (h' : n ≤ 9223372036854775807) : wrap64 n = n := by unfold wrap64; omega
/-- A digit of base 16. -/
def hx (n : Int) : Int := if n < 10 then 48 + n else 87 + n
/-- A byte's form between quotes. -/
def E (c : Int) : List Int := if 32 ≤ c ∧ c ≤ 126 ∧ c ≠ 34 ∧ c ≠ 92 then [c] else if c = 34 then [92, 34] else if c = 92 then [92, 92] else if c = 10 then [92, 110] else if c = 13 then [92, 114] else if c = 9 then [92, 116] else [92, 120, hx (c / 16), hx (c % 16)]
def isP (c : Int) : Bool := decide (32 ≤ c ∧ c ≤ 126 ∧ c ≠ 34 ∧ c ≠ 92)
def hxV (c : Int) : Int := if 48 ≤ c ∧ c ≤ 57 then c - 48 else if 97 ≤ c ∧ c ≤ 102 then c - 87 else -1
/-- words.unescape by the length and the first three bytes. -/
def unI (n : Nat) (c0 c1 c2 : Int) : Int × Int :=
  if 0 < n then (if c0 = 34 then (34, 1) else if c0 = 92 then (92, 1) else if c0 = 110 then (10, 1) else if c0 = 114 then (13, 1) else if c0 = 116 then (9, 1)
    else if c0 = 120 then (if 3 ≤ n then Wd.hexR (hxV c1) (hxV c2) else (0, 0)) else (0, 0)) else (0, 0)
theorem bt_get (s : ByteArray) (i : Nat) (h : i < s.size) : ((s[i]'h).toNat : Int) = bt s i := bt_at s i h
/-- One step of words.unquote: the byte, and how many bytes stand for it; m: how many bytes there are. -/
def stepI (m : Nat) (c0 c1 c2 c3 : Int) : Option (Int × Nat) :=
  if c0 = 92 then (if (unI (m - 1) c1 c2 c3).2 = 0 then none else some ((unI (m - 1) c1 c2 c3).1, (unI (m - 1) c1 c2 c3).2.toNat + 1)) else if isP c0 = true then some (c0, 1) else none
theorem bt_ext (a : ByteArray) (i j t : Nat) (hij : i + t < j) (hj : j ≤ a.size) : bt (a.extract i j) t = bt a ((i + t : Nat) : Int) := by
  have h1 : t < (a.extract i j).size := by rw [ByteArray.size_extract]; omega
  have h2 : i + t < a.size := by omega
  rw [← bt_get _ t h1, ← bt_get a (i + t) h2]
  congr 2
  exact ByteArray.getElem_extract ..
theorem bt_out (a : ByteArray) (t : Int) (h : (a.size : Int) ≤ t) : bt a t = 0 := by unfold bt; rw [dif_neg (by omega)]
theorem bt_tail (a : ByteArray) (i t : Nat) : bt (a.extract i a.size) t = bt a ((i + t : Nat) : Int) := by
  by_cases h : i + t < a.size
  · exact bt_ext a i a.size t h (Nat.le_refl _)
  · rw [bt_out a _ (by omega), bt_out]
    rw [ByteArray.size_extract]
    omega
/-- The step at p. -/
def st (a : ByteArray) (p : Nat) : Option (Int × Nat) := stepI (a.size - p) (bt a p) (bt a ((p + 1 : Nat) : Int)) (bt a ((p + 2 : Nat) : Int)) (bt a ((p + 3 : Nat) : Int))
theorem toList_nil (a : ByteArray) : (a.toList = ([] : List UInt8)) ↔ a.size = 0 := by
  rw [Lib.toList_data, Lib.size_eq]; exact List.length_eq_zero_iff.symm
theorem str_size (l : List Int) : (strOfNums l).size = l.length := by unfold strOfNums; rw [Lib.size_mk, List.length_map]
end Go.Proofs.YtciaocdpojnmcaaGreatDoor.P
