/-
  No cell of these rows narrows 'for every input' (looked for: loops, veiled, ifaces, maps, wideKeys, modest, calm, conditions, laid).
  DERIVED. THE GIVEN ROWS OF THIS SEAT. 6 by the template 'for every input the law returns true; each argument reads behind the call as it read before'; 0 by the template 'total and deterministic' (their statements: YtpophcogdekgkaaTotals.lean).
  GIVEN WITH THE SEED: the statements are not yours to turn. If you find one false, say at which input.
  Laid BY PROGRAM, IN A SANDBOX (cutbox-rows.mjs): the forced cells as the released guide's own fill.sh prints them over the translation 883ec30f373c5a19… (all of the seat's roots in one cut). By AI agents, Wed Nov 11 2026. No macro, syntax, notation, axiom, sorry.
-/
import Derived.Test.YtpophcogdekgkaaChecked
import GoSem.Claim
import GoSem.ClaimJoined
import GoSem.ClaimMapViews
import Derived.JoinedTies
import Derived.KernelRfl
namespace Go.Proofs.Ytpophcogdekgkaa
/- THE CELL 'sum', in the pinned program and in every row, IS THE sha256 OF THE DUMP (.gsa) THAT YtpophcogdekgkaaProg.lean LOADS. Nothing in Lean hashes anything: it is a label: what it is worth is what the hold of that sum in a sandbox is worth. -/
noncomputable def Try.pinned : Pinned := { name := "ytpophcogdekgkaa", sum := "883ec30f373c5a1906098cc493222cafb7880335024f3741df8009b8873adf9c", checked := Try.checked }
namespace Rows
def none {H : Type} : Left H := { results := [], args := [] }

/-- 'mummerlaw16.FuelRuns': WHATEVER THE INPUT: true; the input reads as it did. -/
def fuelRunsSpec : ChangeSpec := { name := "fuelRuns", fn := fun _ => fun
  | [d1, d2] => { results := [.lit (.bool true)], args := [d1, d2] }
  | _ => none }
def fuelRunsRow : OpenClaim := { program := "ytpophcogdekgkaa", sum := "883ec30f373c5a1906098cc493222cafb7880335024f3741df8009b8873adf9c", func := "mummer/mummerlaw16.FuelRuns", spec := "fuelRuns", unfollowed := true, recurses := true, apart := false }
def FuelRunsSaid : Prop := fuelRunsRow.holds Try.pinned (OpenSpec.ofChange fuelRunsSpec)

/-- ITS FALSE NEIGHBOUR: 'it returns false'. Refute it at one input. -/
def fuelRunsWrong : ChangeSpec := { name := "fuelRuns", fn := fun _ => fun
  | [d1, d2] => { results := [.lit (.bool false)], args := [d1, d2] }
  | _ => none }
def FuelRunsWrongFalsely : Prop := fuelRunsRow.holds Try.pinned (OpenSpec.ofChange fuelRunsWrong)

/-- 'mummerlaw16.FuelMore': WHATEVER THE INPUT: true; the input reads as it did. -/
def fuelMoreSpec : ChangeSpec := { name := "fuelMore", fn := fun _ => fun
  | [d1, d2, d3] => { results := [.lit (.bool true)], args := [d1, d2, d3] }
  | _ => none }
def fuelMoreRow : OpenClaim := { program := "ytpophcogdekgkaa", sum := "883ec30f373c5a1906098cc493222cafb7880335024f3741df8009b8873adf9c", func := "mummer/mummerlaw16.FuelMore", spec := "fuelMore", unfollowed := true, recurses := true, apart := false }
def FuelMoreSaid : Prop := fuelMoreRow.holds Try.pinned (OpenSpec.ofChange fuelMoreSpec)

/-- ITS FALSE NEIGHBOUR: 'it returns false'. Refute it at one input. -/
def fuelMoreWrong : ChangeSpec := { name := "fuelMore", fn := fun _ => fun
  | [d1, d2, d3] => { results := [.lit (.bool false)], args := [d1, d2, d3] }
  | _ => none }
def FuelMoreWrongFalsely : Prop := fuelMoreRow.holds Try.pinned (OpenSpec.ofChange fuelMoreWrong)

/-- 'mummerlaw16.FuelLeast': WHATEVER THE INPUT: true; the input reads as it did. -/
def fuelLeastSpec : ChangeSpec := { name := "fuelLeast", fn := fun _ => fun
  | [d] => { results := [.lit (.bool true)], args := [d] }
  | _ => none }
def fuelLeastRow : OpenClaim := { program := "ytpophcogdekgkaa", sum := "883ec30f373c5a1906098cc493222cafb7880335024f3741df8009b8873adf9c", func := "mummer/mummerlaw16.FuelLeast", spec := "fuelLeast", unfollowed := true, recurses := true, apart := false }
def FuelLeastSaid : Prop := fuelLeastRow.holds Try.pinned (OpenSpec.ofChange fuelLeastSpec)

/-- ITS FALSE NEIGHBOUR: 'it returns false'. Refute it at one input. -/
def fuelLeastWrong : ChangeSpec := { name := "fuelLeast", fn := fun _ => fun
  | [d] => { results := [.lit (.bool false)], args := [d] }
  | _ => none }
def FuelLeastWrongFalsely : Prop := fuelLeastRow.holds Try.pinned (OpenSpec.ofChange fuelLeastWrong)

/-- 'mummerlaw16.FuelSums': WHATEVER THE INPUT: true; the input reads as it did. -/
def fuelSumsSpec : ChangeSpec := { name := "fuelSums", fn := fun _ => fun
  | [d1, d2, d3] => { results := [.lit (.bool true)], args := [d1, d2, d3] }
  | _ => none }
def fuelSumsRow : OpenClaim := { program := "ytpophcogdekgkaa", sum := "883ec30f373c5a1906098cc493222cafb7880335024f3741df8009b8873adf9c", func := "mummer/mummerlaw16.FuelSums", spec := "fuelSums", unfollowed := true, recurses := true, apart := false }
def FuelSumsSaid : Prop := fuelSumsRow.holds Try.pinned (OpenSpec.ofChange fuelSumsSpec)

/-- ITS FALSE NEIGHBOUR: 'it returns false'. Refute it at one input. -/
def fuelSumsWrong : ChangeSpec := { name := "fuelSums", fn := fun _ => fun
  | [d1, d2, d3] => { results := [.lit (.bool false)], args := [d1, d2, d3] }
  | _ => none }
def FuelSumsWrongFalsely : Prop := fuelSumsRow.holds Try.pinned (OpenSpec.ofChange fuelSumsWrong)

/-- 'mummerlaw16.FuelParts': WHATEVER THE INPUT: true; the input reads as it did. -/
def fuelPartsSpec : ChangeSpec := { name := "fuelParts", fn := fun _ => fun
  | [d1, d2, d3] => { results := [.lit (.bool true)], args := [d1, d2, d3] }
  | _ => none }
def fuelPartsRow : OpenClaim := { program := "ytpophcogdekgkaa", sum := "883ec30f373c5a1906098cc493222cafb7880335024f3741df8009b8873adf9c", func := "mummer/mummerlaw16.FuelParts", spec := "fuelParts", unfollowed := true, recurses := true, apart := false }
def FuelPartsSaid : Prop := fuelPartsRow.holds Try.pinned (OpenSpec.ofChange fuelPartsSpec)

/-- ITS FALSE NEIGHBOUR: 'it returns false'. Refute it at one input. -/
def fuelPartsWrong : ChangeSpec := { name := "fuelParts", fn := fun _ => fun
  | [d1, d2, d3] => { results := [.lit (.bool false)], args := [d1, d2, d3] }
  | _ => none }
def FuelPartsWrongFalsely : Prop := fuelPartsRow.holds Try.pinned (OpenSpec.ofChange fuelPartsWrong)

/-- 'mummerlaw16.FuelKnown': WHATEVER THE INPUT: true; the input reads as it did. -/
def fuelKnownSpec : ChangeSpec := { name := "fuelKnown", fn := fun _ => fun
  | [] => { results := [.lit (.bool true)], args := [] }
  | _ => none }
def fuelKnownRow : OpenClaim := { program := "ytpophcogdekgkaa", sum := "883ec30f373c5a1906098cc493222cafb7880335024f3741df8009b8873adf9c", func := "mummer/mummerlaw16.FuelKnown", spec := "fuelKnown", unfollowed := true, recurses := true, apart := false }
def FuelKnownSaid : Prop := fuelKnownRow.holds Try.pinned (OpenSpec.ofChange fuelKnownSpec)

/-- ITS FALSE NEIGHBOUR: 'it returns false'. Refute it at one input. -/
def fuelKnownWrong : ChangeSpec := { name := "fuelKnown", fn := fun _ => fun
  | [] => { results := [.lit (.bool false)], args := [] }
  | _ => none }
def FuelKnownWrongFalsely : Prop := fuelKnownRow.holds Try.pinned (OpenSpec.ofChange fuelKnownWrong)

/- THE SECOND FORM. 'bulk': how many values and letters a reading holds, each counted each time it is reached (what is shared counts as often as it is met; a slice's spare places count too). A statement '..UptoSaid' is the law's where the arguments, and the package variables that the reading takes, are together of bulk at most 1048576: NARROWER than '..Said'. Prove '..Said' where nothing that the law and all that it calls make is longer than what came in: it says more and counts as full. Else prove '..UptoSaid'. A law counts once. -/
mutual
def uptoBulk {H : Type} : DataW H → Nat
  | .lit (.string bytes) => bytes.length + 1
  | .lit _ => 1
  | .nil => 1
  | .ptr d => uptoBulk d + 1
  | .slice elems spare => uptoBulkAll elems + uptoBulkAll spare + 1
  | .agg parts => uptoBulkAll parts + 1
  | .iface _ d => uptoBulk d + 1
  | .map entries => uptoBulkEntries entries + 1
  | .held _ => 1
def uptoBulkAll {H : Type} : List (DataW H) → Nat
  | [] => 0
  | d :: r => uptoBulk d + uptoBulkAll r
def uptoBulkEntries {H : Type} : List (Lit × DataW H) → Nat
  | [] => 0
  | x :: r => uptoBulkEntry x + uptoBulkEntries r
def uptoBulkEntry {H : Type} : Lit × DataW H → Nat
  | (.string bytes, d) => bytes.length + uptoBulk d + 1
  | (_, d) => uptoBulk d + 1
 end
def uptoSmall : (H : Type) → List (DataW H) → Bool := fun _ ds => decide (uptoBulkAll ds ≤ 1048576)
def OpenSpec.upto (s : _root_.Go.ChangeSpec) : _root_.Go.OpenSpec := { _root_.Go.OpenSpec.ofChange s with cond := some uptoSmall }

/-- 'mummerlaw16.FuelRuns', WHERE WHAT IT READS IS OF BULK AT MOST 1048576: true; the input reads as it did. -/
def fuelRunsUptoRow : OpenClaim := { program := "ytpophcogdekgkaa", sum := "883ec30f373c5a1906098cc493222cafb7880335024f3741df8009b8873adf9c", func := "mummer/mummerlaw16.FuelRuns", spec := "fuelRuns", unfollowed := true, recurses := true, apart := false, narrowed := true }
def FuelRunsUptoSaid : Prop := fuelRunsUptoRow.holds Try.pinned (OpenSpec.upto fuelRunsSpec)

/-- 'mummerlaw16.FuelMore', WHERE WHAT IT READS IS OF BULK AT MOST 1048576: true; the input reads as it did. -/
def fuelMoreUptoRow : OpenClaim := { program := "ytpophcogdekgkaa", sum := "883ec30f373c5a1906098cc493222cafb7880335024f3741df8009b8873adf9c", func := "mummer/mummerlaw16.FuelMore", spec := "fuelMore", unfollowed := true, recurses := true, apart := false, narrowed := true }
def FuelMoreUptoSaid : Prop := fuelMoreUptoRow.holds Try.pinned (OpenSpec.upto fuelMoreSpec)

/-- 'mummerlaw16.FuelLeast', WHERE WHAT IT READS IS OF BULK AT MOST 1048576: true; the input reads as it did. -/
def fuelLeastUptoRow : OpenClaim := { program := "ytpophcogdekgkaa", sum := "883ec30f373c5a1906098cc493222cafb7880335024f3741df8009b8873adf9c", func := "mummer/mummerlaw16.FuelLeast", spec := "fuelLeast", unfollowed := true, recurses := true, apart := false, narrowed := true }
def FuelLeastUptoSaid : Prop := fuelLeastUptoRow.holds Try.pinned (OpenSpec.upto fuelLeastSpec)

/-- 'mummerlaw16.FuelSums', WHERE WHAT IT READS IS OF BULK AT MOST 1048576: true; the input reads as it did. -/
def fuelSumsUptoRow : OpenClaim := { program := "ytpophcogdekgkaa", sum := "883ec30f373c5a1906098cc493222cafb7880335024f3741df8009b8873adf9c", func := "mummer/mummerlaw16.FuelSums", spec := "fuelSums", unfollowed := true, recurses := true, apart := false, narrowed := true }
def FuelSumsUptoSaid : Prop := fuelSumsUptoRow.holds Try.pinned (OpenSpec.upto fuelSumsSpec)

/-- 'mummerlaw16.FuelParts', WHERE WHAT IT READS IS OF BULK AT MOST 1048576: true; the input reads as it did. -/
def fuelPartsUptoRow : OpenClaim := { program := "ytpophcogdekgkaa", sum := "883ec30f373c5a1906098cc493222cafb7880335024f3741df8009b8873adf9c", func := "mummer/mummerlaw16.FuelParts", spec := "fuelParts", unfollowed := true, recurses := true, apart := false, narrowed := true }
def FuelPartsUptoSaid : Prop := fuelPartsUptoRow.holds Try.pinned (OpenSpec.upto fuelPartsSpec)

/-- 'mummerlaw16.FuelKnown', WHERE WHAT IT READS IS OF BULK AT MOST 1048576: true; the input reads as it did. -/
def fuelKnownUptoRow : OpenClaim := { program := "ytpophcogdekgkaa", sum := "883ec30f373c5a1906098cc493222cafb7880335024f3741df8009b8873adf9c", func := "mummer/mummerlaw16.FuelKnown", spec := "fuelKnown", unfollowed := true, recurses := true, apart := false, narrowed := true }
def FuelKnownUptoSaid : Prop := fuelKnownUptoRow.holds Try.pinned (OpenSpec.upto fuelKnownSpec)

end Rows
end Go.Proofs.Ytpophcogdekgkaa
