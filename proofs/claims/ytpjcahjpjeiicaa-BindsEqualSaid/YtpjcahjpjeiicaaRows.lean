/-
  No cell of these rows narrows 'for every input' (looked for: loops, veiled, ifaces, maps, wideKeys, modest, calm, conditions, laid).
  DERIVED. THE GIVEN ROWS OF THIS SEAT. 7 by the template 'for every input the law returns true; each argument reads behind the call as it read before'; 0 by the template 'total and deterministic' (their statements: YtpjcahjpjeiicaaTotals.lean).
  GIVEN WITH THE SEED: the statements are not yours to turn. If you find one false, say at which input.
  Laid BY PROGRAM, IN A SANDBOX (cutbox-rows.mjs): the forced cells as the released guide's own fill.sh prints them over the translation a578252c93a80f11… (all of the seat's roots in one cut). By AI agents, Wed Nov 11 2026. No macro, syntax, notation, axiom, sorry.
-/
import Derived.Test.YtpjcahjpjeiicaaChecked
import GoSem.Claim
import GoSem.ClaimJoined
import GoSem.ClaimMapViews
import Derived.JoinedTies
import Derived.KernelRfl
namespace Go.Proofs.Ytpjcahjpjeiicaa
/- THE CELL 'sum', in the pinned program and in every row, IS THE sha256 OF THE DUMP (.gsa) THAT YtpjcahjpjeiicaaProg.lean LOADS. Nothing in Lean hashes anything: it is a label: what it is worth is what the hold of that sum in a sandbox is worth. -/
noncomputable def Try.pinned : Pinned := { name := "ytpjcahjpjeiicaa", sum := "a578252c93a80f113577540a922242ee59974f881d2a7a55514e4c963adb8100", checked := Try.checked }
namespace Rows
def none {H : Type} : Left H := { results := [], args := [] }

/-- 'mummerlaw11.BindsChecks': WHATEVER THE INPUT: true; the input reads as it did. -/
def bindsChecksSpec : ChangeSpec := { name := "bindsChecks", fn := fun _ => fun
  | [d1, d2] => { results := [.lit (.bool true)], args := [d1, d2] }
  | _ => none }
def bindsChecksRow : OpenClaim := { program := "ytpjcahjpjeiicaa", sum := "a578252c93a80f113577540a922242ee59974f881d2a7a55514e4c963adb8100", func := "mummer/mummerlaw11.BindsChecks", spec := "bindsChecks", unfollowed := true, recurses := true, plainKeys := false, apart := false }
def BindsChecksSaid : Prop := bindsChecksRow.holds Try.pinned (OpenSpec.ofChange bindsChecksSpec)

/-- ITS FALSE NEIGHBOUR: 'it returns false'. Refute it at one input. -/
def bindsChecksWrong : ChangeSpec := { name := "bindsChecks", fn := fun _ => fun
  | [d1, d2] => { results := [.lit (.bool false)], args := [d1, d2] }
  | _ => none }
def BindsChecksWrongFalsely : Prop := bindsChecksRow.holds Try.pinned (OpenSpec.ofChange bindsChecksWrong)

/-- 'mummerlaw11.BindsResolves': WHATEVER THE INPUT: true; the input reads as it did. -/
def bindsResolvesSpec : ChangeSpec := { name := "bindsResolves", fn := fun _ => fun
  | [d1, d2, d3] => { results := [.lit (.bool true)], args := [d1, d2, d3] }
  | _ => none }
def bindsResolvesRow : OpenClaim := { program := "ytpjcahjpjeiicaa", sum := "a578252c93a80f113577540a922242ee59974f881d2a7a55514e4c963adb8100", func := "mummer/mummerlaw11.BindsResolves", spec := "bindsResolves", unfollowed := true, recurses := true, plainKeys := false, apart := false }
def BindsResolvesSaid : Prop := bindsResolvesRow.holds Try.pinned (OpenSpec.ofChange bindsResolvesSpec)

/-- ITS FALSE NEIGHBOUR: 'it returns false'. Refute it at one input. -/
def bindsResolvesWrong : ChangeSpec := { name := "bindsResolves", fn := fun _ => fun
  | [d1, d2, d3] => { results := [.lit (.bool false)], args := [d1, d2, d3] }
  | _ => none }
def BindsResolvesWrongFalsely : Prop := bindsResolvesRow.holds Try.pinned (OpenSpec.ofChange bindsResolvesWrong)

/-- 'mummerlaw11.BindsGreatest': WHATEVER THE INPUT: true; the input reads as it did. -/
def bindsGreatestSpec : ChangeSpec := { name := "bindsGreatest", fn := fun _ => fun
  | [d1, d2, d3] => { results := [.lit (.bool true)], args := [d1, d2, d3] }
  | _ => none }
def bindsGreatestRow : OpenClaim := { program := "ytpjcahjpjeiicaa", sum := "a578252c93a80f113577540a922242ee59974f881d2a7a55514e4c963adb8100", func := "mummer/mummerlaw11.BindsGreatest", spec := "bindsGreatest", unfollowed := true, recurses := true, plainKeys := false, apart := false }
def BindsGreatestSaid : Prop := bindsGreatestRow.holds Try.pinned (OpenSpec.ofChange bindsGreatestSpec)

/-- ITS FALSE NEIGHBOUR: 'it returns false'. Refute it at one input. -/
def bindsGreatestWrong : ChangeSpec := { name := "bindsGreatest", fn := fun _ => fun
  | [d1, d2, d3] => { results := [.lit (.bool false)], args := [d1, d2, d3] }
  | _ => none }
def BindsGreatestWrongFalsely : Prop := bindsGreatestRow.holds Try.pinned (OpenSpec.ofChange bindsGreatestWrong)

/-- 'mummerlaw11.BindsMore': WHATEVER THE INPUT: true; the input reads as it did. -/
def bindsMoreSpec : ChangeSpec := { name := "bindsMore", fn := fun _ => fun
  | [d1, d2, d3] => { results := [.lit (.bool true)], args := [d1, d2, d3] }
  | _ => none }
def bindsMoreRow : OpenClaim := { program := "ytpjcahjpjeiicaa", sum := "a578252c93a80f113577540a922242ee59974f881d2a7a55514e4c963adb8100", func := "mummer/mummerlaw11.BindsMore", spec := "bindsMore", unfollowed := true, recurses := true, plainKeys := false, apart := false }
def BindsMoreSaid : Prop := bindsMoreRow.holds Try.pinned (OpenSpec.ofChange bindsMoreSpec)

/-- ITS FALSE NEIGHBOUR: 'it returns false'. Refute it at one input. -/
def bindsMoreWrong : ChangeSpec := { name := "bindsMore", fn := fun _ => fun
  | [d1, d2, d3] => { results := [.lit (.bool false)], args := [d1, d2, d3] }
  | _ => none }
def BindsMoreWrongFalsely : Prop := bindsMoreRow.holds Try.pinned (OpenSpec.ofChange bindsMoreWrong)

/-- 'mummerlaw11.BindsOthers': WHATEVER THE INPUT: true; the input reads as it did. -/
def bindsOthersSpec : ChangeSpec := { name := "bindsOthers", fn := fun _ => fun
  | [d1, d2, d3] => { results := [.lit (.bool true)], args := [d1, d2, d3] }
  | _ => none }
def bindsOthersRow : OpenClaim := { program := "ytpjcahjpjeiicaa", sum := "a578252c93a80f113577540a922242ee59974f881d2a7a55514e4c963adb8100", func := "mummer/mummerlaw11.BindsOthers", spec := "bindsOthers", unfollowed := true, recurses := true, plainKeys := false, apart := false }
def BindsOthersSaid : Prop := bindsOthersRow.holds Try.pinned (OpenSpec.ofChange bindsOthersSpec)

/-- ITS FALSE NEIGHBOUR: 'it returns false'. Refute it at one input. -/
def bindsOthersWrong : ChangeSpec := { name := "bindsOthers", fn := fun _ => fun
  | [d1, d2, d3] => { results := [.lit (.bool false)], args := [d1, d2, d3] }
  | _ => none }
def BindsOthersWrongFalsely : Prop := bindsOthersRow.holds Try.pinned (OpenSpec.ofChange bindsOthersWrong)

/-- 'mummerlaw11.BindsEqual': WHATEVER THE INPUT: true; the input reads as it did. -/
def bindsEqualSpec : ChangeSpec := { name := "bindsEqual", fn := fun _ => fun
  | [d1, d2] => { results := [.lit (.bool true)], args := [d1, d2] }
  | _ => none }
def bindsEqualRow : OpenClaim := { program := "ytpjcahjpjeiicaa", sum := "a578252c93a80f113577540a922242ee59974f881d2a7a55514e4c963adb8100", func := "mummer/mummerlaw11.BindsEqual", spec := "bindsEqual", unfollowed := true, recurses := true, plainKeys := false, apart := false }
def BindsEqualSaid : Prop := bindsEqualRow.holds Try.pinned (OpenSpec.ofChange bindsEqualSpec)

/-- ITS FALSE NEIGHBOUR: 'it returns false'. Refute it at one input. -/
def bindsEqualWrong : ChangeSpec := { name := "bindsEqual", fn := fun _ => fun
  | [d1, d2] => { results := [.lit (.bool false)], args := [d1, d2] }
  | _ => none }
def BindsEqualWrongFalsely : Prop := bindsEqualRow.holds Try.pinned (OpenSpec.ofChange bindsEqualWrong)

/-- 'mummerlaw11.BindsSame': WHATEVER THE INPUT: true; the input reads as it did. -/
def bindsSameSpec : ChangeSpec := { name := "bindsSame", fn := fun _ => fun
  | [d1, d2, d3] => { results := [.lit (.bool true)], args := [d1, d2, d3] }
  | _ => none }
def bindsSameRow : OpenClaim := { program := "ytpjcahjpjeiicaa", sum := "a578252c93a80f113577540a922242ee59974f881d2a7a55514e4c963adb8100", func := "mummer/mummerlaw11.BindsSame", spec := "bindsSame", unfollowed := true, recurses := true, plainKeys := false, apart := false }
def BindsSameSaid : Prop := bindsSameRow.holds Try.pinned (OpenSpec.ofChange bindsSameSpec)

/-- ITS FALSE NEIGHBOUR: 'it returns false'. Refute it at one input. -/
def bindsSameWrong : ChangeSpec := { name := "bindsSame", fn := fun _ => fun
  | [d1, d2, d3] => { results := [.lit (.bool false)], args := [d1, d2, d3] }
  | _ => none }
def BindsSameWrongFalsely : Prop := bindsSameRow.holds Try.pinned (OpenSpec.ofChange bindsSameWrong)

/- THE SECOND FORM. 'bulk': how many values and letters a reading holds, each counted each time it is reached (what is shared counts as often as it is met; a slice's spare places count too). A statement '..UptoSaid' is the law's where the arguments, and the package variables that the reading takes, are together of bulk at most 1048576: NARROWER than '..Said'. Prove '..Said' where nothing that the law and all that it calls make is longer than what came in: it says more and counts as full. Else prove '..UptoSaid'. A law counts once. -/
mutual
def uptoBulk {H : Type} : DataW H → Nat
  | .lit (.string bytes) => bytes.length + 1
  | .lit _ => 1
  | .nil => 1
  | .ptr d => uptoBulk d + 1
  | .slice elems spare => uptoBulkAll elems + uptoBulkAll spare + 1
  | .agg parts => uptoBulkAll parts + 1
  | .iface _ d => uptoBulk d + 1
  | .map entries => uptoBulkEntries entries + 1
  | .held _ => 1
def uptoBulkAll {H : Type} : List (DataW H) → Nat
  | [] => 0
  | d :: r => uptoBulk d + uptoBulkAll r
def uptoBulkEntries {H : Type} : List (Lit × DataW H) → Nat
  | [] => 0
  | x :: r => uptoBulkEntry x + uptoBulkEntries r
def uptoBulkEntry {H : Type} : Lit × DataW H → Nat
  | (.string bytes, d) => bytes.length + uptoBulk d + 1
  | (_, d) => uptoBulk d + 1
 end
def uptoSmall : (H : Type) → List (DataW H) → Bool := fun _ ds => decide (uptoBulkAll ds ≤ 1048576)
def OpenSpec.upto (s : _root_.Go.ChangeSpec) : _root_.Go.OpenSpec := { _root_.Go.OpenSpec.ofChange s with cond := some uptoSmall }

/-- 'mummerlaw11.BindsChecks', WHERE WHAT IT READS IS OF BULK AT MOST 1048576: true; the input reads as it did. -/
def bindsChecksUptoRow : OpenClaim := { program := "ytpjcahjpjeiicaa", sum := "a578252c93a80f113577540a922242ee59974f881d2a7a55514e4c963adb8100", func := "mummer/mummerlaw11.BindsChecks", spec := "bindsChecks", unfollowed := true, recurses := true, plainKeys := false, apart := false, narrowed := true }
def BindsChecksUptoSaid : Prop := bindsChecksUptoRow.holds Try.pinned (OpenSpec.upto bindsChecksSpec)

/-- 'mummerlaw11.BindsResolves', WHERE WHAT IT READS IS OF BULK AT MOST 1048576: true; the input reads as it did. -/
def bindsResolvesUptoRow : OpenClaim := { program := "ytpjcahjpjeiicaa", sum := "a578252c93a80f113577540a922242ee59974f881d2a7a55514e4c963adb8100", func := "mummer/mummerlaw11.BindsResolves", spec := "bindsResolves", unfollowed := true, recurses := true, plainKeys := false, apart := false, narrowed := true }
def BindsResolvesUptoSaid : Prop := bindsResolvesUptoRow.holds Try.pinned (OpenSpec.upto bindsResolvesSpec)

/-- 'mummerlaw11.BindsGreatest', WHERE WHAT IT READS IS OF BULK AT MOST 1048576: true; the input reads as it did. -/
def bindsGreatestUptoRow : OpenClaim := { program := "ytpjcahjpjeiicaa", sum := "a578252c93a80f113577540a922242ee59974f881d2a7a55514e4c963adb8100", func := "mummer/mummerlaw11.BindsGreatest", spec := "bindsGreatest", unfollowed := true, recurses := true, plainKeys := false, apart := false, narrowed := true }
def BindsGreatestUptoSaid : Prop := bindsGreatestUptoRow.holds Try.pinned (OpenSpec.upto bindsGreatestSpec)

/-- 'mummerlaw11.BindsMore', WHERE WHAT IT READS IS OF BULK AT MOST 1048576: true; the input reads as it did. -/
def bindsMoreUptoRow : OpenClaim := { program := "ytpjcahjpjeiicaa", sum := "a578252c93a80f113577540a922242ee59974f881d2a7a55514e4c963adb8100", func := "mummer/mummerlaw11.BindsMore", spec := "bindsMore", unfollowed := true, recurses := true, plainKeys := false, apart := false, narrowed := true }
def BindsMoreUptoSaid : Prop := bindsMoreUptoRow.holds Try.pinned (OpenSpec.upto bindsMoreSpec)

/-- 'mummerlaw11.BindsOthers', WHERE WHAT IT READS IS OF BULK AT MOST 1048576: true; the input reads as it did. -/
def bindsOthersUptoRow : OpenClaim := { program := "ytpjcahjpjeiicaa", sum := "a578252c93a80f113577540a922242ee59974f881d2a7a55514e4c963adb8100", func := "mummer/mummerlaw11.BindsOthers", spec := "bindsOthers", unfollowed := true, recurses := true, plainKeys := false, apart := false, narrowed := true }
def BindsOthersUptoSaid : Prop := bindsOthersUptoRow.holds Try.pinned (OpenSpec.upto bindsOthersSpec)

/-- 'mummerlaw11.BindsEqual', WHERE WHAT IT READS IS OF BULK AT MOST 1048576: true; the input reads as it did. -/
def bindsEqualUptoRow : OpenClaim := { program := "ytpjcahjpjeiicaa", sum := "a578252c93a80f113577540a922242ee59974f881d2a7a55514e4c963adb8100", func := "mummer/mummerlaw11.BindsEqual", spec := "bindsEqual", unfollowed := true, recurses := true, plainKeys := false, apart := false, narrowed := true }
def BindsEqualUptoSaid : Prop := bindsEqualUptoRow.holds Try.pinned (OpenSpec.upto bindsEqualSpec)

/-- 'mummerlaw11.BindsSame', WHERE WHAT IT READS IS OF BULK AT MOST 1048576: true; the input reads as it did. -/
def bindsSameUptoRow : OpenClaim := { program := "ytpjcahjpjeiicaa", sum := "a578252c93a80f113577540a922242ee59974f881d2a7a55514e4c963adb8100", func := "mummer/mummerlaw11.BindsSame", spec := "bindsSame", unfollowed := true, recurses := true, plainKeys := false, apart := false, narrowed := true }
def BindsSameUptoSaid : Prop := bindsSameUptoRow.holds Try.pinned (OpenSpec.upto bindsSameSpec)

end Rows
end Go.Proofs.Ytpjcahjpjeiicaa
