/-
  No cell of these rows narrows 'for every input' (looked for: loops, veiled, ifaces, maps, wideKeys, modest, calm, conditions, laid).
  DERIVED. THE GIVEN ROWS OF THIS SEAT. 8 by the template 'for every input the law returns true; each argument reads behind the call as it read before'; 0 by the template 'total and deterministic' (their statements: YtpchlfjfambgoaaTotals.lean).
  GIVEN WITH THE SEED: the statements are not yours to turn. If you find one false, say at which input.
  Laid BY PROGRAM, IN A SANDBOX (cutbox-rows.mjs): the forced cells as the released guide's own fill.sh prints them over the translation 67dfcdc0eabd6e5d… (all of the seat's roots in one cut). By AI agents, Wed Nov 11 2026. No macro, syntax, notation, axiom, sorry.
-/
import Derived.Test.YtpchlfjfambgoaaChecked
import GoSem.Claim
import GoSem.ClaimJoined
import GoSem.ClaimMapViews
import Derived.JoinedTies
import Derived.KernelRfl
namespace Go.Proofs.Ytpchlfjfambgoaa
/- THE CELL 'sum', in the pinned program and in every row, IS THE sha256 OF THE DUMP (.gsa) THAT YtpchlfjfambgoaaProg.lean LOADS. Nothing in Lean hashes anything: it is a label: what it is worth is what the hold of that sum in a sandbox is worth. -/
noncomputable def Try.pinned : Pinned := { name := "ytpchlfjfambgoaa", sum := "67dfcdc0eabd6e5dc7c1852a275e6b237cc9b272a9b0e9b9934bbc15006ddc79", checked := Try.checked }
namespace Rows
def none {H : Type} : Left H := { results := [], args := [] }

/-- 'timesynclaw05.CivilOf': WHATEVER THE INPUT: true; the input reads as it did. -/
def civilOfSpec : ChangeSpec := { name := "civilOf", fn := fun _ => fun
  | [d] => { results := [.lit (.bool true)], args := [d] }
  | _ => none }
def civilOfRow : OpenClaim := { program := "ytpchlfjfambgoaa", sum := "67dfcdc0eabd6e5dc7c1852a275e6b237cc9b272a9b0e9b9934bbc15006ddc79", func := "timesync/timesynclaw05.CivilOf", spec := "civilOf", unfollowed := true, recurses := true, apart := false }
def CivilOfSaid : Prop := civilOfRow.holds Try.pinned (OpenSpec.ofChange civilOfSpec)

/-- ITS FALSE NEIGHBOUR: 'it returns false'. Refute it at one input. -/
def civilOfWrong : ChangeSpec := { name := "civilOf", fn := fun _ => fun
  | [d] => { results := [.lit (.bool false)], args := [d] }
  | _ => none }
def CivilOfWrongFalsely : Prop := civilOfRow.holds Try.pinned (OpenSpec.ofChange civilOfWrong)

/-- 'timesynclaw05.CivilTexts': WHATEVER THE INPUT: true; the input reads as it did. -/
def civilTextsSpec : ChangeSpec := { name := "civilTexts", fn := fun _ => fun
  | [d1, d2] => { results := [.lit (.bool true)], args := [d1, d2] }
  | _ => none }
def civilTextsRow : OpenClaim := { program := "ytpchlfjfambgoaa", sum := "67dfcdc0eabd6e5dc7c1852a275e6b237cc9b272a9b0e9b9934bbc15006ddc79", func := "timesync/timesynclaw05.CivilTexts", spec := "civilTexts", unfollowed := true, recurses := true, apart := false }
def CivilTextsSaid : Prop := civilTextsRow.holds Try.pinned (OpenSpec.ofChange civilTextsSpec)

/-- ITS FALSE NEIGHBOUR: 'it returns false'. Refute it at one input. -/
def civilTextsWrong : ChangeSpec := { name := "civilTexts", fn := fun _ => fun
  | [d1, d2] => { results := [.lit (.bool false)], args := [d1, d2] }
  | _ => none }
def CivilTextsWrongFalsely : Prop := civilTextsRow.holds Try.pinned (OpenSpec.ofChange civilTextsWrong)

/-- 'timesynclaw05.CivilOrder': WHATEVER THE INPUT: true; the input reads as it did. -/
def civilOrderSpec : ChangeSpec := { name := "civilOrder", fn := fun _ => fun
  | [d1, d2, d3] => { results := [.lit (.bool true)], args := [d1, d2, d3] }
  | _ => none }
def civilOrderRow : OpenClaim := { program := "ytpchlfjfambgoaa", sum := "67dfcdc0eabd6e5dc7c1852a275e6b237cc9b272a9b0e9b9934bbc15006ddc79", func := "timesync/timesynclaw05.CivilOrder", spec := "civilOrder", unfollowed := true, recurses := true, apart := false }
def CivilOrderSaid : Prop := civilOrderRow.holds Try.pinned (OpenSpec.ofChange civilOrderSpec)

/-- ITS FALSE NEIGHBOUR: 'it returns false'. Refute it at one input. -/
def civilOrderWrong : ChangeSpec := { name := "civilOrder", fn := fun _ => fun
  | [d1, d2, d3] => { results := [.lit (.bool false)], args := [d1, d2, d3] }
  | _ => none }
def CivilOrderWrongFalsely : Prop := civilOrderRow.holds Try.pinned (OpenSpec.ofChange civilOrderWrong)

/-- 'timesynclaw05.CivilDays': WHATEVER THE INPUT: true; the input reads as it did. -/
def civilDaysSpec : ChangeSpec := { name := "civilDays", fn := fun _ => fun
  | [d1, d2, d3] => { results := [.lit (.bool true)], args := [d1, d2, d3] }
  | _ => none }
def civilDaysRow : OpenClaim := { program := "ytpchlfjfambgoaa", sum := "67dfcdc0eabd6e5dc7c1852a275e6b237cc9b272a9b0e9b9934bbc15006ddc79", func := "timesync/timesynclaw05.CivilDays", spec := "civilDays", unfollowed := true, recurses := true, apart := false }
def CivilDaysSaid : Prop := civilDaysRow.holds Try.pinned (OpenSpec.ofChange civilDaysSpec)

/-- ITS FALSE NEIGHBOUR: 'it returns false'. Refute it at one input. -/
def civilDaysWrong : ChangeSpec := { name := "civilDays", fn := fun _ => fun
  | [d1, d2, d3] => { results := [.lit (.bool false)], args := [d1, d2, d3] }
  | _ => none }
def CivilDaysWrongFalsely : Prop := civilDaysRow.holds Try.pinned (OpenSpec.ofChange civilDaysWrong)

/-- 'timesynclaw05.CivilNext': WHATEVER THE INPUT: true; the input reads as it did. -/
def civilNextSpec : ChangeSpec := { name := "civilNext", fn := fun _ => fun
  | [d] => { results := [.lit (.bool true)], args := [d] }
  | _ => none }
def civilNextRow : OpenClaim := { program := "ytpchlfjfambgoaa", sum := "67dfcdc0eabd6e5dc7c1852a275e6b237cc9b272a9b0e9b9934bbc15006ddc79", func := "timesync/timesynclaw05.CivilNext", spec := "civilNext", unfollowed := true, recurses := true, apart := false }
def CivilNextSaid : Prop := civilNextRow.holds Try.pinned (OpenSpec.ofChange civilNextSpec)

/-- ITS FALSE NEIGHBOUR: 'it returns false'. Refute it at one input. -/
def civilNextWrong : ChangeSpec := { name := "civilNext", fn := fun _ => fun
  | [d] => { results := [.lit (.bool false)], args := [d] }
  | _ => none }
def CivilNextWrongFalsely : Prop := civilNextRow.holds Try.pinned (OpenSpec.ofChange civilNextWrong)

/-- 'timesynclaw05.CivilCycle': WHATEVER THE INPUT: true; the input reads as it did. -/
def civilCycleSpec : ChangeSpec := { name := "civilCycle", fn := fun _ => fun
  | [d1, d2] => { results := [.lit (.bool true)], args := [d1, d2] }
  | _ => none }
def civilCycleRow : OpenClaim := { program := "ytpchlfjfambgoaa", sum := "67dfcdc0eabd6e5dc7c1852a275e6b237cc9b272a9b0e9b9934bbc15006ddc79", func := "timesync/timesynclaw05.CivilCycle", spec := "civilCycle", unfollowed := true, recurses := true, apart := false }
def CivilCycleSaid : Prop := civilCycleRow.holds Try.pinned (OpenSpec.ofChange civilCycleSpec)

/-- ITS FALSE NEIGHBOUR: 'it returns false'. Refute it at one input. -/
def civilCycleWrong : ChangeSpec := { name := "civilCycle", fn := fun _ => fun
  | [d1, d2] => { results := [.lit (.bool false)], args := [d1, d2] }
  | _ => none }
def CivilCycleWrongFalsely : Prop := civilCycleRow.holds Try.pinned (OpenSpec.ofChange civilCycleWrong)

/-- 'timesynclaw05.CivilChecks': WHATEVER THE INPUT: true; the input reads as it did. -/
def civilChecksSpec : ChangeSpec := { name := "civilChecks", fn := fun _ => fun
  | [d] => { results := [.lit (.bool true)], args := [d] }
  | _ => none }
def civilChecksRow : OpenClaim := { program := "ytpchlfjfambgoaa", sum := "67dfcdc0eabd6e5dc7c1852a275e6b237cc9b272a9b0e9b9934bbc15006ddc79", func := "timesync/timesynclaw05.CivilChecks", spec := "civilChecks", unfollowed := true, recurses := true, apart := false }
def CivilChecksSaid : Prop := civilChecksRow.holds Try.pinned (OpenSpec.ofChange civilChecksSpec)

/-- ITS FALSE NEIGHBOUR: 'it returns false'. Refute it at one input. -/
def civilChecksWrong : ChangeSpec := { name := "civilChecks", fn := fun _ => fun
  | [d] => { results := [.lit (.bool false)], args := [d] }
  | _ => none }
def CivilChecksWrongFalsely : Prop := civilChecksRow.holds Try.pinned (OpenSpec.ofChange civilChecksWrong)

/-- 'timesynclaw05.CivilRoundTrip': WHATEVER THE INPUT: true; the input reads as it did. -/
def civilRoundTripSpec : ChangeSpec := { name := "civilRoundTrip", fn := fun _ => fun
  | [d1, d2] => { results := [.lit (.bool true)], args := [d1, d2] }
  | _ => none }
def civilRoundTripRow : OpenClaim := { program := "ytpchlfjfambgoaa", sum := "67dfcdc0eabd6e5dc7c1852a275e6b237cc9b272a9b0e9b9934bbc15006ddc79", func := "timesync/timesynclaw05.CivilRoundTrip", spec := "civilRoundTrip", unfollowed := true, recurses := true, apart := false }
def CivilRoundTripSaid : Prop := civilRoundTripRow.holds Try.pinned (OpenSpec.ofChange civilRoundTripSpec)

/-- ITS FALSE NEIGHBOUR: 'it returns false'. Refute it at one input. -/
def civilRoundTripWrong : ChangeSpec := { name := "civilRoundTrip", fn := fun _ => fun
  | [d1, d2] => { results := [.lit (.bool false)], args := [d1, d2] }
  | _ => none }
def CivilRoundTripWrongFalsely : Prop := civilRoundTripRow.holds Try.pinned (OpenSpec.ofChange civilRoundTripWrong)

/- THE SECOND FORM. 'bulk': how many values and letters a reading holds, each counted each time it is reached (what is shared counts as often as it is met; a slice's spare places count too). A statement '..UptoSaid' is the law's where the arguments, and the package variables that the reading takes, are together of bulk at most 1048576: NARROWER than '..Said'. Prove '..Said' where nothing that the law and all that it calls make is longer than what came in: it says more and counts as full. Else prove '..UptoSaid'. A law counts once. -/
mutual
def uptoBulk {H : Type} : DataW H → Nat
  | .lit (.string bytes) => bytes.length + 1
  | .lit _ => 1
  | .nil => 1
  | .ptr d => uptoBulk d + 1
  | .slice elems spare => uptoBulkAll elems + uptoBulkAll spare + 1
  | .agg parts => uptoBulkAll parts + 1
  | .iface _ d => uptoBulk d + 1
  | .map entries => uptoBulkEntries entries + 1
  | .held _ => 1
def uptoBulkAll {H : Type} : List (DataW H) → Nat
  | [] => 0
  | d :: r => uptoBulk d + uptoBulkAll r
def uptoBulkEntries {H : Type} : List (Lit × DataW H) → Nat
  | [] => 0
  | x :: r => uptoBulkEntry x + uptoBulkEntries r
def uptoBulkEntry {H : Type} : Lit × DataW H → Nat
  | (.string bytes, d) => bytes.length + uptoBulk d + 1
  | (_, d) => uptoBulk d + 1
 end
def uptoSmall : (H : Type) → List (DataW H) → Bool := fun _ ds => decide (uptoBulkAll ds ≤ 1048576)
def OpenSpec.upto (s : _root_.Go.ChangeSpec) : _root_.Go.OpenSpec := { _root_.Go.OpenSpec.ofChange s with cond := some uptoSmall }

/-- 'timesynclaw05.CivilOf', WHERE WHAT IT READS IS OF BULK AT MOST 1048576: true; the input reads as it did. -/
def civilOfUptoRow : OpenClaim := { program := "ytpchlfjfambgoaa", sum := "67dfcdc0eabd6e5dc7c1852a275e6b237cc9b272a9b0e9b9934bbc15006ddc79", func := "timesync/timesynclaw05.CivilOf", spec := "civilOf", unfollowed := true, recurses := true, apart := false, narrowed := true }
def CivilOfUptoSaid : Prop := civilOfUptoRow.holds Try.pinned (OpenSpec.upto civilOfSpec)

/-- 'timesynclaw05.CivilTexts', WHERE WHAT IT READS IS OF BULK AT MOST 1048576: true; the input reads as it did. -/
def civilTextsUptoRow : OpenClaim := { program := "ytpchlfjfambgoaa", sum := "67dfcdc0eabd6e5dc7c1852a275e6b237cc9b272a9b0e9b9934bbc15006ddc79", func := "timesync/timesynclaw05.CivilTexts", spec := "civilTexts", unfollowed := true, recurses := true, apart := false, narrowed := true }
def CivilTextsUptoSaid : Prop := civilTextsUptoRow.holds Try.pinned (OpenSpec.upto civilTextsSpec)

/-- 'timesynclaw05.CivilOrder', WHERE WHAT IT READS IS OF BULK AT MOST 1048576: true; the input reads as it did. -/
def civilOrderUptoRow : OpenClaim := { program := "ytpchlfjfambgoaa", sum := "67dfcdc0eabd6e5dc7c1852a275e6b237cc9b272a9b0e9b9934bbc15006ddc79", func := "timesync/timesynclaw05.CivilOrder", spec := "civilOrder", unfollowed := true, recurses := true, apart := false, narrowed := true }
def CivilOrderUptoSaid : Prop := civilOrderUptoRow.holds Try.pinned (OpenSpec.upto civilOrderSpec)

/-- 'timesynclaw05.CivilDays', WHERE WHAT IT READS IS OF BULK AT MOST 1048576: true; the input reads as it did. -/
def civilDaysUptoRow : OpenClaim := { program := "ytpchlfjfambgoaa", sum := "67dfcdc0eabd6e5dc7c1852a275e6b237cc9b272a9b0e9b9934bbc15006ddc79", func := "timesync/timesynclaw05.CivilDays", spec := "civilDays", unfollowed := true, recurses := true, apart := false, narrowed := true }
def CivilDaysUptoSaid : Prop := civilDaysUptoRow.holds Try.pinned (OpenSpec.upto civilDaysSpec)

/-- 'timesynclaw05.CivilNext', WHERE WHAT IT READS IS OF BULK AT MOST 1048576: true; the input reads as it did. -/
def civilNextUptoRow : OpenClaim := { program := "ytpchlfjfambgoaa", sum := "67dfcdc0eabd6e5dc7c1852a275e6b237cc9b272a9b0e9b9934bbc15006ddc79", func := "timesync/timesynclaw05.CivilNext", spec := "civilNext", unfollowed := true, recurses := true, apart := false, narrowed := true }
def CivilNextUptoSaid : Prop := civilNextUptoRow.holds Try.pinned (OpenSpec.upto civilNextSpec)

/-- 'timesynclaw05.CivilCycle', WHERE WHAT IT READS IS OF BULK AT MOST 1048576: true; the input reads as it did. -/
def civilCycleUptoRow : OpenClaim := { program := "ytpchlfjfambgoaa", sum := "67dfcdc0eabd6e5dc7c1852a275e6b237cc9b272a9b0e9b9934bbc15006ddc79", func := "timesync/timesynclaw05.CivilCycle", spec := "civilCycle", unfollowed := true, recurses := true, apart := false, narrowed := true }
def CivilCycleUptoSaid : Prop := civilCycleUptoRow.holds Try.pinned (OpenSpec.upto civilCycleSpec)

/-- 'timesynclaw05.CivilChecks', WHERE WHAT IT READS IS OF BULK AT MOST 1048576: true; the input reads as it did. -/
def civilChecksUptoRow : OpenClaim := { program := "ytpchlfjfambgoaa", sum := "67dfcdc0eabd6e5dc7c1852a275e6b237cc9b272a9b0e9b9934bbc15006ddc79", func := "timesync/timesynclaw05.CivilChecks", spec := "civilChecks", unfollowed := true, recurses := true, apart := false, narrowed := true }
def CivilChecksUptoSaid : Prop := civilChecksUptoRow.holds Try.pinned (OpenSpec.upto civilChecksSpec)

/-- 'timesynclaw05.CivilRoundTrip', WHERE WHAT IT READS IS OF BULK AT MOST 1048576: true; the input reads as it did. -/
def civilRoundTripUptoRow : OpenClaim := { program := "ytpchlfjfambgoaa", sum := "67dfcdc0eabd6e5dc7c1852a275e6b237cc9b272a9b0e9b9934bbc15006ddc79", func := "timesync/timesynclaw05.CivilRoundTrip", spec := "civilRoundTrip", unfollowed := true, recurses := true, apart := false, narrowed := true }
def CivilRoundTripUptoSaid : Prop := civilRoundTripUptoRow.holds Try.pinned (OpenSpec.upto civilRoundTripSpec)

end Rows
end Go.Proofs.Ytpchlfjfambgoaa
