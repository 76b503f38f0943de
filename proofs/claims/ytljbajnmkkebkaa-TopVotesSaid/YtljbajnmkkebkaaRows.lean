/-
  No cell of these rows narrows 'for every input' (looked for: loops, veiled, ifaces, maps, wideKeys, modest, calm, conditions, laid).
  DERIVED. THE GIVEN ROWS OF THIS SEAT. 7 by the template 'for every input the law returns true; each argument reads behind the call as it read before'; 0 by the template 'total and deterministic' (their statements: YtljbajnmkkebkaaTotals.lean).
  GIVEN WITH THE SEED: the statements are not yours to turn. If you find one false, say at which input.
  Laid BY PROGRAM, IN A SANDBOX (cutbox-rows.mjs): the forced cells as the released guide's own fill.sh prints them over the translation 5a2a7a05afb14aef… (all of the seat's roots in one cut). By AI agents, Wed Nov 11 2026. No macro, syntax, notation, axiom, sorry.
-/
import Derived.Test.YtljbajnmkkebkaaChecked
import GoSem.Claim
import GoSem.ClaimJoined
import GoSem.ClaimMapViews
import Derived.JoinedTies
import Derived.KernelRfl
namespace Go.Proofs.Ytljbajnmkkebkaa
/- THE CELL 'sum', in the pinned program and in every row, IS THE sha256 OF THE DUMP (.gsa) THAT YtljbajnmkkebkaaProg.lean LOADS. Nothing in Lean hashes anything: it is a label: what it is worth is what the hold of that sum in a sandbox is worth. -/
noncomputable def Try.pinned : Pinned := { name := "ytljbajnmkkebkaa", sum := "5a2a7a05afb14aefc398a3d5a6ae80628bc0a7c3e851865ba58949f68201d1c5", checked := Try.checked }
namespace Rows
def none {H : Type} : Left H := { results := [], args := [] }

/-- 'timesynctop.TopScales': WHATEVER THE INPUT: true; the input reads as it did. -/
def topScalesSpec : ChangeSpec := { name := "topScales", fn := fun _ => fun
  | [d1, d2, d3, d4] => { results := [.lit (.bool true)], args := [d1, d2, d3, d4] }
  | _ => none }
def topScalesRow : OpenClaim := { program := "ytljbajnmkkebkaa", sum := "5a2a7a05afb14aefc398a3d5a6ae80628bc0a7c3e851865ba58949f68201d1c5", func := "timesync/timesynctop.TopScales", spec := "topScales", unfollowed := true, recurses := true, apart := false }
def TopScalesSaid : Prop := topScalesRow.holds Try.pinned (OpenSpec.ofChange topScalesSpec)

/-- ITS FALSE NEIGHBOUR: 'it returns false'. Refute it at one input. -/
def topScalesWrong : ChangeSpec := { name := "topScales", fn := fun _ => fun
  | [d1, d2, d3, d4] => { results := [.lit (.bool false)], args := [d1, d2, d3, d4] }
  | _ => none }
def TopScalesWrongFalsely : Prop := topScalesRow.holds Try.pinned (OpenSpec.ofChange topScalesWrong)

/-- 'timesynctop.TopVotes': WHATEVER THE INPUT: true; the input reads as it did. -/
def topVotesSpec : ChangeSpec := { name := "topVotes", fn := fun _ => fun
  | [d1, d2, d3] => { results := [.lit (.bool true)], args := [d1, d2, d3] }
  | _ => none }
def topVotesRow : OpenClaim := { program := "ytljbajnmkkebkaa", sum := "5a2a7a05afb14aefc398a3d5a6ae80628bc0a7c3e851865ba58949f68201d1c5", func := "timesync/timesynctop.TopVotes", spec := "topVotes", unfollowed := true, recurses := true, apart := false }
def TopVotesSaid : Prop := topVotesRow.holds Try.pinned (OpenSpec.ofChange topVotesSpec)

/-- ITS FALSE NEIGHBOUR: 'it returns false'. Refute it at one input. -/
def topVotesWrong : ChangeSpec := { name := "topVotes", fn := fun _ => fun
  | [d1, d2, d3] => { results := [.lit (.bool false)], args := [d1, d2, d3] }
  | _ => none }
def TopVotesWrongFalsely : Prop := topVotesRow.holds Try.pinned (OpenSpec.ofChange topVotesWrong)

/-- 'timesynclaw54.LeapvoteRuns': WHATEVER THE INPUT: true; the input reads as it did. -/
def leapvoteRunsSpec : ChangeSpec := { name := "leapvoteRuns", fn := fun _ => fun
  | [d1, d2, d3] => { results := [.lit (.bool true)], args := [d1, d2, d3] }
  | _ => none }
def leapvoteRunsRow : OpenClaim := { program := "ytljbajnmkkebkaa", sum := "5a2a7a05afb14aefc398a3d5a6ae80628bc0a7c3e851865ba58949f68201d1c5", func := "timesync/timesynclaw54.LeapvoteRuns", spec := "leapvoteRuns", unfollowed := true, recurses := true, apart := false }
def LeapvoteRunsSaid : Prop := leapvoteRunsRow.holds Try.pinned (OpenSpec.ofChange leapvoteRunsSpec)

/-- ITS FALSE NEIGHBOUR: 'it returns false'. Refute it at one input. -/
def leapvoteRunsWrong : ChangeSpec := { name := "leapvoteRuns", fn := fun _ => fun
  | [d1, d2, d3] => { results := [.lit (.bool false)], args := [d1, d2, d3] }
  | _ => none }
def LeapvoteRunsWrongFalsely : Prop := leapvoteRunsRow.holds Try.pinned (OpenSpec.ofChange leapvoteRunsWrong)

/-- 'timesynclaw54.LeapvoteExtends': WHATEVER THE INPUT: true; the input reads as it did. -/
def leapvoteExtendsSpec : ChangeSpec := { name := "leapvoteExtends", fn := fun _ => fun
  | [d1, d2] => { results := [.lit (.bool true)], args := [d1, d2] }
  | _ => none }
def leapvoteExtendsRow : OpenClaim := { program := "ytljbajnmkkebkaa", sum := "5a2a7a05afb14aefc398a3d5a6ae80628bc0a7c3e851865ba58949f68201d1c5", func := "timesync/timesynclaw54.LeapvoteExtends", spec := "leapvoteExtends", unfollowed := true, recurses := true, apart := false }
def LeapvoteExtendsSaid : Prop := leapvoteExtendsRow.holds Try.pinned (OpenSpec.ofChange leapvoteExtendsSpec)

/-- ITS FALSE NEIGHBOUR: 'it returns false'. Refute it at one input. -/
def leapvoteExtendsWrong : ChangeSpec := { name := "leapvoteExtends", fn := fun _ => fun
  | [d1, d2] => { results := [.lit (.bool false)], args := [d1, d2] }
  | _ => none }
def LeapvoteExtendsWrongFalsely : Prop := leapvoteExtendsRow.holds Try.pinned (OpenSpec.ofChange leapvoteExtendsWrong)

/-- 'timesynclaw54.LeapvoteMajority': WHATEVER THE INPUT: true; the input reads as it did. -/
def leapvoteMajoritySpec : ChangeSpec := { name := "leapvoteMajority", fn := fun _ => fun
  | [d1, d2, d3, d4] => { results := [.lit (.bool true)], args := [d1, d2, d3, d4] }
  | _ => none }
def leapvoteMajorityRow : OpenClaim := { program := "ytljbajnmkkebkaa", sum := "5a2a7a05afb14aefc398a3d5a6ae80628bc0a7c3e851865ba58949f68201d1c5", func := "timesync/timesynclaw54.LeapvoteMajority", spec := "leapvoteMajority", unfollowed := true, recurses := true, apart := false }
def LeapvoteMajoritySaid : Prop := leapvoteMajorityRow.holds Try.pinned (OpenSpec.ofChange leapvoteMajoritySpec)

/-- ITS FALSE NEIGHBOUR: 'it returns false'. Refute it at one input. -/
def leapvoteMajorityWrong : ChangeSpec := { name := "leapvoteMajority", fn := fun _ => fun
  | [d1, d2, d3, d4] => { results := [.lit (.bool false)], args := [d1, d2, d3, d4] }
  | _ => none }
def LeapvoteMajorityWrongFalsely : Prop := leapvoteMajorityRow.holds Try.pinned (OpenSpec.ofChange leapvoteMajorityWrong)

/-- 'timesynclaw54.LeapvoteNobody': WHATEVER THE INPUT: true; the input reads as it did. -/
def leapvoteNobodySpec : ChangeSpec := { name := "leapvoteNobody", fn := fun _ => fun
  | [d1, d2, d3] => { results := [.lit (.bool true)], args := [d1, d2, d3] }
  | _ => none }
def leapvoteNobodyRow : OpenClaim := { program := "ytljbajnmkkebkaa", sum := "5a2a7a05afb14aefc398a3d5a6ae80628bc0a7c3e851865ba58949f68201d1c5", func := "timesync/timesynclaw54.LeapvoteNobody", spec := "leapvoteNobody", unfollowed := true, recurses := true, apart := false }
def LeapvoteNobodySaid : Prop := leapvoteNobodyRow.holds Try.pinned (OpenSpec.ofChange leapvoteNobodySpec)

/-- ITS FALSE NEIGHBOUR: 'it returns false'. Refute it at one input. -/
def leapvoteNobodyWrong : ChangeSpec := { name := "leapvoteNobody", fn := fun _ => fun
  | [d1, d2, d3] => { results := [.lit (.bool false)], args := [d1, d2, d3] }
  | _ => none }
def LeapvoteNobodyWrongFalsely : Prop := leapvoteNobodyRow.holds Try.pinned (OpenSpec.ofChange leapvoteNobodyWrong)

/-- 'timesynclaw54.LeapvoteArms': WHATEVER THE INPUT: true; the input reads as it did. -/
def leapvoteArmsSpec : ChangeSpec := { name := "leapvoteArms", fn := fun _ => fun
  | [d1, d2, d3] => { results := [.lit (.bool true)], args := [d1, d2, d3] }
  | _ => none }
def leapvoteArmsRow : OpenClaim := { program := "ytljbajnmkkebkaa", sum := "5a2a7a05afb14aefc398a3d5a6ae80628bc0a7c3e851865ba58949f68201d1c5", func := "timesync/timesynclaw54.LeapvoteArms", spec := "leapvoteArms", unfollowed := true, recurses := true, apart := false }
def LeapvoteArmsSaid : Prop := leapvoteArmsRow.holds Try.pinned (OpenSpec.ofChange leapvoteArmsSpec)

/-- ITS FALSE NEIGHBOUR: 'it returns false'. Refute it at one input. -/
def leapvoteArmsWrong : ChangeSpec := { name := "leapvoteArms", fn := fun _ => fun
  | [d1, d2, d3] => { results := [.lit (.bool false)], args := [d1, d2, d3] }
  | _ => none }
def LeapvoteArmsWrongFalsely : Prop := leapvoteArmsRow.holds Try.pinned (OpenSpec.ofChange leapvoteArmsWrong)

/- THE SECOND FORM. 'bulk': how many values and letters a reading holds, each counted each time it is reached (what is shared counts as often as it is met; a slice's spare places count too). A statement '..UptoSaid' is the law's where the arguments, and the package variables that the reading takes, are together of bulk at most 1048576: NARROWER than '..Said'. Prove '..Said' where nothing that the law and all that it calls make is longer than what came in: it says more and counts as full. Else prove '..UptoSaid'. A law counts once. -/
mutual
def uptoBulk {H : Type} : DataW H → Nat
  | .lit (.string bytes) => bytes.length + 1
  | .lit _ => 1
  | .nil => 1
  | .ptr d => uptoBulk d + 1
  | .slice elems spare => uptoBulkAll elems + uptoBulkAll spare + 1
  | .agg parts => uptoBulkAll parts + 1
  | .iface _ d => uptoBulk d + 1
  | .map entries => uptoBulkEntries entries + 1
  | .held _ => 1
def uptoBulkAll {H : Type} : List (DataW H) → Nat
  | [] => 0
  | d :: r => uptoBulk d + uptoBulkAll r
def uptoBulkEntries {H : Type} : List (Lit × DataW H) → Nat
  | [] => 0
  | x :: r => uptoBulkEntry x + uptoBulkEntries r
def uptoBulkEntry {H : Type} : Lit × DataW H → Nat
  | (.string bytes, d) => bytes.length + uptoBulk d + 1
  | (_, d) => uptoBulk d + 1
 end
def uptoSmall : (H : Type) → List (DataW H) → Bool := fun _ ds => decide (uptoBulkAll ds ≤ 1048576)
def OpenSpec.upto (s : _root_.Go.ChangeSpec) : _root_.Go.OpenSpec := { _root_.Go.OpenSpec.ofChange s with cond := some uptoSmall }

/-- 'timesynctop.TopScales', WHERE WHAT IT READS IS OF BULK AT MOST 1048576: true; the input reads as it did. -/
def topScalesUptoRow : OpenClaim := { program := "ytljbajnmkkebkaa", sum := "5a2a7a05afb14aefc398a3d5a6ae80628bc0a7c3e851865ba58949f68201d1c5", func := "timesync/timesynctop.TopScales", spec := "topScales", unfollowed := true, recurses := true, apart := false, narrowed := true }
def TopScalesUptoSaid : Prop := topScalesUptoRow.holds Try.pinned (OpenSpec.upto topScalesSpec)

/-- 'timesynctop.TopVotes', WHERE WHAT IT READS IS OF BULK AT MOST 1048576: true; the input reads as it did. -/
def topVotesUptoRow : OpenClaim := { program := "ytljbajnmkkebkaa", sum := "5a2a7a05afb14aefc398a3d5a6ae80628bc0a7c3e851865ba58949f68201d1c5", func := "timesync/timesynctop.TopVotes", spec := "topVotes", unfollowed := true, recurses := true, apart := false, narrowed := true }
def TopVotesUptoSaid : Prop := topVotesUptoRow.holds Try.pinned (OpenSpec.upto topVotesSpec)

/-- 'timesynclaw54.LeapvoteRuns', WHERE WHAT IT READS IS OF BULK AT MOST 1048576: true; the input reads as it did. -/
def leapvoteRunsUptoRow : OpenClaim := { program := "ytljbajnmkkebkaa", sum := "5a2a7a05afb14aefc398a3d5a6ae80628bc0a7c3e851865ba58949f68201d1c5", func := "timesync/timesynclaw54.LeapvoteRuns", spec := "leapvoteRuns", unfollowed := true, recurses := true, apart := false, narrowed := true }
def LeapvoteRunsUptoSaid : Prop := leapvoteRunsUptoRow.holds Try.pinned (OpenSpec.upto leapvoteRunsSpec)

/-- 'timesynclaw54.LeapvoteExtends', WHERE WHAT IT READS IS OF BULK AT MOST 1048576: true; the input reads as it did. -/
def leapvoteExtendsUptoRow : OpenClaim := { program := "ytljbajnmkkebkaa", sum := "5a2a7a05afb14aefc398a3d5a6ae80628bc0a7c3e851865ba58949f68201d1c5", func := "timesync/timesynclaw54.LeapvoteExtends", spec := "leapvoteExtends", unfollowed := true, recurses := true, apart := false, narrowed := true }
def LeapvoteExtendsUptoSaid : Prop := leapvoteExtendsUptoRow.holds Try.pinned (OpenSpec.upto leapvoteExtendsSpec)

/-- 'timesynclaw54.LeapvoteMajority', WHERE WHAT IT READS IS OF BULK AT MOST 1048576: true; the input reads as it did. -/
def leapvoteMajorityUptoRow : OpenClaim := { program := "ytljbajnmkkebkaa", sum := "5a2a7a05afb14aefc398a3d5a6ae80628bc0a7c3e851865ba58949f68201d1c5", func := "timesync/timesynclaw54.LeapvoteMajority", spec := "leapvoteMajority", unfollowed := true, recurses := true, apart := false, narrowed := true }
def LeapvoteMajorityUptoSaid : Prop := leapvoteMajorityUptoRow.holds Try.pinned (OpenSpec.upto leapvoteMajoritySpec)

/-- 'timesynclaw54.LeapvoteNobody', WHERE WHAT IT READS IS OF BULK AT MOST 1048576: true; the input reads as it did. -/
def leapvoteNobodyUptoRow : OpenClaim := { program := "ytljbajnmkkebkaa", sum := "5a2a7a05afb14aefc398a3d5a6ae80628bc0a7c3e851865ba58949f68201d1c5", func := "timesync/timesynclaw54.LeapvoteNobody", spec := "leapvoteNobody", unfollowed := true, recurses := true, apart := false, narrowed := true }
def LeapvoteNobodyUptoSaid : Prop := leapvoteNobodyUptoRow.holds Try.pinned (OpenSpec.upto leapvoteNobodySpec)

/-- 'timesynclaw54.LeapvoteArms', WHERE WHAT IT READS IS OF BULK AT MOST 1048576: true; the input reads as it did. -/
def leapvoteArmsUptoRow : OpenClaim := { program := "ytljbajnmkkebkaa", sum := "5a2a7a05afb14aefc398a3d5a6ae80628bc0a7c3e851865ba58949f68201d1c5", func := "timesync/timesynclaw54.LeapvoteArms", spec := "leapvoteArms", unfollowed := true, recurses := true, apart := false, narrowed := true }
def LeapvoteArmsUptoSaid : Prop := leapvoteArmsUptoRow.holds Try.pinned (OpenSpec.upto leapvoteArmsSpec)

end Rows
end Go.Proofs.Ytljbajnmkkebkaa
