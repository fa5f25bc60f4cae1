/-
  No cell of these rows narrows 'for every input' (looked for: loops, veiled, ifaces, maps, wideKeys, modest, calm, conditions, laid).
  DERIVED. THE GIVEN ROWS OF THIS SEAT. 9 by the template 'for every input the law returns true; each argument reads behind the call as it read before'; 0 by the template 'total and deterministic' (their statements: YtckihjkcgfphmaaGreatTotals.lean).
  GIVEN WITH THE SEED: the statements are not yours to turn. If you find one false, say at which input.
  Laid BY PROGRAM, IN A SANDBOX (cutbox-rows.mjs): the forced cells as the released guide's own fill.sh prints them over the translation ee0ccdea948b329a… (all of the seat's roots in one cut). By AI agents, Wed Nov 11 2026. No macro, syntax, notation, axiom, sorry.
-/
import Derived.Test.YtckihjkcgfphmaaGreatChecked
import GoSem.Claim
import GoSem.ClaimJoined
import GoSem.ClaimMapViews
import Derived.JoinedTies
import Derived.KernelRfl
namespace Go.Proofs.YtckihjkcgfphmaaGreat
/- THE CELL 'sum', in the pinned program and in every row, IS THE sha256 OF THE DUMP (.gsa) THAT YtckihjkcgfphmaaGreatProg.lean LOADS. Nothing in Lean hashes anything: it is a label: what it is worth is what the hold of that sum in a sandbox is worth. -/
noncomputable def Tryz.pinned : Pinned := { name := "ytckihjkcgfphmaagreat", sum := "ee0ccdea948b329ae271ba66a849b9001e961cfdfe1190299a0ecf5ed24051b5", checked := Tryz.checked }
namespace Rows
def none {H : Type} : Left H := { results := [], args := [] }

/-- 'laws.FnSound': WHATEVER THE INPUT: true; the input reads as it did. -/
def fnSoundSpec : ChangeSpec := { name := "fnSound", fn := fun _ => fun
  | [d] => { results := [.lit (.bool true)], args := [d] }
  | _ => none }
def fnSoundRow : OpenClaim := { program := "ytckihjkcgfphmaagreat", sum := "ee0ccdea948b329ae271ba66a849b9001e961cfdfe1190299a0ecf5ed24051b5", func := "loop.example/borrowcheck/laws.FnSound", spec := "fnSound", unfollowed := true, recurses := true, apart := false }
def FnSoundSaid : Prop := fnSoundRow.holds Tryz.pinned (OpenSpec.ofChange fnSoundSpec)

/-- ITS FALSE NEIGHBOUR: 'it returns false'. Refute it at one input. -/
def fnSoundWrong : ChangeSpec := { name := "fnSound", fn := fun _ => fun
  | [d] => { results := [.lit (.bool false)], args := [d] }
  | _ => none }
def FnSoundWrongFalsely : Prop := fnSoundRow.holds Tryz.pinned (OpenSpec.ofChange fnSoundWrong)

/-- 'laws.FnCountWrong': WHATEVER THE INPUT: true; the input reads as it did. -/
def fnCountWrongSpec : ChangeSpec := { name := "fnCountWrong", fn := fun _ => fun
  | [d] => { results := [.lit (.bool true)], args := [d] }
  | _ => none }
def fnCountWrongRow : OpenClaim := { program := "ytckihjkcgfphmaagreat", sum := "ee0ccdea948b329ae271ba66a849b9001e961cfdfe1190299a0ecf5ed24051b5", func := "loop.example/borrowcheck/laws.FnCountWrong", spec := "fnCountWrong", unfollowed := true, recurses := true, apart := false }
def FnCountWrongSaid : Prop := fnCountWrongRow.holds Tryz.pinned (OpenSpec.ofChange fnCountWrongSpec)

/-- ITS FALSE NEIGHBOUR: 'it returns false'. Refute it at one input. -/
def fnCountWrongWrong : ChangeSpec := { name := "fnCountWrong", fn := fun _ => fun
  | [d] => { results := [.lit (.bool false)], args := [d] }
  | _ => none }
def FnCountWrongWrongFalsely : Prop := fnCountWrongRow.holds Tryz.pinned (OpenSpec.ofChange fnCountWrongWrong)

/-- 'laws.FnSafePrefix': WHATEVER THE INPUT: true; the input reads as it did. -/
def fnSafePrefixSpec : ChangeSpec := { name := "fnSafePrefix", fn := fun _ => fun
  | [d] => { results := [.lit (.bool true)], args := [d] }
  | _ => none }
def fnSafePrefixRow : OpenClaim := { program := "ytckihjkcgfphmaagreat", sum := "ee0ccdea948b329ae271ba66a849b9001e961cfdfe1190299a0ecf5ed24051b5", func := "loop.example/borrowcheck/laws.FnSafePrefix", spec := "fnSafePrefix", unfollowed := true, recurses := true, apart := false }
def FnSafePrefixSaid : Prop := fnSafePrefixRow.holds Tryz.pinned (OpenSpec.ofChange fnSafePrefixSpec)

/-- ITS FALSE NEIGHBOUR: 'it returns false'. Refute it at one input. -/
def fnSafePrefixWrong : ChangeSpec := { name := "fnSafePrefix", fn := fun _ => fun
  | [d] => { results := [.lit (.bool false)], args := [d] }
  | _ => none }
def FnSafePrefixWrongFalsely : Prop := fnSafePrefixRow.holds Tryz.pinned (OpenSpec.ofChange fnSafePrefixWrong)

/-- 'laws.FnSafeUpTo': WHATEVER THE INPUT: true; the input reads as it did. -/
def fnSafeUpToSpec : ChangeSpec := { name := "fnSafeUpTo", fn := fun _ => fun
  | [d] => { results := [.lit (.bool true)], args := [d] }
  | _ => none }
def fnSafeUpToRow : OpenClaim := { program := "ytckihjkcgfphmaagreat", sum := "ee0ccdea948b329ae271ba66a849b9001e961cfdfe1190299a0ecf5ed24051b5", func := "loop.example/borrowcheck/laws.FnSafeUpTo", spec := "fnSafeUpTo", unfollowed := true, recurses := true, apart := false }
def FnSafeUpToSaid : Prop := fnSafeUpToRow.holds Tryz.pinned (OpenSpec.ofChange fnSafeUpToSpec)

/-- ITS FALSE NEIGHBOUR: 'it returns false'. Refute it at one input. -/
def fnSafeUpToWrong : ChangeSpec := { name := "fnSafeUpTo", fn := fun _ => fun
  | [d] => { results := [.lit (.bool false)], args := [d] }
  | _ => none }
def FnSafeUpToWrongFalsely : Prop := fnSafeUpToRow.holds Tryz.pinned (OpenSpec.ofChange fnSafeUpToWrong)

/-- 'laws.FnFirstWrong': WHATEVER THE INPUT: true; the input reads as it did. -/
def fnFirstWrongSpec : ChangeSpec := { name := "fnFirstWrong", fn := fun _ => fun
  | [d] => { results := [.lit (.bool true)], args := [d] }
  | _ => none }
def fnFirstWrongRow : OpenClaim := { program := "ytckihjkcgfphmaagreat", sum := "ee0ccdea948b329ae271ba66a849b9001e961cfdfe1190299a0ecf5ed24051b5", func := "loop.example/borrowcheck/laws.FnFirstWrong", spec := "fnFirstWrong", unfollowed := true, recurses := true, apart := false }
def FnFirstWrongSaid : Prop := fnFirstWrongRow.holds Tryz.pinned (OpenSpec.ofChange fnFirstWrongSpec)

/-- ITS FALSE NEIGHBOUR: 'it returns false'. Refute it at one input. -/
def fnFirstWrongWrong : ChangeSpec := { name := "fnFirstWrong", fn := fun _ => fun
  | [d] => { results := [.lit (.bool false)], args := [d] }
  | _ => none }
def FnFirstWrongWrongFalsely : Prop := fnFirstWrongRow.holds Tryz.pinned (OpenSpec.ofChange fnFirstWrongWrong)

/-- 'laws.FnWrongPoints': WHATEVER THE INPUT: true; the input reads as it did. -/
def fnWrongPointsSpec : ChangeSpec := { name := "fnWrongPoints", fn := fun _ => fun
  | [d] => { results := [.lit (.bool true)], args := [d] }
  | _ => none }
def fnWrongPointsRow : OpenClaim := { program := "ytckihjkcgfphmaagreat", sum := "ee0ccdea948b329ae271ba66a849b9001e961cfdfe1190299a0ecf5ed24051b5", func := "loop.example/borrowcheck/laws.FnWrongPoints", spec := "fnWrongPoints", unfollowed := true, recurses := true, apart := false }
def FnWrongPointsSaid : Prop := fnWrongPointsRow.holds Tryz.pinned (OpenSpec.ofChange fnWrongPointsSpec)

/-- ITS FALSE NEIGHBOUR: 'it returns false'. Refute it at one input. -/
def fnWrongPointsWrong : ChangeSpec := { name := "fnWrongPoints", fn := fun _ => fun
  | [d] => { results := [.lit (.bool false)], args := [d] }
  | _ => none }
def FnWrongPointsWrongFalsely : Prop := fnWrongPointsRow.holds Tryz.pinned (OpenSpec.ofChange fnWrongPointsWrong)

/-- 'laws.FnRunIssue': WHATEVER THE INPUT: true; the input reads as it did. -/
def fnRunIssueSpec : ChangeSpec := { name := "fnRunIssue", fn := fun _ => fun
  | [d] => { results := [.lit (.bool true)], args := [d] }
  | _ => none }
def fnRunIssueRow : OpenClaim := { program := "ytckihjkcgfphmaagreat", sum := "ee0ccdea948b329ae271ba66a849b9001e961cfdfe1190299a0ecf5ed24051b5", func := "loop.example/borrowcheck/laws.FnRunIssue", spec := "fnRunIssue", unfollowed := true, recurses := true, apart := false }
def FnRunIssueSaid : Prop := fnRunIssueRow.holds Tryz.pinned (OpenSpec.ofChange fnRunIssueSpec)

/-- ITS FALSE NEIGHBOUR: 'it returns false'. Refute it at one input. -/
def fnRunIssueWrong : ChangeSpec := { name := "fnRunIssue", fn := fun _ => fun
  | [d] => { results := [.lit (.bool false)], args := [d] }
  | _ => none }
def FnRunIssueWrongFalsely : Prop := fnRunIssueRow.holds Tryz.pinned (OpenSpec.ofChange fnRunIssueWrong)

/-- 'laws.FnRepairSafe': WHATEVER THE INPUT: true; the input reads as it did. -/
def fnRepairSafeSpec : ChangeSpec := { name := "fnRepairSafe", fn := fun _ => fun
  | [d] => { results := [.lit (.bool true)], args := [d] }
  | _ => none }
def fnRepairSafeRow : OpenClaim := { program := "ytckihjkcgfphmaagreat", sum := "ee0ccdea948b329ae271ba66a849b9001e961cfdfe1190299a0ecf5ed24051b5", func := "loop.example/borrowcheck/laws.FnRepairSafe", spec := "fnRepairSafe", unfollowed := true, recurses := true, apart := false }
def FnRepairSafeSaid : Prop := fnRepairSafeRow.holds Tryz.pinned (OpenSpec.ofChange fnRepairSafeSpec)

/-- ITS FALSE NEIGHBOUR: 'it returns false'. Refute it at one input. -/
def fnRepairSafeWrong : ChangeSpec := { name := "fnRepairSafe", fn := fun _ => fun
  | [d] => { results := [.lit (.bool false)], args := [d] }
  | _ => none }
def FnRepairSafeWrongFalsely : Prop := fnRepairSafeRow.holds Tryz.pinned (OpenSpec.ofChange fnRepairSafeWrong)

/-- 'laws.FnRealIssue': WHATEVER THE INPUT: true; the input reads as it did. -/
def fnRealIssueSpec : ChangeSpec := { name := "fnRealIssue", fn := fun _ => fun
  | [d] => { results := [.lit (.bool true)], args := [d] }
  | _ => none }
def fnRealIssueRow : OpenClaim := { program := "ytckihjkcgfphmaagreat", sum := "ee0ccdea948b329ae271ba66a849b9001e961cfdfe1190299a0ecf5ed24051b5", func := "loop.example/borrowcheck/laws.FnRealIssue", spec := "fnRealIssue", unfollowed := true, recurses := true, apart := false }
def FnRealIssueSaid : Prop := fnRealIssueRow.holds Tryz.pinned (OpenSpec.ofChange fnRealIssueSpec)

/-- ITS FALSE NEIGHBOUR: 'it returns false'. Refute it at one input. -/
def fnRealIssueWrong : ChangeSpec := { name := "fnRealIssue", fn := fun _ => fun
  | [d] => { results := [.lit (.bool false)], args := [d] }
  | _ => none }
def FnRealIssueWrongFalsely : Prop := fnRealIssueRow.holds Tryz.pinned (OpenSpec.ofChange fnRealIssueWrong)

/- THE SECOND FORM. 'bulk': how many values and letters a reading holds, each counted each time it is reached (what is shared counts as often as it is met; a slice's spare places count too). A statement '..UptoSaid' is the law's where the arguments, and the package variables that the reading takes, are together of bulk at most 1048576: NARROWER than '..Said'. Prove '..Said' where nothing that the law and all that it calls make is longer than what came in: it says more and counts as full. Else prove '..UptoSaid'. A law counts once. -/
mutual
def uptoBulk {H : Type} : DataW H → Nat
  | .lit (.string bytes) => bytes.length + 1
  | .lit _ => 1
  | .nil => 1
  | .ptr d => uptoBulk d + 1
  | .slice elems spare => uptoBulkAll elems + uptoBulkAll spare + 1
  | .agg parts => uptoBulkAll parts + 1
  | .iface _ d => uptoBulk d + 1
  | .map entries => uptoBulkEntries entries + 1
  | .held _ => 1
def uptoBulkAll {H : Type} : List (DataW H) → Nat
  | [] => 0
  | d :: r => uptoBulk d + uptoBulkAll r
def uptoBulkEntries {H : Type} : List (Lit × DataW H) → Nat
  | [] => 0
  | x :: r => uptoBulkEntry x + uptoBulkEntries r
def uptoBulkEntry {H : Type} : Lit × DataW H → Nat
  | (.string bytes, d) => bytes.length + uptoBulk d + 1
  | (_, d) => uptoBulk d + 1
 end
def uptoSmall : (H : Type) → List (DataW H) → Bool := fun _ ds => decide (uptoBulkAll ds ≤ 1048576)
def OpenSpec.upto (s : _root_.Go.ChangeSpec) : _root_.Go.OpenSpec := { _root_.Go.OpenSpec.ofChange s with cond := some uptoSmall }

/-- 'laws.FnSound', WHERE WHAT IT READS IS OF BULK AT MOST 1048576: true; the input reads as it did. -/
def fnSoundUptoRow : OpenClaim := { program := "ytckihjkcgfphmaagreat", sum := "ee0ccdea948b329ae271ba66a849b9001e961cfdfe1190299a0ecf5ed24051b5", func := "loop.example/borrowcheck/laws.FnSound", spec := "fnSound", unfollowed := true, recurses := true, apart := false, narrowed := true }
def FnSoundUptoSaid : Prop := fnSoundUptoRow.holds Tryz.pinned (OpenSpec.upto fnSoundSpec)

/-- 'laws.FnCountWrong', WHERE WHAT IT READS IS OF BULK AT MOST 1048576: true; the input reads as it did. -/
def fnCountWrongUptoRow : OpenClaim := { program := "ytckihjkcgfphmaagreat", sum := "ee0ccdea948b329ae271ba66a849b9001e961cfdfe1190299a0ecf5ed24051b5", func := "loop.example/borrowcheck/laws.FnCountWrong", spec := "fnCountWrong", unfollowed := true, recurses := true, apart := false, narrowed := true }
def FnCountWrongUptoSaid : Prop := fnCountWrongUptoRow.holds Tryz.pinned (OpenSpec.upto fnCountWrongSpec)

/-- 'laws.FnSafePrefix', WHERE WHAT IT READS IS OF BULK AT MOST 1048576: true; the input reads as it did. -/
def fnSafePrefixUptoRow : OpenClaim := { program := "ytckihjkcgfphmaagreat", sum := "ee0ccdea948b329ae271ba66a849b9001e961cfdfe1190299a0ecf5ed24051b5", func := "loop.example/borrowcheck/laws.FnSafePrefix", spec := "fnSafePrefix", unfollowed := true, recurses := true, apart := false, narrowed := true }
def FnSafePrefixUptoSaid : Prop := fnSafePrefixUptoRow.holds Tryz.pinned (OpenSpec.upto fnSafePrefixSpec)

/-- 'laws.FnSafeUpTo', WHERE WHAT IT READS IS OF BULK AT MOST 1048576: true; the input reads as it did. -/
def fnSafeUpToUptoRow : OpenClaim := { program := "ytckihjkcgfphmaagreat", sum := "ee0ccdea948b329ae271ba66a849b9001e961cfdfe1190299a0ecf5ed24051b5", func := "loop.example/borrowcheck/laws.FnSafeUpTo", spec := "fnSafeUpTo", unfollowed := true, recurses := true, apart := false, narrowed := true }
def FnSafeUpToUptoSaid : Prop := fnSafeUpToUptoRow.holds Tryz.pinned (OpenSpec.upto fnSafeUpToSpec)

/-- 'laws.FnFirstWrong', WHERE WHAT IT READS IS OF BULK AT MOST 1048576: true; the input reads as it did. -/
def fnFirstWrongUptoRow : OpenClaim := { program := "ytckihjkcgfphmaagreat", sum := "ee0ccdea948b329ae271ba66a849b9001e961cfdfe1190299a0ecf5ed24051b5", func := "loop.example/borrowcheck/laws.FnFirstWrong", spec := "fnFirstWrong", unfollowed := true, recurses := true, apart := false, narrowed := true }
def FnFirstWrongUptoSaid : Prop := fnFirstWrongUptoRow.holds Tryz.pinned (OpenSpec.upto fnFirstWrongSpec)

/-- 'laws.FnWrongPoints', WHERE WHAT IT READS IS OF BULK AT MOST 1048576: true; the input reads as it did. -/
def fnWrongPointsUptoRow : OpenClaim := { program := "ytckihjkcgfphmaagreat", sum := "ee0ccdea948b329ae271ba66a849b9001e961cfdfe1190299a0ecf5ed24051b5", func := "loop.example/borrowcheck/laws.FnWrongPoints", spec := "fnWrongPoints", unfollowed := true, recurses := true, apart := false, narrowed := true }
def FnWrongPointsUptoSaid : Prop := fnWrongPointsUptoRow.holds Tryz.pinned (OpenSpec.upto fnWrongPointsSpec)

/-- 'laws.FnRunIssue', WHERE WHAT IT READS IS OF BULK AT MOST 1048576: true; the input reads as it did. -/
def fnRunIssueUptoRow : OpenClaim := { program := "ytckihjkcgfphmaagreat", sum := "ee0ccdea948b329ae271ba66a849b9001e961cfdfe1190299a0ecf5ed24051b5", func := "loop.example/borrowcheck/laws.FnRunIssue", spec := "fnRunIssue", unfollowed := true, recurses := true, apart := false, narrowed := true }
def FnRunIssueUptoSaid : Prop := fnRunIssueUptoRow.holds Tryz.pinned (OpenSpec.upto fnRunIssueSpec)

/-- 'laws.FnRepairSafe', WHERE WHAT IT READS IS OF BULK AT MOST 1048576: true; the input reads as it did. -/
def fnRepairSafeUptoRow : OpenClaim := { program := "ytckihjkcgfphmaagreat", sum := "ee0ccdea948b329ae271ba66a849b9001e961cfdfe1190299a0ecf5ed24051b5", func := "loop.example/borrowcheck/laws.FnRepairSafe", spec := "fnRepairSafe", unfollowed := true, recurses := true, apart := false, narrowed := true }
def FnRepairSafeUptoSaid : Prop := fnRepairSafeUptoRow.holds Tryz.pinned (OpenSpec.upto fnRepairSafeSpec)

/-- 'laws.FnRealIssue', WHERE WHAT IT READS IS OF BULK AT MOST 1048576: true; the input reads as it did. -/
def fnRealIssueUptoRow : OpenClaim := { program := "ytckihjkcgfphmaagreat", sum := "ee0ccdea948b329ae271ba66a849b9001e961cfdfe1190299a0ecf5ed24051b5", func := "loop.example/borrowcheck/laws.FnRealIssue", spec := "fnRealIssue", unfollowed := true, recurses := true, apart := false, narrowed := true }
def FnRealIssueUptoSaid : Prop := fnRealIssueUptoRow.holds Tryz.pinned (OpenSpec.upto fnRealIssueSpec)

end Rows
end Go.Proofs.YtckihjkcgfphmaaGreat
