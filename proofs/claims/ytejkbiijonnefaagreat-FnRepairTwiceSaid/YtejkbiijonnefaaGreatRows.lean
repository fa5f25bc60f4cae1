/-
  NARROWER THAN 'FOR EVERY INPUT', by the rows' own cells (each row's printed sentence says how): FnExactRepairProgram: loops.
  DERIVED. THE GIVEN ROWS OF THIS SEAT. 11 by the template 'for every input the law returns true; each argument reads behind the call as it read before'; 0 by the template 'total and deterministic' (their statements: YtejkbiijonnefaaGreatTotals.lean).
  GIVEN WITH THE SEED: the statements are not yours to turn. If you find one false, say at which input.
  Laid BY PROGRAM, IN A SANDBOX (cutbox-rows.mjs): the forced cells as the released guide's own fill.sh prints them over the translation c92bac26c10b0deb… (all of the seat's roots in one cut). By AI agents, Wed Nov 11 2026. No macro, syntax, notation, axiom, sorry.
-/
import Derived.Test.YtejkbiijonnefaaGreatChecked
import GoSem.Claim
import GoSem.ClaimJoined
import GoSem.ClaimMapViews
import Derived.JoinedTies
import Derived.KernelRfl
namespace Go.Proofs.YtejkbiijonnefaaGreat
/- THE CELL 'sum', in the pinned program and in every row, IS THE sha256 OF THE DUMP (.gsa) THAT YtejkbiijonnefaaGreatProg.lean LOADS. Nothing in Lean hashes anything: it is a label: what it is worth is what the hold of that sum in a sandbox is worth. -/
noncomputable def Tryz.pinned : Pinned := { name := "ytejkbiijonnefaagreat", sum := "c92bac26c10b0deb3c2b5dbf7487d9f7adb9e8ac8a6a7179c7924526e7216aa1", checked := Tryz.checked }
namespace Rows
def none {H : Type} : Left H := { results := [], args := [] }

/-- 'laws.FnIssueKinds': WHATEVER THE INPUT: true; the input reads as it did. -/
def fnIssueKindsSpec : ChangeSpec := { name := "fnIssueKinds", fn := fun _ => fun
  | [d] => { results := [.lit (.bool true)], args := [d] }
  | _ => none }
def fnIssueKindsRow : OpenClaim := { program := "ytejkbiijonnefaagreat", sum := "c92bac26c10b0deb3c2b5dbf7487d9f7adb9e8ac8a6a7179c7924526e7216aa1", func := "loop.example/borrowcheck/laws.FnIssueKinds", spec := "fnIssueKinds", unfollowed := true, recurses := true, apart := false }
def FnIssueKindsSaid : Prop := fnIssueKindsRow.holds Tryz.pinned (OpenSpec.ofChange fnIssueKindsSpec)

/-- ITS FALSE NEIGHBOUR: 'it returns false'. Refute it at one input. -/
def fnIssueKindsWrong : ChangeSpec := { name := "fnIssueKinds", fn := fun _ => fun
  | [d] => { results := [.lit (.bool false)], args := [d] }
  | _ => none }
def FnIssueKindsWrongFalsely : Prop := fnIssueKindsRow.holds Tryz.pinned (OpenSpec.ofChange fnIssueKindsWrong)

/-- 'laws.FnNoReferences': WHATEVER THE INPUT: true; the input reads as it did. -/
def fnNoReferencesSpec : ChangeSpec := { name := "fnNoReferences", fn := fun _ => fun
  | [d] => { results := [.lit (.bool true)], args := [d] }
  | _ => none }
def fnNoReferencesRow : OpenClaim := { program := "ytejkbiijonnefaagreat", sum := "c92bac26c10b0deb3c2b5dbf7487d9f7adb9e8ac8a6a7179c7924526e7216aa1", func := "loop.example/borrowcheck/laws.FnNoReferences", spec := "fnNoReferences", unfollowed := true, recurses := true, apart := false }
def FnNoReferencesSaid : Prop := fnNoReferencesRow.holds Tryz.pinned (OpenSpec.ofChange fnNoReferencesSpec)

/-- ITS FALSE NEIGHBOUR: 'it returns false'. Refute it at one input. -/
def fnNoReferencesWrong : ChangeSpec := { name := "fnNoReferences", fn := fun _ => fun
  | [d] => { results := [.lit (.bool false)], args := [d] }
  | _ => none }
def FnNoReferencesWrongFalsely : Prop := fnNoReferencesRow.holds Tryz.pinned (OpenSpec.ofChange fnNoReferencesWrong)

/-- 'laws.FnConflictsAt': WHATEVER THE INPUT: true; the input reads as it did. -/
def fnConflictsAtSpec : ChangeSpec := { name := "fnConflictsAt", fn := fun _ => fun
  | [d] => { results := [.lit (.bool true)], args := [d] }
  | _ => none }
def fnConflictsAtRow : OpenClaim := { program := "ytejkbiijonnefaagreat", sum := "c92bac26c10b0deb3c2b5dbf7487d9f7adb9e8ac8a6a7179c7924526e7216aa1", func := "loop.example/borrowcheck/laws.FnConflictsAt", spec := "fnConflictsAt", unfollowed := true, recurses := true, apart := false }
def FnConflictsAtSaid : Prop := fnConflictsAtRow.holds Tryz.pinned (OpenSpec.ofChange fnConflictsAtSpec)

/-- ITS FALSE NEIGHBOUR: 'it returns false'. Refute it at one input. -/
def fnConflictsAtWrong : ChangeSpec := { name := "fnConflictsAt", fn := fun _ => fun
  | [d] => { results := [.lit (.bool false)], args := [d] }
  | _ => none }
def FnConflictsAtWrongFalsely : Prop := fnConflictsAtRow.holds Tryz.pinned (OpenSpec.ofChange fnConflictsAtWrong)

/-- 'laws.FnCheckProgram': WHATEVER THE INPUT: true; the input reads as it did. -/
def fnCheckProgramSpec : ChangeSpec := { name := "fnCheckProgram", fn := fun _ => fun
  | [d] => { results := [.lit (.bool true)], args := [d] }
  | _ => none }
def fnCheckProgramRow : OpenClaim := { program := "ytejkbiijonnefaagreat", sum := "c92bac26c10b0deb3c2b5dbf7487d9f7adb9e8ac8a6a7179c7924526e7216aa1", func := "loop.example/borrowcheck/laws.FnCheckProgram", spec := "fnCheckProgram", unfollowed := true, recurses := true, apart := false }
def FnCheckProgramSaid : Prop := fnCheckProgramRow.holds Tryz.pinned (OpenSpec.ofChange fnCheckProgramSpec)

/-- ITS FALSE NEIGHBOUR: 'it returns false'. Refute it at one input. -/
def fnCheckProgramWrong : ChangeSpec := { name := "fnCheckProgram", fn := fun _ => fun
  | [d] => { results := [.lit (.bool false)], args := [d] }
  | _ => none }
def FnCheckProgramWrongFalsely : Prop := fnCheckProgramRow.holds Tryz.pinned (OpenSpec.ofChange fnCheckProgramWrong)

/-- 'laws.FnUseAfter': WHATEVER THE INPUT: true; the input reads as it did. -/
def fnUseAfterSpec : ChangeSpec := { name := "fnUseAfter", fn := fun _ => fun
  | [d] => { results := [.lit (.bool true)], args := [d] }
  | _ => none }
def fnUseAfterRow : OpenClaim := { program := "ytejkbiijonnefaagreat", sum := "c92bac26c10b0deb3c2b5dbf7487d9f7adb9e8ac8a6a7179c7924526e7216aa1", func := "loop.example/borrowcheck/laws.FnUseAfter", spec := "fnUseAfter", unfollowed := true, recurses := true, apart := false }
def FnUseAfterSaid : Prop := fnUseAfterRow.holds Tryz.pinned (OpenSpec.ofChange fnUseAfterSpec)

/-- ITS FALSE NEIGHBOUR: 'it returns false'. Refute it at one input. -/
def fnUseAfterWrong : ChangeSpec := { name := "fnUseAfter", fn := fun _ => fun
  | [d] => { results := [.lit (.bool false)], args := [d] }
  | _ => none }
def FnUseAfterWrongFalsely : Prop := fnUseAfterRow.holds Tryz.pinned (OpenSpec.ofChange fnUseAfterWrong)

/-- 'laws.FnIssueUse': WHATEVER THE INPUT: true; the input reads as it did. -/
def fnIssueUseSpec : ChangeSpec := { name := "fnIssueUse", fn := fun _ => fun
  | [d] => { results := [.lit (.bool true)], args := [d] }
  | _ => none }
def fnIssueUseRow : OpenClaim := { program := "ytejkbiijonnefaagreat", sum := "c92bac26c10b0deb3c2b5dbf7487d9f7adb9e8ac8a6a7179c7924526e7216aa1", func := "loop.example/borrowcheck/laws.FnIssueUse", spec := "fnIssueUse", unfollowed := true, recurses := true, apart := false }
def FnIssueUseSaid : Prop := fnIssueUseRow.holds Tryz.pinned (OpenSpec.ofChange fnIssueUseSpec)

/-- ITS FALSE NEIGHBOUR: 'it returns false'. Refute it at one input. -/
def fnIssueUseWrong : ChangeSpec := { name := "fnIssueUse", fn := fun _ => fun
  | [d] => { results := [.lit (.bool false)], args := [d] }
  | _ => none }
def FnIssueUseWrongFalsely : Prop := fnIssueUseRow.holds Tryz.pinned (OpenSpec.ofChange fnIssueUseWrong)

/-- 'laws.FnExactRepairProgram': WHATEVER THE INPUT: true; the input reads as it did. -/
def fnExactRepairProgramSpec : ChangeSpec := { name := "fnExactRepairProgram", fn := fun _ => fun
  | [d] => { results := [.lit (.bool true)], args := [d] }
  | _ => none }
def fnExactRepairProgramRow : OpenClaim := { program := "ytejkbiijonnefaagreat", sum := "c92bac26c10b0deb3c2b5dbf7487d9f7adb9e8ac8a6a7179c7924526e7216aa1", func := "loop.example/borrowcheck/laws.FnExactRepairProgram", spec := "fnExactRepairProgram", unfollowed := true, recurses := true, loops := true, apart := false }
def FnExactRepairProgramSaid : Prop := fnExactRepairProgramRow.holds Tryz.pinned (OpenSpec.ofChange fnExactRepairProgramSpec)

/-- ITS FALSE NEIGHBOUR: 'it returns false'. Refute it at one input. -/
def fnExactRepairProgramWrong : ChangeSpec := { name := "fnExactRepairProgram", fn := fun _ => fun
  | [d] => { results := [.lit (.bool false)], args := [d] }
  | _ => none }
def FnExactRepairProgramWrongFalsely : Prop := fnExactRepairProgramRow.holds Tryz.pinned (OpenSpec.ofChange fnExactRepairProgramWrong)

/-- 'laws.FnRepairTwice': WHATEVER THE INPUT: true; the input reads as it did. -/
def fnRepairTwiceSpec : ChangeSpec := { name := "fnRepairTwice", fn := fun _ => fun
  | [d] => { results := [.lit (.bool true)], args := [d] }
  | _ => none }
def fnRepairTwiceRow : OpenClaim := { program := "ytejkbiijonnefaagreat", sum := "c92bac26c10b0deb3c2b5dbf7487d9f7adb9e8ac8a6a7179c7924526e7216aa1", func := "loop.example/borrowcheck/laws.FnRepairTwice", spec := "fnRepairTwice", unfollowed := true, recurses := true, apart := false }
def FnRepairTwiceSaid : Prop := fnRepairTwiceRow.holds Tryz.pinned (OpenSpec.ofChange fnRepairTwiceSpec)

/-- ITS FALSE NEIGHBOUR: 'it returns false'. Refute it at one input. -/
def fnRepairTwiceWrong : ChangeSpec := { name := "fnRepairTwice", fn := fun _ => fun
  | [d] => { results := [.lit (.bool false)], args := [d] }
  | _ => none }
def FnRepairTwiceWrongFalsely : Prop := fnRepairTwiceRow.holds Tryz.pinned (OpenSpec.ofChange fnRepairTwiceWrong)

/-- 'laws.FnRepairProgram': WHATEVER THE INPUT: true; the input reads as it did. -/
def fnRepairProgramSpec : ChangeSpec := { name := "fnRepairProgram", fn := fun _ => fun
  | [d] => { results := [.lit (.bool true)], args := [d] }
  | _ => none }
def fnRepairProgramRow : OpenClaim := { program := "ytejkbiijonnefaagreat", sum := "c92bac26c10b0deb3c2b5dbf7487d9f7adb9e8ac8a6a7179c7924526e7216aa1", func := "loop.example/borrowcheck/laws.FnRepairProgram", spec := "fnRepairProgram", unfollowed := true, recurses := true, apart := false }
def FnRepairProgramSaid : Prop := fnRepairProgramRow.holds Tryz.pinned (OpenSpec.ofChange fnRepairProgramSpec)

/-- ITS FALSE NEIGHBOUR: 'it returns false'. Refute it at one input. -/
def fnRepairProgramWrong : ChangeSpec := { name := "fnRepairProgram", fn := fun _ => fun
  | [d] => { results := [.lit (.bool false)], args := [d] }
  | _ => none }
def FnRepairProgramWrongFalsely : Prop := fnRepairProgramRow.holds Tryz.pinned (OpenSpec.ofChange fnRepairProgramWrong)

/-- 'laws.FnCheckRegions': WHATEVER THE INPUT: true; the input reads as it did. -/
def fnCheckRegionsSpec : ChangeSpec := { name := "fnCheckRegions", fn := fun _ => fun
  | [d] => { results := [.lit (.bool true)], args := [d] }
  | _ => none }
def fnCheckRegionsRow : OpenClaim := { program := "ytejkbiijonnefaagreat", sum := "c92bac26c10b0deb3c2b5dbf7487d9f7adb9e8ac8a6a7179c7924526e7216aa1", func := "loop.example/borrowcheck/laws.FnCheckRegions", spec := "fnCheckRegions", unfollowed := true, recurses := true, apart := false }
def FnCheckRegionsSaid : Prop := fnCheckRegionsRow.holds Tryz.pinned (OpenSpec.ofChange fnCheckRegionsSpec)

/-- ITS FALSE NEIGHBOUR: 'it returns false'. Refute it at one input. -/
def fnCheckRegionsWrong : ChangeSpec := { name := "fnCheckRegions", fn := fun _ => fun
  | [d] => { results := [.lit (.bool false)], args := [d] }
  | _ => none }
def FnCheckRegionsWrongFalsely : Prop := fnCheckRegionsRow.holds Tryz.pinned (OpenSpec.ofChange fnCheckRegionsWrong)

/-- 'laws.FnRegionsUnset': WHATEVER THE INPUT: true; the input reads as it did. -/
def fnRegionsUnsetSpec : ChangeSpec := { name := "fnRegionsUnset", fn := fun _ => fun
  | [d] => { results := [.lit (.bool true)], args := [d] }
  | _ => none }
def fnRegionsUnsetRow : OpenClaim := { program := "ytejkbiijonnefaagreat", sum := "c92bac26c10b0deb3c2b5dbf7487d9f7adb9e8ac8a6a7179c7924526e7216aa1", func := "loop.example/borrowcheck/laws.FnRegionsUnset", spec := "fnRegionsUnset", unfollowed := true, recurses := true, apart := false }
def FnRegionsUnsetSaid : Prop := fnRegionsUnsetRow.holds Tryz.pinned (OpenSpec.ofChange fnRegionsUnsetSpec)

/-- ITS FALSE NEIGHBOUR: 'it returns false'. Refute it at one input. -/
def fnRegionsUnsetWrong : ChangeSpec := { name := "fnRegionsUnset", fn := fun _ => fun
  | [d] => { results := [.lit (.bool false)], args := [d] }
  | _ => none }
def FnRegionsUnsetWrongFalsely : Prop := fnRegionsUnsetRow.holds Tryz.pinned (OpenSpec.ofChange fnRegionsUnsetWrong)

/- THE SECOND FORM. 'bulk': how many values and letters a reading holds, each counted each time it is reached (what is shared counts as often as it is met; a slice's spare places count too). A statement '..UptoSaid' is the law's where the arguments, and the package variables that the reading takes, are together of bulk at most 1048576: NARROWER than '..Said'. Prove '..Said' where nothing that the law and all that it calls make is longer than what came in: it says more and counts as full. Else prove '..UptoSaid'. A law counts once. -/
mutual
def uptoBulk {H : Type} : DataW H → Nat
  | .lit (.string bytes) => bytes.length + 1
  | .lit _ => 1
  | .nil => 1
  | .ptr d => uptoBulk d + 1
  | .slice elems spare => uptoBulkAll elems + uptoBulkAll spare + 1
  | .agg parts => uptoBulkAll parts + 1
  | .iface _ d => uptoBulk d + 1
  | .map entries => uptoBulkEntries entries + 1
  | .held _ => 1
def uptoBulkAll {H : Type} : List (DataW H) → Nat
  | [] => 0
  | d :: r => uptoBulk d + uptoBulkAll r
def uptoBulkEntries {H : Type} : List (Lit × DataW H) → Nat
  | [] => 0
  | x :: r => uptoBulkEntry x + uptoBulkEntries r
def uptoBulkEntry {H : Type} : Lit × DataW H → Nat
  | (.string bytes, d) => bytes.length + uptoBulk d + 1
  | (_, d) => uptoBulk d + 1
 end
def uptoSmall : (H : Type) → List (DataW H) → Bool := fun _ ds => decide (uptoBulkAll ds ≤ 1048576)
def OpenSpec.upto (s : _root_.Go.ChangeSpec) : _root_.Go.OpenSpec := { _root_.Go.OpenSpec.ofChange s with cond := some uptoSmall }

/-- 'laws.FnIssueKinds', WHERE WHAT IT READS IS OF BULK AT MOST 1048576: true; the input reads as it did. -/
def fnIssueKindsUptoRow : OpenClaim := { program := "ytejkbiijonnefaagreat", sum := "c92bac26c10b0deb3c2b5dbf7487d9f7adb9e8ac8a6a7179c7924526e7216aa1", func := "loop.example/borrowcheck/laws.FnIssueKinds", spec := "fnIssueKinds", unfollowed := true, recurses := true, apart := false, narrowed := true }
def FnIssueKindsUptoSaid : Prop := fnIssueKindsUptoRow.holds Tryz.pinned (OpenSpec.upto fnIssueKindsSpec)

/-- 'laws.FnNoReferences', WHERE WHAT IT READS IS OF BULK AT MOST 1048576: true; the input reads as it did. -/
def fnNoReferencesUptoRow : OpenClaim := { program := "ytejkbiijonnefaagreat", sum := "c92bac26c10b0deb3c2b5dbf7487d9f7adb9e8ac8a6a7179c7924526e7216aa1", func := "loop.example/borrowcheck/laws.FnNoReferences", spec := "fnNoReferences", unfollowed := true, recurses := true, apart := false, narrowed := true }
def FnNoReferencesUptoSaid : Prop := fnNoReferencesUptoRow.holds Tryz.pinned (OpenSpec.upto fnNoReferencesSpec)

/-- 'laws.FnConflictsAt', WHERE WHAT IT READS IS OF BULK AT MOST 1048576: true; the input reads as it did. -/
def fnConflictsAtUptoRow : OpenClaim := { program := "ytejkbiijonnefaagreat", sum := "c92bac26c10b0deb3c2b5dbf7487d9f7adb9e8ac8a6a7179c7924526e7216aa1", func := "loop.example/borrowcheck/laws.FnConflictsAt", spec := "fnConflictsAt", unfollowed := true, recurses := true, apart := false, narrowed := true }
def FnConflictsAtUptoSaid : Prop := fnConflictsAtUptoRow.holds Tryz.pinned (OpenSpec.upto fnConflictsAtSpec)

/-- 'laws.FnCheckProgram', WHERE WHAT IT READS IS OF BULK AT MOST 1048576: true; the input reads as it did. -/
def fnCheckProgramUptoRow : OpenClaim := { program := "ytejkbiijonnefaagreat", sum := "c92bac26c10b0deb3c2b5dbf7487d9f7adb9e8ac8a6a7179c7924526e7216aa1", func := "loop.example/borrowcheck/laws.FnCheckProgram", spec := "fnCheckProgram", unfollowed := true, recurses := true, apart := false, narrowed := true }
def FnCheckProgramUptoSaid : Prop := fnCheckProgramUptoRow.holds Tryz.pinned (OpenSpec.upto fnCheckProgramSpec)

/-- 'laws.FnUseAfter', WHERE WHAT IT READS IS OF BULK AT MOST 1048576: true; the input reads as it did. -/
def fnUseAfterUptoRow : OpenClaim := { program := "ytejkbiijonnefaagreat", sum := "c92bac26c10b0deb3c2b5dbf7487d9f7adb9e8ac8a6a7179c7924526e7216aa1", func := "loop.example/borrowcheck/laws.FnUseAfter", spec := "fnUseAfter", unfollowed := true, recurses := true, apart := false, narrowed := true }
def FnUseAfterUptoSaid : Prop := fnUseAfterUptoRow.holds Tryz.pinned (OpenSpec.upto fnUseAfterSpec)

/-- 'laws.FnIssueUse', WHERE WHAT IT READS IS OF BULK AT MOST 1048576: true; the input reads as it did. -/
def fnIssueUseUptoRow : OpenClaim := { program := "ytejkbiijonnefaagreat", sum := "c92bac26c10b0deb3c2b5dbf7487d9f7adb9e8ac8a6a7179c7924526e7216aa1", func := "loop.example/borrowcheck/laws.FnIssueUse", spec := "fnIssueUse", unfollowed := true, recurses := true, apart := false, narrowed := true }
def FnIssueUseUptoSaid : Prop := fnIssueUseUptoRow.holds Tryz.pinned (OpenSpec.upto fnIssueUseSpec)

/-- 'laws.FnExactRepairProgram', WHERE WHAT IT READS IS OF BULK AT MOST 1048576: true; the input reads as it did. -/
def fnExactRepairProgramUptoRow : OpenClaim := { program := "ytejkbiijonnefaagreat", sum := "c92bac26c10b0deb3c2b5dbf7487d9f7adb9e8ac8a6a7179c7924526e7216aa1", func := "loop.example/borrowcheck/laws.FnExactRepairProgram", spec := "fnExactRepairProgram", unfollowed := true, recurses := true, loops := true, apart := false, narrowed := true }
def FnExactRepairProgramUptoSaid : Prop := fnExactRepairProgramUptoRow.holds Tryz.pinned (OpenSpec.upto fnExactRepairProgramSpec)

/-- 'laws.FnRepairTwice', WHERE WHAT IT READS IS OF BULK AT MOST 1048576: true; the input reads as it did. -/
def fnRepairTwiceUptoRow : OpenClaim := { program := "ytejkbiijonnefaagreat", sum := "c92bac26c10b0deb3c2b5dbf7487d9f7adb9e8ac8a6a7179c7924526e7216aa1", func := "loop.example/borrowcheck/laws.FnRepairTwice", spec := "fnRepairTwice", unfollowed := true, recurses := true, apart := false, narrowed := true }
def FnRepairTwiceUptoSaid : Prop := fnRepairTwiceUptoRow.holds Tryz.pinned (OpenSpec.upto fnRepairTwiceSpec)

/-- 'laws.FnRepairProgram', WHERE WHAT IT READS IS OF BULK AT MOST 1048576: true; the input reads as it did. -/
def fnRepairProgramUptoRow : OpenClaim := { program := "ytejkbiijonnefaagreat", sum := "c92bac26c10b0deb3c2b5dbf7487d9f7adb9e8ac8a6a7179c7924526e7216aa1", func := "loop.example/borrowcheck/laws.FnRepairProgram", spec := "fnRepairProgram", unfollowed := true, recurses := true, apart := false, narrowed := true }
def FnRepairProgramUptoSaid : Prop := fnRepairProgramUptoRow.holds Tryz.pinned (OpenSpec.upto fnRepairProgramSpec)

/-- 'laws.FnCheckRegions', WHERE WHAT IT READS IS OF BULK AT MOST 1048576: true; the input reads as it did. -/
def fnCheckRegionsUptoRow : OpenClaim := { program := "ytejkbiijonnefaagreat", sum := "c92bac26c10b0deb3c2b5dbf7487d9f7adb9e8ac8a6a7179c7924526e7216aa1", func := "loop.example/borrowcheck/laws.FnCheckRegions", spec := "fnCheckRegions", unfollowed := true, recurses := true, apart := false, narrowed := true }
def FnCheckRegionsUptoSaid : Prop := fnCheckRegionsUptoRow.holds Tryz.pinned (OpenSpec.upto fnCheckRegionsSpec)

/-- 'laws.FnRegionsUnset', WHERE WHAT IT READS IS OF BULK AT MOST 1048576: true; the input reads as it did. -/
def fnRegionsUnsetUptoRow : OpenClaim := { program := "ytejkbiijonnefaagreat", sum := "c92bac26c10b0deb3c2b5dbf7487d9f7adb9e8ac8a6a7179c7924526e7216aa1", func := "loop.example/borrowcheck/laws.FnRegionsUnset", spec := "fnRegionsUnset", unfollowed := true, recurses := true, apart := false, narrowed := true }
def FnRegionsUnsetUptoSaid : Prop := fnRegionsUnsetUptoRow.holds Tryz.pinned (OpenSpec.upto fnRegionsUnsetSpec)

end Rows
end Go.Proofs.YtejkbiijonnefaaGreat
