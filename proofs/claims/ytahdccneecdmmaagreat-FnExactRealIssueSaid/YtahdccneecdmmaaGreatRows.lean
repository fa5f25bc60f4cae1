/-
  NARROWER THAN 'FOR EVERY INPUT', by the rows' own cells (each row's printed sentence says how): FnExactJudgeProgram: loops · FnExactRealIssue: loops.
  DERIVED. THE GIVEN ROWS OF THIS SEAT. 10 by the template 'for every input the law returns true; each argument reads behind the call as it read before'; 0 by the template 'total and deterministic' (their statements: YtahdccneecdmmaaGreatTotals.lean).
  GIVEN WITH THE SEED: the statements are not yours to turn. If you find one false, say at which input.
  Laid BY PROGRAM, IN A SANDBOX (cutbox-rows.mjs): the forced cells as the released guide's own fill.sh prints them over the translation cf39ec8ecbc9823d… (all of the seat's roots in one cut). By AI agents, Wed Nov 11 2026. No macro, syntax, notation, axiom, sorry.
-/
import Derived.Test.YtahdccneecdmmaaGreatChecked
import GoSem.Claim
import GoSem.ClaimJoined
import GoSem.ClaimMapViews
import Derived.JoinedTies
import Derived.KernelRfl
namespace Go.Proofs.YtahdccneecdmmaaGreat
/- THE CELL 'sum', in the pinned program and in every row, IS THE sha256 OF THE DUMP (.gsa) THAT YtahdccneecdmmaaGreatProg.lean LOADS. Nothing in Lean hashes anything: it is a label: what it is worth is what the hold of that sum in a sandbox is worth. -/
noncomputable def Tryz.pinned : Pinned := { name := "ytahdccneecdmmaagreat", sum := "cf39ec8ecbc9823d12b11dc1a15092b8941b4fd97f148968b44ca3c3627f289f", checked := Tryz.checked }
namespace Rows
def none {H : Type} : Left H := { results := [], args := [] }

/-- 'laws.FnAddDrop': WHATEVER THE INPUT: true; the input reads as it did. -/
def fnAddDropSpec : ChangeSpec := { name := "fnAddDrop", fn := fun _ => fun
  | [d1, d2] => { results := [.lit (.bool true)], args := [d1, d2] }
  | _ => none }
def fnAddDropRow : OpenClaim := { program := "ytahdccneecdmmaagreat", sum := "cf39ec8ecbc9823d12b11dc1a15092b8941b4fd97f148968b44ca3c3627f289f", func := "loop.example/borrowcheck/laws.FnAddDrop", spec := "fnAddDrop", inPlace := ["slices.overlaps[loop.example/borrowcheck/impl.Stmt]"], unfollowed := true, recurses := true, apart := false }
def FnAddDropSaid : Prop := fnAddDropRow.holds Tryz.pinned (OpenSpec.ofChange fnAddDropSpec)

/-- ITS FALSE NEIGHBOUR: 'it returns false'. Refute it at one input. -/
def fnAddDropWrong : ChangeSpec := { name := "fnAddDrop", fn := fun _ => fun
  | [d1, d2] => { results := [.lit (.bool false)], args := [d1, d2] }
  | _ => none }
def FnAddDropWrongFalsely : Prop := fnAddDropRow.holds Tryz.pinned (OpenSpec.ofChange fnAddDropWrong)

/-- 'laws.FnNumbersOf': WHATEVER THE INPUT: true; the input reads as it did. -/
def fnNumbersOfSpec : ChangeSpec := { name := "fnNumbersOf", fn := fun _ => fun
  | [d1, d2] => { results := [.lit (.bool true)], args := [d1, d2] }
  | _ => none }
def fnNumbersOfRow : OpenClaim := { program := "ytahdccneecdmmaagreat", sum := "cf39ec8ecbc9823d12b11dc1a15092b8941b4fd97f148968b44ca3c3627f289f", func := "loop.example/borrowcheck/laws.FnNumbersOf", spec := "fnNumbersOf", unfollowed := true, recurses := true, apart := false }
def FnNumbersOfSaid : Prop := fnNumbersOfRow.holds Tryz.pinned (OpenSpec.ofChange fnNumbersOfSpec)

/-- ITS FALSE NEIGHBOUR: 'it returns false'. Refute it at one input. -/
def fnNumbersOfWrong : ChangeSpec := { name := "fnNumbersOf", fn := fun _ => fun
  | [d1, d2] => { results := [.lit (.bool false)], args := [d1, d2] }
  | _ => none }
def FnNumbersOfWrongFalsely : Prop := fnNumbersOfRow.holds Tryz.pinned (OpenSpec.ofChange fnNumbersOfWrong)

/-- 'laws.FnRealIssue': WHATEVER THE INPUT: true; the input reads as it did. -/
def fnRealIssueSpec : ChangeSpec := { name := "fnRealIssue", fn := fun _ => fun
  | [d] => { results := [.lit (.bool true)], args := [d] }
  | _ => none }
def fnRealIssueRow : OpenClaim := { program := "ytahdccneecdmmaagreat", sum := "cf39ec8ecbc9823d12b11dc1a15092b8941b4fd97f148968b44ca3c3627f289f", func := "loop.example/borrowcheck/laws.FnRealIssue", spec := "fnRealIssue", unfollowed := true, recurses := true, apart := false }
def FnRealIssueSaid : Prop := fnRealIssueRow.holds Tryz.pinned (OpenSpec.ofChange fnRealIssueSpec)

/-- ITS FALSE NEIGHBOUR: 'it returns false'. Refute it at one input. -/
def fnRealIssueWrong : ChangeSpec := { name := "fnRealIssue", fn := fun _ => fun
  | [d] => { results := [.lit (.bool false)], args := [d] }
  | _ => none }
def FnRealIssueWrongFalsely : Prop := fnRealIssueRow.holds Tryz.pinned (OpenSpec.ofChange fnRealIssueWrong)

/-- 'laws.FnJudgeOrder': WHATEVER THE INPUT: true; the input reads as it did. -/
def fnJudgeOrderSpec : ChangeSpec := { name := "fnJudgeOrder", fn := fun _ => fun
  | [d] => { results := [.lit (.bool true)], args := [d] }
  | _ => none }
def fnJudgeOrderRow : OpenClaim := { program := "ytahdccneecdmmaagreat", sum := "cf39ec8ecbc9823d12b11dc1a15092b8941b4fd97f148968b44ca3c3627f289f", func := "loop.example/borrowcheck/laws.FnJudgeOrder", spec := "fnJudgeOrder", unfollowed := true, recurses := true, apart := false }
def FnJudgeOrderSaid : Prop := fnJudgeOrderRow.holds Tryz.pinned (OpenSpec.ofChange fnJudgeOrderSpec)

/-- ITS FALSE NEIGHBOUR: 'it returns false'. Refute it at one input. -/
def fnJudgeOrderWrong : ChangeSpec := { name := "fnJudgeOrder", fn := fun _ => fun
  | [d] => { results := [.lit (.bool false)], args := [d] }
  | _ => none }
def FnJudgeOrderWrongFalsely : Prop := fnJudgeOrderRow.holds Tryz.pinned (OpenSpec.ofChange fnJudgeOrderWrong)

/-- 'laws.FnJudgeProgram': WHATEVER THE INPUT: true; the input reads as it did. -/
def fnJudgeProgramSpec : ChangeSpec := { name := "fnJudgeProgram", fn := fun _ => fun
  | [d] => { results := [.lit (.bool true)], args := [d] }
  | _ => none }
def fnJudgeProgramRow : OpenClaim := { program := "ytahdccneecdmmaagreat", sum := "cf39ec8ecbc9823d12b11dc1a15092b8941b4fd97f148968b44ca3c3627f289f", func := "loop.example/borrowcheck/laws.FnJudgeProgram", spec := "fnJudgeProgram", unfollowed := true, recurses := true, apart := false }
def FnJudgeProgramSaid : Prop := fnJudgeProgramRow.holds Tryz.pinned (OpenSpec.ofChange fnJudgeProgramSpec)

/-- ITS FALSE NEIGHBOUR: 'it returns false'. Refute it at one input. -/
def fnJudgeProgramWrong : ChangeSpec := { name := "fnJudgeProgram", fn := fun _ => fun
  | [d] => { results := [.lit (.bool false)], args := [d] }
  | _ => none }
def FnJudgeProgramWrongFalsely : Prop := fnJudgeProgramRow.holds Tryz.pinned (OpenSpec.ofChange fnJudgeProgramWrong)

/-- 'laws.FnNotUnsafe': WHATEVER THE INPUT: true; the input reads as it did. -/
def fnNotUnsafeSpec : ChangeSpec := { name := "fnNotUnsafe", fn := fun _ => fun
  | [d] => { results := [.lit (.bool true)], args := [d] }
  | _ => none }
def fnNotUnsafeRow : OpenClaim := { program := "ytahdccneecdmmaagreat", sum := "cf39ec8ecbc9823d12b11dc1a15092b8941b4fd97f148968b44ca3c3627f289f", func := "loop.example/borrowcheck/laws.FnNotUnsafe", spec := "fnNotUnsafe", unfollowed := true, recurses := true, apart := false }
def FnNotUnsafeSaid : Prop := fnNotUnsafeRow.holds Tryz.pinned (OpenSpec.ofChange fnNotUnsafeSpec)

/-- ITS FALSE NEIGHBOUR: 'it returns false'. Refute it at one input. -/
def fnNotUnsafeWrong : ChangeSpec := { name := "fnNotUnsafe", fn := fun _ => fun
  | [d] => { results := [.lit (.bool false)], args := [d] }
  | _ => none }
def FnNotUnsafeWrongFalsely : Prop := fnNotUnsafeRow.holds Tryz.pinned (OpenSpec.ofChange fnNotUnsafeWrong)

/-- 'laws.FnFirstJudged': WHATEVER THE INPUT: true; the input reads as it did. -/
def fnFirstJudgedSpec : ChangeSpec := { name := "fnFirstJudged", fn := fun _ => fun
  | [d1, d2] => { results := [.lit (.bool true)], args := [d1, d2] }
  | _ => none }
def fnFirstJudgedRow : OpenClaim := { program := "ytahdccneecdmmaagreat", sum := "cf39ec8ecbc9823d12b11dc1a15092b8941b4fd97f148968b44ca3c3627f289f", func := "loop.example/borrowcheck/laws.FnFirstJudged", spec := "fnFirstJudged", unfollowed := true, recurses := true, apart := false }
def FnFirstJudgedSaid : Prop := fnFirstJudgedRow.holds Tryz.pinned (OpenSpec.ofChange fnFirstJudgedSpec)

/-- ITS FALSE NEIGHBOUR: 'it returns false'. Refute it at one input. -/
def fnFirstJudgedWrong : ChangeSpec := { name := "fnFirstJudged", fn := fun _ => fun
  | [d1, d2] => { results := [.lit (.bool false)], args := [d1, d2] }
  | _ => none }
def FnFirstJudgedWrongFalsely : Prop := fnFirstJudgedRow.holds Tryz.pinned (OpenSpec.ofChange fnFirstJudgedWrong)

/-- 'laws.FnExactFirstJudged': WHATEVER THE INPUT: true; the input reads as it did. -/
def fnExactFirstJudgedSpec : ChangeSpec := { name := "fnExactFirstJudged", fn := fun _ => fun
  | [d1, d2, d3] => { results := [.lit (.bool true)], args := [d1, d2, d3] }
  | _ => none }
def fnExactFirstJudgedRow : OpenClaim := { program := "ytahdccneecdmmaagreat", sum := "cf39ec8ecbc9823d12b11dc1a15092b8941b4fd97f148968b44ca3c3627f289f", func := "loop.example/borrowcheck/laws.FnExactFirstJudged", spec := "fnExactFirstJudged", unfollowed := true, recurses := true, apart := false }
def FnExactFirstJudgedSaid : Prop := fnExactFirstJudgedRow.holds Tryz.pinned (OpenSpec.ofChange fnExactFirstJudgedSpec)

/-- ITS FALSE NEIGHBOUR: 'it returns false'. Refute it at one input. -/
def fnExactFirstJudgedWrong : ChangeSpec := { name := "fnExactFirstJudged", fn := fun _ => fun
  | [d1, d2, d3] => { results := [.lit (.bool false)], args := [d1, d2, d3] }
  | _ => none }
def FnExactFirstJudgedWrongFalsely : Prop := fnExactFirstJudgedRow.holds Tryz.pinned (OpenSpec.ofChange fnExactFirstJudgedWrong)

/-- 'laws.FnExactJudgeProgram': WHATEVER THE INPUT: true; the input reads as it did. -/
def fnExactJudgeProgramSpec : ChangeSpec := { name := "fnExactJudgeProgram", fn := fun _ => fun
  | [d] => { results := [.lit (.bool true)], args := [d] }
  | _ => none }
def fnExactJudgeProgramRow : OpenClaim := { program := "ytahdccneecdmmaagreat", sum := "cf39ec8ecbc9823d12b11dc1a15092b8941b4fd97f148968b44ca3c3627f289f", func := "loop.example/borrowcheck/laws.FnExactJudgeProgram", spec := "fnExactJudgeProgram", unfollowed := true, recurses := true, loops := true, apart := false }
def FnExactJudgeProgramSaid : Prop := fnExactJudgeProgramRow.holds Tryz.pinned (OpenSpec.ofChange fnExactJudgeProgramSpec)

/-- ITS FALSE NEIGHBOUR: 'it returns false'. Refute it at one input. -/
def fnExactJudgeProgramWrong : ChangeSpec := { name := "fnExactJudgeProgram", fn := fun _ => fun
  | [d] => { results := [.lit (.bool false)], args := [d] }
  | _ => none }
def FnExactJudgeProgramWrongFalsely : Prop := fnExactJudgeProgramRow.holds Tryz.pinned (OpenSpec.ofChange fnExactJudgeProgramWrong)

/-- 'laws.FnExactRealIssue': WHATEVER THE INPUT: true; the input reads as it did. -/
def fnExactRealIssueSpec : ChangeSpec := { name := "fnExactRealIssue", fn := fun _ => fun
  | [d1, d2] => { results := [.lit (.bool true)], args := [d1, d2] }
  | _ => none }
def fnExactRealIssueRow : OpenClaim := { program := "ytahdccneecdmmaagreat", sum := "cf39ec8ecbc9823d12b11dc1a15092b8941b4fd97f148968b44ca3c3627f289f", func := "loop.example/borrowcheck/laws.FnExactRealIssue", spec := "fnExactRealIssue", unfollowed := true, recurses := true, loops := true, apart := false }
def FnExactRealIssueSaid : Prop := fnExactRealIssueRow.holds Tryz.pinned (OpenSpec.ofChange fnExactRealIssueSpec)

/-- ITS FALSE NEIGHBOUR: 'it returns false'. Refute it at one input. -/
def fnExactRealIssueWrong : ChangeSpec := { name := "fnExactRealIssue", fn := fun _ => fun
  | [d1, d2] => { results := [.lit (.bool false)], args := [d1, d2] }
  | _ => none }
def FnExactRealIssueWrongFalsely : Prop := fnExactRealIssueRow.holds Tryz.pinned (OpenSpec.ofChange fnExactRealIssueWrong)

/- THE SECOND FORM. 'bulk': how many values and letters a reading holds, each counted each time it is reached (what is shared counts as often as it is met; a slice's spare places count too). A statement '..UptoSaid' is the law's where the arguments, and the package variables that the reading takes, are together of bulk at most 1048576: NARROWER than '..Said'. Prove '..Said' where nothing that the law and all that it calls make is longer than what came in: it says more and counts as full. Else prove '..UptoSaid'. A law counts once. -/
mutual
def uptoBulk {H : Type} : DataW H → Nat
  | .lit (.string bytes) => bytes.length + 1
  | .lit _ => 1
  | .nil => 1
  | .ptr d => uptoBulk d + 1
  | .slice elems spare => uptoBulkAll elems + uptoBulkAll spare + 1
  | .agg parts => uptoBulkAll parts + 1
  | .iface _ d => uptoBulk d + 1
  | .map entries => uptoBulkEntries entries + 1
  | .held _ => 1
def uptoBulkAll {H : Type} : List (DataW H) → Nat
  | [] => 0
  | d :: r => uptoBulk d + uptoBulkAll r
def uptoBulkEntries {H : Type} : List (Lit × DataW H) → Nat
  | [] => 0
  | x :: r => uptoBulkEntry x + uptoBulkEntries r
def uptoBulkEntry {H : Type} : Lit × DataW H → Nat
  | (.string bytes, d) => bytes.length + uptoBulk d + 1
  | (_, d) => uptoBulk d + 1
 end
def uptoSmall : (H : Type) → List (DataW H) → Bool := fun _ ds => decide (uptoBulkAll ds ≤ 1048576)
def OpenSpec.upto (s : _root_.Go.ChangeSpec) : _root_.Go.OpenSpec := { _root_.Go.OpenSpec.ofChange s with cond := some uptoSmall }

/-- 'laws.FnAddDrop', WHERE WHAT IT READS IS OF BULK AT MOST 1048576: true; the input reads as it did. -/
def fnAddDropUptoRow : OpenClaim := { program := "ytahdccneecdmmaagreat", sum := "cf39ec8ecbc9823d12b11dc1a15092b8941b4fd97f148968b44ca3c3627f289f", func := "loop.example/borrowcheck/laws.FnAddDrop", spec := "fnAddDrop", inPlace := ["slices.overlaps[loop.example/borrowcheck/impl.Stmt]"], unfollowed := true, recurses := true, apart := false, narrowed := true }
def FnAddDropUptoSaid : Prop := fnAddDropUptoRow.holds Tryz.pinned (OpenSpec.upto fnAddDropSpec)

/-- 'laws.FnNumbersOf', WHERE WHAT IT READS IS OF BULK AT MOST 1048576: true; the input reads as it did. -/
def fnNumbersOfUptoRow : OpenClaim := { program := "ytahdccneecdmmaagreat", sum := "cf39ec8ecbc9823d12b11dc1a15092b8941b4fd97f148968b44ca3c3627f289f", func := "loop.example/borrowcheck/laws.FnNumbersOf", spec := "fnNumbersOf", unfollowed := true, recurses := true, apart := false, narrowed := true }
def FnNumbersOfUptoSaid : Prop := fnNumbersOfUptoRow.holds Tryz.pinned (OpenSpec.upto fnNumbersOfSpec)

/-- 'laws.FnRealIssue', WHERE WHAT IT READS IS OF BULK AT MOST 1048576: true; the input reads as it did. -/
def fnRealIssueUptoRow : OpenClaim := { program := "ytahdccneecdmmaagreat", sum := "cf39ec8ecbc9823d12b11dc1a15092b8941b4fd97f148968b44ca3c3627f289f", func := "loop.example/borrowcheck/laws.FnRealIssue", spec := "fnRealIssue", unfollowed := true, recurses := true, apart := false, narrowed := true }
def FnRealIssueUptoSaid : Prop := fnRealIssueUptoRow.holds Tryz.pinned (OpenSpec.upto fnRealIssueSpec)

/-- 'laws.FnJudgeOrder', WHERE WHAT IT READS IS OF BULK AT MOST 1048576: true; the input reads as it did. -/
def fnJudgeOrderUptoRow : OpenClaim := { program := "ytahdccneecdmmaagreat", sum := "cf39ec8ecbc9823d12b11dc1a15092b8941b4fd97f148968b44ca3c3627f289f", func := "loop.example/borrowcheck/laws.FnJudgeOrder", spec := "fnJudgeOrder", unfollowed := true, recurses := true, apart := false, narrowed := true }
def FnJudgeOrderUptoSaid : Prop := fnJudgeOrderUptoRow.holds Tryz.pinned (OpenSpec.upto fnJudgeOrderSpec)

/-- 'laws.FnJudgeProgram', WHERE WHAT IT READS IS OF BULK AT MOST 1048576: true; the input reads as it did. -/
def fnJudgeProgramUptoRow : OpenClaim := { program := "ytahdccneecdmmaagreat", sum := "cf39ec8ecbc9823d12b11dc1a15092b8941b4fd97f148968b44ca3c3627f289f", func := "loop.example/borrowcheck/laws.FnJudgeProgram", spec := "fnJudgeProgram", unfollowed := true, recurses := true, apart := false, narrowed := true }
def FnJudgeProgramUptoSaid : Prop := fnJudgeProgramUptoRow.holds Tryz.pinned (OpenSpec.upto fnJudgeProgramSpec)

/-- 'laws.FnNotUnsafe', WHERE WHAT IT READS IS OF BULK AT MOST 1048576: true; the input reads as it did. -/
def fnNotUnsafeUptoRow : OpenClaim := { program := "ytahdccneecdmmaagreat", sum := "cf39ec8ecbc9823d12b11dc1a15092b8941b4fd97f148968b44ca3c3627f289f", func := "loop.example/borrowcheck/laws.FnNotUnsafe", spec := "fnNotUnsafe", unfollowed := true, recurses := true, apart := false, narrowed := true }
def FnNotUnsafeUptoSaid : Prop := fnNotUnsafeUptoRow.holds Tryz.pinned (OpenSpec.upto fnNotUnsafeSpec)

/-- 'laws.FnFirstJudged', WHERE WHAT IT READS IS OF BULK AT MOST 1048576: true; the input reads as it did. -/
def fnFirstJudgedUptoRow : OpenClaim := { program := "ytahdccneecdmmaagreat", sum := "cf39ec8ecbc9823d12b11dc1a15092b8941b4fd97f148968b44ca3c3627f289f", func := "loop.example/borrowcheck/laws.FnFirstJudged", spec := "fnFirstJudged", unfollowed := true, recurses := true, apart := false, narrowed := true }
def FnFirstJudgedUptoSaid : Prop := fnFirstJudgedUptoRow.holds Tryz.pinned (OpenSpec.upto fnFirstJudgedSpec)

/-- 'laws.FnExactFirstJudged', WHERE WHAT IT READS IS OF BULK AT MOST 1048576: true; the input reads as it did. -/
def fnExactFirstJudgedUptoRow : OpenClaim := { program := "ytahdccneecdmmaagreat", sum := "cf39ec8ecbc9823d12b11dc1a15092b8941b4fd97f148968b44ca3c3627f289f", func := "loop.example/borrowcheck/laws.FnExactFirstJudged", spec := "fnExactFirstJudged", unfollowed := true, recurses := true, apart := false, narrowed := true }
def FnExactFirstJudgedUptoSaid : Prop := fnExactFirstJudgedUptoRow.holds Tryz.pinned (OpenSpec.upto fnExactFirstJudgedSpec)

/-- 'laws.FnExactJudgeProgram', WHERE WHAT IT READS IS OF BULK AT MOST 1048576: true; the input reads as it did. -/
def fnExactJudgeProgramUptoRow : OpenClaim := { program := "ytahdccneecdmmaagreat", sum := "cf39ec8ecbc9823d12b11dc1a15092b8941b4fd97f148968b44ca3c3627f289f", func := "loop.example/borrowcheck/laws.FnExactJudgeProgram", spec := "fnExactJudgeProgram", unfollowed := true, recurses := true, loops := true, apart := false, narrowed := true }
def FnExactJudgeProgramUptoSaid : Prop := fnExactJudgeProgramUptoRow.holds Tryz.pinned (OpenSpec.upto fnExactJudgeProgramSpec)

/-- 'laws.FnExactRealIssue', WHERE WHAT IT READS IS OF BULK AT MOST 1048576: true; the input reads as it did. -/
def fnExactRealIssueUptoRow : OpenClaim := { program := "ytahdccneecdmmaagreat", sum := "cf39ec8ecbc9823d12b11dc1a15092b8941b4fd97f148968b44ca3c3627f289f", func := "loop.example/borrowcheck/laws.FnExactRealIssue", spec := "fnExactRealIssue", unfollowed := true, recurses := true, loops := true, apart := false, narrowed := true }
def FnExactRealIssueUptoSaid : Prop := fnExactRealIssueUptoRow.holds Tryz.pinned (OpenSpec.upto fnExactRealIssueSpec)

end Rows
end Go.Proofs.YtahdccneecdmmaaGreat
