/-
  No cell of these rows narrows 'for every input' (looked for: loops, veiled, ifaces, maps, wideKeys, modest, calm, conditions, laid).
  DERIVED. THE GIVEN ROWS OF THIS SEAT. 8 by the template 'for every input the law returns true; each argument reads behind the call as it read before'; 0 by the template 'total and deterministic' (their statements: YtjcpngimjdckmaaGreatTotals.lean).
  GIVEN WITH THE SEED: the statements are not yours to turn. If you find one false, say at which input.
  Laid BY PROGRAM, IN A SANDBOX (cutbox-rows.mjs): the forced cells as the released guide's own fill.sh prints them over the translation 206d392a99d1e96b… (all of the seat's roots in one cut). By AI agents, Wed Nov 11 2026. No macro, syntax, notation, axiom, sorry.
-/
import Derived.Test.YtjcpngimjdckmaaGreatChecked
import GoSem.Claim
import GoSem.ClaimJoined
import GoSem.ClaimMapViews
import Derived.JoinedTies
import Derived.KernelRfl
namespace Go.Proofs.YtjcpngimjdckmaaGreat
/- THE CELL 'sum', in the pinned program and in every row, IS THE sha256 OF THE DUMP (.gsa) THAT YtjcpngimjdckmaaGreatProg.lean LOADS. Nothing in Lean hashes anything: it is a label: what it is worth is what the hold of that sum in a sandbox is worth. -/
noncomputable def Tryz.pinned : Pinned := { name := "ytjcpngimjdckmaagreat", sum := "206d392a99d1e96b8d5d6bd6627e50383bbf3a7b291ff90e1d284460ceaa0097", checked := Tryz.checked }
namespace Rows
def none {H : Type} : Left H := { results := [], args := [] }

/-- 'laws.FnDropAdded': WHATEVER THE INPUT: true; the input reads as it did. -/
def fnDropAddedSpec : ChangeSpec := { name := "fnDropAdded", fn := fun _ => fun
  | [d] => { results := [.lit (.bool true)], args := [d] }
  | _ => none }
def fnDropAddedRow : OpenClaim := { program := "ytjcpngimjdckmaagreat", sum := "206d392a99d1e96b8d5d6bd6627e50383bbf3a7b291ff90e1d284460ceaa0097", func := "loop.example/borrowcheck/laws.FnDropAdded", spec := "fnDropAdded", inPlace := ["slices.overlaps[loop.example/borrowcheck/impl.Stmt]"], unfollowed := true, recurses := true, apart := false }
def FnDropAddedSaid : Prop := fnDropAddedRow.holds Tryz.pinned (OpenSpec.ofChange fnDropAddedSpec)

/-- ITS FALSE NEIGHBOUR: 'it returns false'. Refute it at one input. -/
def fnDropAddedWrong : ChangeSpec := { name := "fnDropAdded", fn := fun _ => fun
  | [d] => { results := [.lit (.bool false)], args := [d] }
  | _ => none }
def FnDropAddedWrongFalsely : Prop := fnDropAddedRow.holds Tryz.pinned (OpenSpec.ofChange fnDropAddedWrong)

/-- 'laws.FnAddDrop': WHATEVER THE INPUT: true; the input reads as it did. -/
def fnAddDropSpec : ChangeSpec := { name := "fnAddDrop", fn := fun _ => fun
  | [d1, d2] => { results := [.lit (.bool true)], args := [d1, d2] }
  | _ => none }
def fnAddDropRow : OpenClaim := { program := "ytjcpngimjdckmaagreat", sum := "206d392a99d1e96b8d5d6bd6627e50383bbf3a7b291ff90e1d284460ceaa0097", func := "loop.example/borrowcheck/laws.FnAddDrop", spec := "fnAddDrop", inPlace := ["slices.overlaps[loop.example/borrowcheck/impl.Stmt]"], unfollowed := true, recurses := true, apart := false }
def FnAddDropSaid : Prop := fnAddDropRow.holds Tryz.pinned (OpenSpec.ofChange fnAddDropSpec)

/-- ITS FALSE NEIGHBOUR: 'it returns false'. Refute it at one input. -/
def fnAddDropWrong : ChangeSpec := { name := "fnAddDrop", fn := fun _ => fun
  | [d1, d2] => { results := [.lit (.bool false)], args := [d1, d2] }
  | _ => none }
def FnAddDropWrongFalsely : Prop := fnAddDropRow.holds Tryz.pinned (OpenSpec.ofChange fnAddDropWrong)

/-- 'laws.FnForwardLoad': WHATEVER THE INPUT: true; the input reads as it did. -/
def fnForwardLoadSpec : ChangeSpec := { name := "fnForwardLoad", fn := fun _ => fun
  | [d1, d2] => { results := [.lit (.bool true)], args := [d1, d2] }
  | _ => none }
def fnForwardLoadRow : OpenClaim := { program := "ytjcpngimjdckmaagreat", sum := "206d392a99d1e96b8d5d6bd6627e50383bbf3a7b291ff90e1d284460ceaa0097", func := "loop.example/borrowcheck/laws.FnForwardLoad", spec := "fnForwardLoad", unfollowed := true, recurses := true, apart := false }
def FnForwardLoadSaid : Prop := fnForwardLoadRow.holds Tryz.pinned (OpenSpec.ofChange fnForwardLoadSpec)

/-- ITS FALSE NEIGHBOUR: 'it returns false'. Refute it at one input. -/
def fnForwardLoadWrong : ChangeSpec := { name := "fnForwardLoad", fn := fun _ => fun
  | [d1, d2] => { results := [.lit (.bool false)], args := [d1, d2] }
  | _ => none }
def FnForwardLoadWrongFalsely : Prop := fnForwardLoadRow.holds Tryz.pinned (OpenSpec.ofChange fnForwardLoadWrong)

/-- 'laws.FnUnrollLoop': WHATEVER THE INPUT: true; the input reads as it did. -/
def fnUnrollLoopSpec : ChangeSpec := { name := "fnUnrollLoop", fn := fun _ => fun
  | [d1, d2] => { results := [.lit (.bool true)], args := [d1, d2] }
  | _ => none }
def fnUnrollLoopRow : OpenClaim := { program := "ytjcpngimjdckmaagreat", sum := "206d392a99d1e96b8d5d6bd6627e50383bbf3a7b291ff90e1d284460ceaa0097", func := "loop.example/borrowcheck/laws.FnUnrollLoop", spec := "fnUnrollLoop", unfollowed := true, recurses := true, apart := false }
def FnUnrollLoopSaid : Prop := fnUnrollLoopRow.holds Tryz.pinned (OpenSpec.ofChange fnUnrollLoopSpec)

/-- ITS FALSE NEIGHBOUR: 'it returns false'. Refute it at one input. -/
def fnUnrollLoopWrong : ChangeSpec := { name := "fnUnrollLoop", fn := fun _ => fun
  | [d1, d2] => { results := [.lit (.bool false)], args := [d1, d2] }
  | _ => none }
def FnUnrollLoopWrongFalsely : Prop := fnUnrollLoopRow.holds Tryz.pinned (OpenSpec.ofChange fnUnrollLoopWrong)

/-- 'laws.FnRenameVars': WHATEVER THE INPUT: true; the input reads as it did. -/
def fnRenameVarsSpec : ChangeSpec := { name := "fnRenameVars", fn := fun _ => fun
  | [d1, d2] => { results := [.lit (.bool true)], args := [d1, d2] }
  | _ => none }
def fnRenameVarsRow : OpenClaim := { program := "ytjcpngimjdckmaagreat", sum := "206d392a99d1e96b8d5d6bd6627e50383bbf3a7b291ff90e1d284460ceaa0097", func := "loop.example/borrowcheck/laws.FnRenameVars", spec := "fnRenameVars", unfollowed := true, recurses := true, apart := false }
def FnRenameVarsSaid : Prop := fnRenameVarsRow.holds Tryz.pinned (OpenSpec.ofChange fnRenameVarsSpec)

/-- ITS FALSE NEIGHBOUR: 'it returns false'. Refute it at one input. -/
def fnRenameVarsWrong : ChangeSpec := { name := "fnRenameVars", fn := fun _ => fun
  | [d1, d2] => { results := [.lit (.bool false)], args := [d1, d2] }
  | _ => none }
def FnRenameVarsWrongFalsely : Prop := fnRenameVarsRow.holds Tryz.pinned (OpenSpec.ofChange fnRenameVarsWrong)

/-- 'laws.FnSwapStmts': WHATEVER THE INPUT: true; the input reads as it did. -/
def fnSwapStmtsSpec : ChangeSpec := { name := "fnSwapStmts", fn := fun _ => fun
  | [d1, d2] => { results := [.lit (.bool true)], args := [d1, d2] }
  | _ => none }
def fnSwapStmtsRow : OpenClaim := { program := "ytjcpngimjdckmaagreat", sum := "206d392a99d1e96b8d5d6bd6627e50383bbf3a7b291ff90e1d284460ceaa0097", func := "loop.example/borrowcheck/laws.FnSwapStmts", spec := "fnSwapStmts", unfollowed := true, recurses := true, apart := false }
def FnSwapStmtsSaid : Prop := fnSwapStmtsRow.holds Tryz.pinned (OpenSpec.ofChange fnSwapStmtsSpec)

/-- ITS FALSE NEIGHBOUR: 'it returns false'. Refute it at one input. -/
def fnSwapStmtsWrong : ChangeSpec := { name := "fnSwapStmts", fn := fun _ => fun
  | [d1, d2] => { results := [.lit (.bool false)], args := [d1, d2] }
  | _ => none }
def FnSwapStmtsWrongFalsely : Prop := fnSwapStmtsRow.holds Tryz.pinned (OpenSpec.ofChange fnSwapStmtsWrong)

/-- 'laws.FnDropDead': WHATEVER THE INPUT: true; the input reads as it did. -/
def fnDropDeadSpec : ChangeSpec := { name := "fnDropDead", fn := fun _ => fun
  | [d1, d2] => { results := [.lit (.bool true)], args := [d1, d2] }
  | _ => none }
def fnDropDeadRow : OpenClaim := { program := "ytjcpngimjdckmaagreat", sum := "206d392a99d1e96b8d5d6bd6627e50383bbf3a7b291ff90e1d284460ceaa0097", func := "loop.example/borrowcheck/laws.FnDropDead", spec := "fnDropDead", unfollowed := true, recurses := true, apart := false }
def FnDropDeadSaid : Prop := fnDropDeadRow.holds Tryz.pinned (OpenSpec.ofChange fnDropDeadSpec)

/-- ITS FALSE NEIGHBOUR: 'it returns false'. Refute it at one input. -/
def fnDropDeadWrong : ChangeSpec := { name := "fnDropDead", fn := fun _ => fun
  | [d1, d2] => { results := [.lit (.bool false)], args := [d1, d2] }
  | _ => none }
def FnDropDeadWrongFalsely : Prop := fnDropDeadRow.holds Tryz.pinned (OpenSpec.ofChange fnDropDeadWrong)

/-- 'laws.FnNumbersOf': WHATEVER THE INPUT: true; the input reads as it did. -/
def fnNumbersOfSpec : ChangeSpec := { name := "fnNumbersOf", fn := fun _ => fun
  | [d1, d2] => { results := [.lit (.bool true)], args := [d1, d2] }
  | _ => none }
def fnNumbersOfRow : OpenClaim := { program := "ytjcpngimjdckmaagreat", sum := "206d392a99d1e96b8d5d6bd6627e50383bbf3a7b291ff90e1d284460ceaa0097", func := "loop.example/borrowcheck/laws.FnNumbersOf", spec := "fnNumbersOf", unfollowed := true, recurses := true, apart := false }
def FnNumbersOfSaid : Prop := fnNumbersOfRow.holds Tryz.pinned (OpenSpec.ofChange fnNumbersOfSpec)

/-- ITS FALSE NEIGHBOUR: 'it returns false'. Refute it at one input. -/
def fnNumbersOfWrong : ChangeSpec := { name := "fnNumbersOf", fn := fun _ => fun
  | [d1, d2] => { results := [.lit (.bool false)], args := [d1, d2] }
  | _ => none }
def FnNumbersOfWrongFalsely : Prop := fnNumbersOfRow.holds Tryz.pinned (OpenSpec.ofChange fnNumbersOfWrong)

/- THE SECOND FORM. 'bulk': how many values and letters a reading holds, each counted each time it is reached (what is shared counts as often as it is met; a slice's spare places count too). A statement '..UptoSaid' is the law's where the arguments, and the package variables that the reading takes, are together of bulk at most 1048576: NARROWER than '..Said'. Prove '..Said' where nothing that the law and all that it calls make is longer than what came in: it says more and counts as full. Else prove '..UptoSaid'. A law counts once. -/
mutual
def uptoBulk {H : Type} : DataW H → Nat
  | .lit (.string bytes) => bytes.length + 1
  | .lit _ => 1
  | .nil => 1
  | .ptr d => uptoBulk d + 1
  | .slice elems spare => uptoBulkAll elems + uptoBulkAll spare + 1
  | .agg parts => uptoBulkAll parts + 1
  | .iface _ d => uptoBulk d + 1
  | .map entries => uptoBulkEntries entries + 1
  | .held _ => 1
def uptoBulkAll {H : Type} : List (DataW H) → Nat
  | [] => 0
  | d :: r => uptoBulk d + uptoBulkAll r
def uptoBulkEntries {H : Type} : List (Lit × DataW H) → Nat
  | [] => 0
  | x :: r => uptoBulkEntry x + uptoBulkEntries r
def uptoBulkEntry {H : Type} : Lit × DataW H → Nat
  | (.string bytes, d) => bytes.length + uptoBulk d + 1
  | (_, d) => uptoBulk d + 1
 end
def uptoSmall : (H : Type) → List (DataW H) → Bool := fun _ ds => decide (uptoBulkAll ds ≤ 1048576)
def OpenSpec.upto (s : _root_.Go.ChangeSpec) : _root_.Go.OpenSpec := { _root_.Go.OpenSpec.ofChange s with cond := some uptoSmall }

/-- 'laws.FnDropAdded', WHERE WHAT IT READS IS OF BULK AT MOST 1048576: true; the input reads as it did. -/
def fnDropAddedUptoRow : OpenClaim := { program := "ytjcpngimjdckmaagreat", sum := "206d392a99d1e96b8d5d6bd6627e50383bbf3a7b291ff90e1d284460ceaa0097", func := "loop.example/borrowcheck/laws.FnDropAdded", spec := "fnDropAdded", inPlace := ["slices.overlaps[loop.example/borrowcheck/impl.Stmt]"], unfollowed := true, recurses := true, apart := false, narrowed := true }
def FnDropAddedUptoSaid : Prop := fnDropAddedUptoRow.holds Tryz.pinned (OpenSpec.upto fnDropAddedSpec)

/-- 'laws.FnAddDrop', WHERE WHAT IT READS IS OF BULK AT MOST 1048576: true; the input reads as it did. -/
def fnAddDropUptoRow : OpenClaim := { program := "ytjcpngimjdckmaagreat", sum := "206d392a99d1e96b8d5d6bd6627e50383bbf3a7b291ff90e1d284460ceaa0097", func := "loop.example/borrowcheck/laws.FnAddDrop", spec := "fnAddDrop", inPlace := ["slices.overlaps[loop.example/borrowcheck/impl.Stmt]"], unfollowed := true, recurses := true, apart := false, narrowed := true }
def FnAddDropUptoSaid : Prop := fnAddDropUptoRow.holds Tryz.pinned (OpenSpec.upto fnAddDropSpec)

/-- 'laws.FnForwardLoad', WHERE WHAT IT READS IS OF BULK AT MOST 1048576: true; the input reads as it did. -/
def fnForwardLoadUptoRow : OpenClaim := { program := "ytjcpngimjdckmaagreat", sum := "206d392a99d1e96b8d5d6bd6627e50383bbf3a7b291ff90e1d284460ceaa0097", func := "loop.example/borrowcheck/laws.FnForwardLoad", spec := "fnForwardLoad", unfollowed := true, recurses := true, apart := false, narrowed := true }
def FnForwardLoadUptoSaid : Prop := fnForwardLoadUptoRow.holds Tryz.pinned (OpenSpec.upto fnForwardLoadSpec)

/-- 'laws.FnUnrollLoop', WHERE WHAT IT READS IS OF BULK AT MOST 1048576: true; the input reads as it did. -/
def fnUnrollLoopUptoRow : OpenClaim := { program := "ytjcpngimjdckmaagreat", sum := "206d392a99d1e96b8d5d6bd6627e50383bbf3a7b291ff90e1d284460ceaa0097", func := "loop.example/borrowcheck/laws.FnUnrollLoop", spec := "fnUnrollLoop", unfollowed := true, recurses := true, apart := false, narrowed := true }
def FnUnrollLoopUptoSaid : Prop := fnUnrollLoopUptoRow.holds Tryz.pinned (OpenSpec.upto fnUnrollLoopSpec)

/-- 'laws.FnRenameVars', WHERE WHAT IT READS IS OF BULK AT MOST 1048576: true; the input reads as it did. -/
def fnRenameVarsUptoRow : OpenClaim := { program := "ytjcpngimjdckmaagreat", sum := "206d392a99d1e96b8d5d6bd6627e50383bbf3a7b291ff90e1d284460ceaa0097", func := "loop.example/borrowcheck/laws.FnRenameVars", spec := "fnRenameVars", unfollowed := true, recurses := true, apart := false, narrowed := true }
def FnRenameVarsUptoSaid : Prop := fnRenameVarsUptoRow.holds Tryz.pinned (OpenSpec.upto fnRenameVarsSpec)

/-- 'laws.FnSwapStmts', WHERE WHAT IT READS IS OF BULK AT MOST 1048576: true; the input reads as it did. -/
def fnSwapStmtsUptoRow : OpenClaim := { program := "ytjcpngimjdckmaagreat", sum := "206d392a99d1e96b8d5d6bd6627e50383bbf3a7b291ff90e1d284460ceaa0097", func := "loop.example/borrowcheck/laws.FnSwapStmts", spec := "fnSwapStmts", unfollowed := true, recurses := true, apart := false, narrowed := true }
def FnSwapStmtsUptoSaid : Prop := fnSwapStmtsUptoRow.holds Tryz.pinned (OpenSpec.upto fnSwapStmtsSpec)

/-- 'laws.FnDropDead', WHERE WHAT IT READS IS OF BULK AT MOST 1048576: true; the input reads as it did. -/
def fnDropDeadUptoRow : OpenClaim := { program := "ytjcpngimjdckmaagreat", sum := "206d392a99d1e96b8d5d6bd6627e50383bbf3a7b291ff90e1d284460ceaa0097", func := "loop.example/borrowcheck/laws.FnDropDead", spec := "fnDropDead", unfollowed := true, recurses := true, apart := false, narrowed := true }
def FnDropDeadUptoSaid : Prop := fnDropDeadUptoRow.holds Tryz.pinned (OpenSpec.upto fnDropDeadSpec)

/-- 'laws.FnNumbersOf', WHERE WHAT IT READS IS OF BULK AT MOST 1048576: true; the input reads as it did. -/
def fnNumbersOfUptoRow : OpenClaim := { program := "ytjcpngimjdckmaagreat", sum := "206d392a99d1e96b8d5d6bd6627e50383bbf3a7b291ff90e1d284460ceaa0097", func := "loop.example/borrowcheck/laws.FnNumbersOf", spec := "fnNumbersOf", unfollowed := true, recurses := true, apart := false, narrowed := true }
def FnNumbersOfUptoSaid : Prop := fnNumbersOfUptoRow.holds Tryz.pinned (OpenSpec.upto fnNumbersOfSpec)

end Rows
end Go.Proofs.YtjcpngimjdckmaaGreat
