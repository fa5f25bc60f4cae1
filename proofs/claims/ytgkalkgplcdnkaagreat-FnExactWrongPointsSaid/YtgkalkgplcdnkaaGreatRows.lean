/-
  NARROWER THAN 'FOR EVERY INPUT', by the rows' own cells (each row's printed sentence says how): FnExactWrongPoints: loops · FnExactRepairProgram: loops · FnExactAddDrop: loops · FnExactWitnessOf: loops.
  DERIVED. THE GIVEN ROWS OF THIS SEAT. 4 by the template 'for every input the law returns true; each argument reads behind the call as it read before'; 0 by the template 'total and deterministic' (their statements: YtgkalkgplcdnkaaGreatTotals.lean).
  GIVEN WITH THE SEED: the statements are not yours to turn. If you find one false, say at which input.
  Laid BY PROGRAM, IN A SANDBOX (cutbox-rows.mjs): the forced cells as the released guide's own fill.sh prints them over the translation e3bd8fd1d902fe9f… (all of the seat's roots in one cut). By AI agents, Wed Nov 11 2026. No macro, syntax, notation, axiom, sorry.
-/
import Derived.Test.YtgkalkgplcdnkaaGreatChecked
import GoSem.Claim
import GoSem.ClaimJoined
import GoSem.ClaimMapViews
import Derived.JoinedTies
import Derived.KernelRfl
namespace Go.Proofs.YtgkalkgplcdnkaaGreat
/- THE CELL 'sum', in the pinned program and in every row, IS THE sha256 OF THE DUMP (.gsa) THAT YtgkalkgplcdnkaaGreatProg.lean LOADS. Nothing in Lean hashes anything: it is a label: what it is worth is what the hold of that sum in a sandbox is worth. -/
noncomputable def Tryz.pinned : Pinned := { name := "ytgkalkgplcdnkaagreat", sum := "e3bd8fd1d902fe9f6b0d94ab9a6b215c243e4c8b2ff9cf8a5ee1063c71628239", checked := Tryz.checked }
namespace Rows
def none {H : Type} : Left H := { results := [], args := [] }

/-- 'laws.FnExactWrongPoints': WHATEVER THE INPUT: true; the input reads as it did. -/
def fnExactWrongPointsSpec : ChangeSpec := { name := "fnExactWrongPoints", fn := fun _ => fun
  | [d1, d2] => { results := [.lit (.bool true)], args := [d1, d2] }
  | _ => none }
def fnExactWrongPointsRow : OpenClaim := { program := "ytgkalkgplcdnkaagreat", sum := "e3bd8fd1d902fe9f6b0d94ab9a6b215c243e4c8b2ff9cf8a5ee1063c71628239", func := "loop.example/borrowcheck/laws.FnExactWrongPoints", spec := "fnExactWrongPoints", unfollowed := true, recurses := true, loops := true, apart := false }
def FnExactWrongPointsSaid : Prop := fnExactWrongPointsRow.holds Tryz.pinned (OpenSpec.ofChange fnExactWrongPointsSpec)

/-- ITS FALSE NEIGHBOUR: 'it returns false'. Refute it at one input. -/
def fnExactWrongPointsWrong : ChangeSpec := { name := "fnExactWrongPoints", fn := fun _ => fun
  | [d1, d2] => { results := [.lit (.bool false)], args := [d1, d2] }
  | _ => none }
def FnExactWrongPointsWrongFalsely : Prop := fnExactWrongPointsRow.holds Tryz.pinned (OpenSpec.ofChange fnExactWrongPointsWrong)

/-- 'laws.FnExactRepairProgram': WHATEVER THE INPUT: true; the input reads as it did. -/
def fnExactRepairProgramSpec : ChangeSpec := { name := "fnExactRepairProgram", fn := fun _ => fun
  | [d] => { results := [.lit (.bool true)], args := [d] }
  | _ => none }
def fnExactRepairProgramRow : OpenClaim := { program := "ytgkalkgplcdnkaagreat", sum := "e3bd8fd1d902fe9f6b0d94ab9a6b215c243e4c8b2ff9cf8a5ee1063c71628239", func := "loop.example/borrowcheck/laws.FnExactRepairProgram", spec := "fnExactRepairProgram", unfollowed := true, recurses := true, loops := true, apart := false }
def FnExactRepairProgramSaid : Prop := fnExactRepairProgramRow.holds Tryz.pinned (OpenSpec.ofChange fnExactRepairProgramSpec)

/-- ITS FALSE NEIGHBOUR: 'it returns false'. Refute it at one input. -/
def fnExactRepairProgramWrong : ChangeSpec := { name := "fnExactRepairProgram", fn := fun _ => fun
  | [d] => { results := [.lit (.bool false)], args := [d] }
  | _ => none }
def FnExactRepairProgramWrongFalsely : Prop := fnExactRepairProgramRow.holds Tryz.pinned (OpenSpec.ofChange fnExactRepairProgramWrong)

/-- 'laws.FnExactAddDrop': WHATEVER THE INPUT: true; the input reads as it did. -/
def fnExactAddDropSpec : ChangeSpec := { name := "fnExactAddDrop", fn := fun _ => fun
  | [d1, d2, d3] => { results := [.lit (.bool true)], args := [d1, d2, d3] }
  | _ => none }
def fnExactAddDropRow : OpenClaim := { program := "ytgkalkgplcdnkaagreat", sum := "e3bd8fd1d902fe9f6b0d94ab9a6b215c243e4c8b2ff9cf8a5ee1063c71628239", func := "loop.example/borrowcheck/laws.FnExactAddDrop", spec := "fnExactAddDrop", inPlace := ["slices.overlaps[loop.example/borrowcheck/impl.Stmt]"], unfollowed := true, recurses := true, loops := true, apart := false }
def FnExactAddDropSaid : Prop := fnExactAddDropRow.holds Tryz.pinned (OpenSpec.ofChange fnExactAddDropSpec)

/-- ITS FALSE NEIGHBOUR: 'it returns false'. Refute it at one input. -/
def fnExactAddDropWrong : ChangeSpec := { name := "fnExactAddDrop", fn := fun _ => fun
  | [d1, d2, d3] => { results := [.lit (.bool false)], args := [d1, d2, d3] }
  | _ => none }
def FnExactAddDropWrongFalsely : Prop := fnExactAddDropRow.holds Tryz.pinned (OpenSpec.ofChange fnExactAddDropWrong)

/-- 'laws.FnExactWitnessOf': WHATEVER THE INPUT: true; the input reads as it did. -/
def fnExactWitnessOfSpec : ChangeSpec := { name := "fnExactWitnessOf", fn := fun _ => fun
  | [d1, d2] => { results := [.lit (.bool true)], args := [d1, d2] }
  | _ => none }
def fnExactWitnessOfRow : OpenClaim := { program := "ytgkalkgplcdnkaagreat", sum := "e3bd8fd1d902fe9f6b0d94ab9a6b215c243e4c8b2ff9cf8a5ee1063c71628239", func := "loop.example/borrowcheck/laws.FnExactWitnessOf", spec := "fnExactWitnessOf", unfollowed := true, recurses := true, loops := true, apart := false }
def FnExactWitnessOfSaid : Prop := fnExactWitnessOfRow.holds Tryz.pinned (OpenSpec.ofChange fnExactWitnessOfSpec)

/-- ITS FALSE NEIGHBOUR: 'it returns false'. Refute it at one input. -/
def fnExactWitnessOfWrong : ChangeSpec := { name := "fnExactWitnessOf", fn := fun _ => fun
  | [d1, d2] => { results := [.lit (.bool false)], args := [d1, d2] }
  | _ => none }
def FnExactWitnessOfWrongFalsely : Prop := fnExactWitnessOfRow.holds Tryz.pinned (OpenSpec.ofChange fnExactWitnessOfWrong)

/- THE SECOND FORM. 'bulk': how many values and letters a reading holds, each counted each time it is reached (what is shared counts as often as it is met; a slice's spare places count too). A statement '..UptoSaid' is the law's where the arguments, and the package variables that the reading takes, are together of bulk at most 1048576: NARROWER than '..Said'. Prove '..Said' where nothing that the law and all that it calls make is longer than what came in: it says more and counts as full. Else prove '..UptoSaid'. A law counts once. -/
mutual
def uptoBulk {H : Type} : DataW H → Nat
  | .lit (.string bytes) => bytes.length + 1
  | .lit _ => 1
  | .nil => 1
  | .ptr d => uptoBulk d + 1
  | .slice elems spare => uptoBulkAll elems + uptoBulkAll spare + 1
  | .agg parts => uptoBulkAll parts + 1
  | .iface _ d => uptoBulk d + 1
  | .map entries => uptoBulkEntries entries + 1
  | .held _ => 1
def uptoBulkAll {H : Type} : List (DataW H) → Nat
  | [] => 0
  | d :: r => uptoBulk d + uptoBulkAll r
def uptoBulkEntries {H : Type} : List (Lit × DataW H) → Nat
  | [] => 0
  | x :: r => uptoBulkEntry x + uptoBulkEntries r
def uptoBulkEntry {H : Type} : Lit × DataW H → Nat
  | (.string bytes, d) => bytes.length + uptoBulk d + 1
  | (_, d) => uptoBulk d + 1
 end
def uptoSmall : (H : Type) → List (DataW H) → Bool := fun _ ds => decide (uptoBulkAll ds ≤ 1048576)
def OpenSpec.upto (s : _root_.Go.ChangeSpec) : _root_.Go.OpenSpec := { _root_.Go.OpenSpec.ofChange s with cond := some uptoSmall }

/-- 'laws.FnExactWrongPoints', WHERE WHAT IT READS IS OF BULK AT MOST 1048576: true; the input reads as it did. -/
def fnExactWrongPointsUptoRow : OpenClaim := { program := "ytgkalkgplcdnkaagreat", sum := "e3bd8fd1d902fe9f6b0d94ab9a6b215c243e4c8b2ff9cf8a5ee1063c71628239", func := "loop.example/borrowcheck/laws.FnExactWrongPoints", spec := "fnExactWrongPoints", unfollowed := true, recurses := true, loops := true, apart := false, narrowed := true }
def FnExactWrongPointsUptoSaid : Prop := fnExactWrongPointsUptoRow.holds Tryz.pinned (OpenSpec.upto fnExactWrongPointsSpec)

/-- 'laws.FnExactRepairProgram', WHERE WHAT IT READS IS OF BULK AT MOST 1048576: true; the input reads as it did. -/
def fnExactRepairProgramUptoRow : OpenClaim := { program := "ytgkalkgplcdnkaagreat", sum := "e3bd8fd1d902fe9f6b0d94ab9a6b215c243e4c8b2ff9cf8a5ee1063c71628239", func := "loop.example/borrowcheck/laws.FnExactRepairProgram", spec := "fnExactRepairProgram", unfollowed := true, recurses := true, loops := true, apart := false, narrowed := true }
def FnExactRepairProgramUptoSaid : Prop := fnExactRepairProgramUptoRow.holds Tryz.pinned (OpenSpec.upto fnExactRepairProgramSpec)

/-- 'laws.FnExactAddDrop', WHERE WHAT IT READS IS OF BULK AT MOST 1048576: true; the input reads as it did. -/
def fnExactAddDropUptoRow : OpenClaim := { program := "ytgkalkgplcdnkaagreat", sum := "e3bd8fd1d902fe9f6b0d94ab9a6b215c243e4c8b2ff9cf8a5ee1063c71628239", func := "loop.example/borrowcheck/laws.FnExactAddDrop", spec := "fnExactAddDrop", inPlace := ["slices.overlaps[loop.example/borrowcheck/impl.Stmt]"], unfollowed := true, recurses := true, loops := true, apart := false, narrowed := true }
def FnExactAddDropUptoSaid : Prop := fnExactAddDropUptoRow.holds Tryz.pinned (OpenSpec.upto fnExactAddDropSpec)

/-- 'laws.FnExactWitnessOf', WHERE WHAT IT READS IS OF BULK AT MOST 1048576: true; the input reads as it did. -/
def fnExactWitnessOfUptoRow : OpenClaim := { program := "ytgkalkgplcdnkaagreat", sum := "e3bd8fd1d902fe9f6b0d94ab9a6b215c243e4c8b2ff9cf8a5ee1063c71628239", func := "loop.example/borrowcheck/laws.FnExactWitnessOf", spec := "fnExactWitnessOf", unfollowed := true, recurses := true, loops := true, apart := false, narrowed := true }
def FnExactWitnessOfUptoSaid : Prop := fnExactWitnessOfUptoRow.holds Tryz.pinned (OpenSpec.upto fnExactWitnessOfSpec)

end Rows
end Go.Proofs.YtgkalkgplcdnkaaGreat
