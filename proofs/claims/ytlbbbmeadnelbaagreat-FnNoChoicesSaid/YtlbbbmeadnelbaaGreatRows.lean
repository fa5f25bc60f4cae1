/-
  No cell of these rows narrows 'for every input' (looked for: loops, veiled, ifaces, maps, wideKeys, modest, calm, conditions, laid).
  DERIVED. THE GIVEN ROWS OF THIS SEAT. 14 by the template 'for every input the law returns true; each argument reads behind the call as it read before'; 0 by the template 'total and deterministic' (their statements: YtlbbbmeadnelbaaGreatTotals.lean).
  GIVEN WITH THE SEED: the statements are not yours to turn. If you find one false, say at which input.
  Laid BY PROGRAM, IN A SANDBOX (cutbox-rows.mjs): the forced cells as the released guide's own fill.sh prints them over the translation 62f131263523bb69… (all of the seat's roots in one cut). By AI agents, Wed Nov 11 2026. No macro, syntax, notation, axiom, sorry.
-/
import Derived.Test.YtlbbbmeadnelbaaGreatChecked
import GoSem.Claim
import GoSem.ClaimJoined
import GoSem.ClaimMapViews
import Derived.JoinedTies
import Derived.KernelRfl
namespace Go.Proofs.YtlbbbmeadnelbaaGreat
/- THE CELL 'sum', in the pinned program and in every row, IS THE sha256 OF THE DUMP (.gsa) THAT YtlbbbmeadnelbaaGreatProg.lean LOADS. Nothing in Lean hashes anything: it is a label: what it is worth is what the hold of that sum in a sandbox is worth. -/
noncomputable def Tryz.pinned : Pinned := { name := "ytlbbbmeadnelbaagreat", sum := "62f131263523bb69d4b0fa7e05baa2adbc9f22c961ed590dd2c4cd60daad51ed", checked := Tryz.checked }
namespace Rows
def none {H : Type} : Left H := { results := [], args := [] }

/-- 'laws.FnRunMore': WHATEVER THE INPUT: true; the input reads as it did. -/
def fnRunMoreSpec : ChangeSpec := { name := "fnRunMore", fn := fun _ => fun
  | [d] => { results := [.lit (.bool true)], args := [d] }
  | _ => none }
def fnRunMoreRow : OpenClaim := { program := "ytlbbbmeadnelbaagreat", sum := "62f131263523bb69d4b0fa7e05baa2adbc9f22c961ed590dd2c4cd60daad51ed", func := "loop.example/borrowcheck/laws.FnRunMore", spec := "fnRunMore", unfollowed := true, recurses := true, apart := false }
def FnRunMoreSaid : Prop := fnRunMoreRow.holds Tryz.pinned (OpenSpec.ofChange fnRunMoreSpec)

/-- ITS FALSE NEIGHBOUR: 'it returns false'. Refute it at one input. -/
def fnRunMoreWrong : ChangeSpec := { name := "fnRunMore", fn := fun _ => fun
  | [d] => { results := [.lit (.bool false)], args := [d] }
  | _ => none }
def FnRunMoreWrongFalsely : Prop := fnRunMoreRow.holds Tryz.pinned (OpenSpec.ofChange fnRunMoreWrong)

/-- 'laws.FnRunPoint': WHATEVER THE INPUT: true; the input reads as it did. -/
def fnRunPointSpec : ChangeSpec := { name := "fnRunPoint", fn := fun _ => fun
  | [d] => { results := [.lit (.bool true)], args := [d] }
  | _ => none }
def fnRunPointRow : OpenClaim := { program := "ytlbbbmeadnelbaagreat", sum := "62f131263523bb69d4b0fa7e05baa2adbc9f22c961ed590dd2c4cd60daad51ed", func := "loop.example/borrowcheck/laws.FnRunPoint", spec := "fnRunPoint", unfollowed := true, recurses := true, apart := false }
def FnRunPointSaid : Prop := fnRunPointRow.holds Tryz.pinned (OpenSpec.ofChange fnRunPointSpec)

/-- ITS FALSE NEIGHBOUR: 'it returns false'. Refute it at one input. -/
def fnRunPointWrong : ChangeSpec := { name := "fnRunPoint", fn := fun _ => fun
  | [d] => { results := [.lit (.bool false)], args := [d] }
  | _ => none }
def FnRunPointWrongFalsely : Prop := fnRunPointRow.holds Tryz.pinned (OpenSpec.ofChange fnRunPointWrong)

/-- 'laws.FnCellsBound': WHATEVER THE INPUT: true; the input reads as it did. -/
def fnCellsBoundSpec : ChangeSpec := { name := "fnCellsBound", fn := fun _ => fun
  | [d] => { results := [.lit (.bool true)], args := [d] }
  | _ => none }
def fnCellsBoundRow : OpenClaim := { program := "ytlbbbmeadnelbaagreat", sum := "62f131263523bb69d4b0fa7e05baa2adbc9f22c961ed590dd2c4cd60daad51ed", func := "loop.example/borrowcheck/laws.FnCellsBound", spec := "fnCellsBound", unfollowed := true, recurses := true, apart := false }
def FnCellsBoundSaid : Prop := fnCellsBoundRow.holds Tryz.pinned (OpenSpec.ofChange fnCellsBoundSpec)

/-- ITS FALSE NEIGHBOUR: 'it returns false'. Refute it at one input. -/
def fnCellsBoundWrong : ChangeSpec := { name := "fnCellsBound", fn := fun _ => fun
  | [d] => { results := [.lit (.bool false)], args := [d] }
  | _ => none }
def FnCellsBoundWrongFalsely : Prop := fnCellsBoundRow.holds Tryz.pinned (OpenSpec.ofChange fnCellsBoundWrong)

/-- 'laws.FnNumbersRead': WHATEVER THE INPUT: true; the input reads as it did. -/
def fnNumbersReadSpec : ChangeSpec := { name := "fnNumbersRead", fn := fun _ => fun
  | [d] => { results := [.lit (.bool true)], args := [d] }
  | _ => none }
def fnNumbersReadRow : OpenClaim := { program := "ytlbbbmeadnelbaagreat", sum := "62f131263523bb69d4b0fa7e05baa2adbc9f22c961ed590dd2c4cd60daad51ed", func := "loop.example/borrowcheck/laws.FnNumbersRead", spec := "fnNumbersRead", unfollowed := true, recurses := true, apart := false }
def FnNumbersReadSaid : Prop := fnNumbersReadRow.holds Tryz.pinned (OpenSpec.ofChange fnNumbersReadSpec)

/-- ITS FALSE NEIGHBOUR: 'it returns false'. Refute it at one input. -/
def fnNumbersReadWrong : ChangeSpec := { name := "fnNumbersRead", fn := fun _ => fun
  | [d] => { results := [.lit (.bool false)], args := [d] }
  | _ => none }
def FnNumbersReadWrongFalsely : Prop := fnNumbersReadRow.holds Tryz.pinned (OpenSpec.ofChange fnNumbersReadWrong)

/-- 'laws.FnFinalCells': WHATEVER THE INPUT: true; the input reads as it did. -/
def fnFinalCellsSpec : ChangeSpec := { name := "fnFinalCells", fn := fun _ => fun
  | [d] => { results := [.lit (.bool true)], args := [d] }
  | _ => none }
def fnFinalCellsRow : OpenClaim := { program := "ytlbbbmeadnelbaagreat", sum := "62f131263523bb69d4b0fa7e05baa2adbc9f22c961ed590dd2c4cd60daad51ed", func := "loop.example/borrowcheck/laws.FnFinalCells", spec := "fnFinalCells", unfollowed := true, recurses := true, apart := false }
def FnFinalCellsSaid : Prop := fnFinalCellsRow.holds Tryz.pinned (OpenSpec.ofChange fnFinalCellsSpec)

/-- ITS FALSE NEIGHBOUR: 'it returns false'. Refute it at one input. -/
def fnFinalCellsWrong : ChangeSpec := { name := "fnFinalCells", fn := fun _ => fun
  | [d] => { results := [.lit (.bool false)], args := [d] }
  | _ => none }
def FnFinalCellsWrongFalsely : Prop := fnFinalCellsRow.holds Tryz.pinned (OpenSpec.ofChange fnFinalCellsWrong)

/-- 'laws.FnRunUnset': WHATEVER THE INPUT: true; the input reads as it did. -/
def fnRunUnsetSpec : ChangeSpec := { name := "fnRunUnset", fn := fun _ => fun
  | [d] => { results := [.lit (.bool true)], args := [d] }
  | _ => none }
def fnRunUnsetRow : OpenClaim := { program := "ytlbbbmeadnelbaagreat", sum := "62f131263523bb69d4b0fa7e05baa2adbc9f22c961ed590dd2c4cd60daad51ed", func := "loop.example/borrowcheck/laws.FnRunUnset", spec := "fnRunUnset", unfollowed := true, recurses := true, apart := false }
def FnRunUnsetSaid : Prop := fnRunUnsetRow.holds Tryz.pinned (OpenSpec.ofChange fnRunUnsetSpec)

/-- ITS FALSE NEIGHBOUR: 'it returns false'. Refute it at one input. -/
def fnRunUnsetWrong : ChangeSpec := { name := "fnRunUnset", fn := fun _ => fun
  | [d] => { results := [.lit (.bool false)], args := [d] }
  | _ => none }
def FnRunUnsetWrongFalsely : Prop := fnRunUnsetRow.holds Tryz.pinned (OpenSpec.ofChange fnRunUnsetWrong)

/-- 'laws.FnFinalSlots': WHATEVER THE INPUT: true; the input reads as it did. -/
def fnFinalSlotsSpec : ChangeSpec := { name := "fnFinalSlots", fn := fun _ => fun
  | [d] => { results := [.lit (.bool true)], args := [d] }
  | _ => none }
def fnFinalSlotsRow : OpenClaim := { program := "ytlbbbmeadnelbaagreat", sum := "62f131263523bb69d4b0fa7e05baa2adbc9f22c961ed590dd2c4cd60daad51ed", func := "loop.example/borrowcheck/laws.FnFinalSlots", spec := "fnFinalSlots", unfollowed := true, recurses := true, apart := false }
def FnFinalSlotsSaid : Prop := fnFinalSlotsRow.holds Tryz.pinned (OpenSpec.ofChange fnFinalSlotsSpec)

/-- ITS FALSE NEIGHBOUR: 'it returns false'. Refute it at one input. -/
def fnFinalSlotsWrong : ChangeSpec := { name := "fnFinalSlots", fn := fun _ => fun
  | [d] => { results := [.lit (.bool false)], args := [d] }
  | _ => none }
def FnFinalSlotsWrongFalsely : Prop := fnFinalSlotsRow.holds Tryz.pinned (OpenSpec.ofChange fnFinalSlotsWrong)

/-- 'laws.FnNoLeak': WHATEVER THE INPUT: true; the input reads as it did. -/
def fnNoLeakSpec : ChangeSpec := { name := "fnNoLeak", fn := fun _ => fun
  | [d] => { results := [.lit (.bool true)], args := [d] }
  | _ => none }
def fnNoLeakRow : OpenClaim := { program := "ytlbbbmeadnelbaagreat", sum := "62f131263523bb69d4b0fa7e05baa2adbc9f22c961ed590dd2c4cd60daad51ed", func := "loop.example/borrowcheck/laws.FnNoLeak", spec := "fnNoLeak", unfollowed := true, recurses := true, apart := false }
def FnNoLeakSaid : Prop := fnNoLeakRow.holds Tryz.pinned (OpenSpec.ofChange fnNoLeakSpec)

/-- ITS FALSE NEIGHBOUR: 'it returns false'. Refute it at one input. -/
def fnNoLeakWrong : ChangeSpec := { name := "fnNoLeak", fn := fun _ => fun
  | [d] => { results := [.lit (.bool false)], args := [d] }
  | _ => none }
def FnNoLeakWrongFalsely : Prop := fnNoLeakRow.holds Tryz.pinned (OpenSpec.ofChange fnNoLeakWrong)

/-- 'laws.FnStraightRun': WHATEVER THE INPUT: true; the input reads as it did. -/
def fnStraightRunSpec : ChangeSpec := { name := "fnStraightRun", fn := fun _ => fun
  | [d] => { results := [.lit (.bool true)], args := [d] }
  | _ => none }
def fnStraightRunRow : OpenClaim := { program := "ytlbbbmeadnelbaagreat", sum := "62f131263523bb69d4b0fa7e05baa2adbc9f22c961ed590dd2c4cd60daad51ed", func := "loop.example/borrowcheck/laws.FnStraightRun", spec := "fnStraightRun", unfollowed := true, recurses := true, apart := false }
def FnStraightRunSaid : Prop := fnStraightRunRow.holds Tryz.pinned (OpenSpec.ofChange fnStraightRunSpec)

/-- ITS FALSE NEIGHBOUR: 'it returns false'. Refute it at one input. -/
def fnStraightRunWrong : ChangeSpec := { name := "fnStraightRun", fn := fun _ => fun
  | [d] => { results := [.lit (.bool false)], args := [d] }
  | _ => none }
def FnStraightRunWrongFalsely : Prop := fnStraightRunRow.holds Tryz.pinned (OpenSpec.ofChange fnStraightRunWrong)

/-- 'laws.FnAllRuns': WHATEVER THE INPUT: true; the input reads as it did. -/
def fnAllRunsSpec : ChangeSpec := { name := "fnAllRuns", fn := fun _ => fun
  | [d] => { results := [.lit (.bool true)], args := [d] }
  | _ => none }
def fnAllRunsRow : OpenClaim := { program := "ytlbbbmeadnelbaagreat", sum := "62f131263523bb69d4b0fa7e05baa2adbc9f22c961ed590dd2c4cd60daad51ed", func := "loop.example/borrowcheck/laws.FnAllRuns", spec := "fnAllRuns", unfollowed := true, recurses := true, apart := false }
def FnAllRunsSaid : Prop := fnAllRunsRow.holds Tryz.pinned (OpenSpec.ofChange fnAllRunsSpec)

/-- ITS FALSE NEIGHBOUR: 'it returns false'. Refute it at one input. -/
def fnAllRunsWrong : ChangeSpec := { name := "fnAllRuns", fn := fun _ => fun
  | [d] => { results := [.lit (.bool false)], args := [d] }
  | _ => none }
def FnAllRunsWrongFalsely : Prop := fnAllRunsRow.holds Tryz.pinned (OpenSpec.ofChange fnAllRunsWrong)

/-- 'laws.FnNoChoices': WHATEVER THE INPUT: true; the input reads as it did. -/
def fnNoChoicesSpec : ChangeSpec := { name := "fnNoChoices", fn := fun _ => fun
  | [d] => { results := [.lit (.bool true)], args := [d] }
  | _ => none }
def fnNoChoicesRow : OpenClaim := { program := "ytlbbbmeadnelbaagreat", sum := "62f131263523bb69d4b0fa7e05baa2adbc9f22c961ed590dd2c4cd60daad51ed", func := "loop.example/borrowcheck/laws.FnNoChoices", spec := "fnNoChoices", unfollowed := true, recurses := true, apart := false }
def FnNoChoicesSaid : Prop := fnNoChoicesRow.holds Tryz.pinned (OpenSpec.ofChange fnNoChoicesSpec)

/-- ITS FALSE NEIGHBOUR: 'it returns false'. Refute it at one input. -/
def fnNoChoicesWrong : ChangeSpec := { name := "fnNoChoices", fn := fun _ => fun
  | [d] => { results := [.lit (.bool false)], args := [d] }
  | _ => none }
def FnNoChoicesWrongFalsely : Prop := fnNoChoicesRow.holds Tryz.pinned (OpenSpec.ofChange fnNoChoicesWrong)

/-- 'laws.FnSound': WHATEVER THE INPUT: true; the input reads as it did. -/
def fnSoundSpec : ChangeSpec := { name := "fnSound", fn := fun _ => fun
  | [d] => { results := [.lit (.bool true)], args := [d] }
  | _ => none }
def fnSoundRow : OpenClaim := { program := "ytlbbbmeadnelbaagreat", sum := "62f131263523bb69d4b0fa7e05baa2adbc9f22c961ed590dd2c4cd60daad51ed", func := "loop.example/borrowcheck/laws.FnSound", spec := "fnSound", unfollowed := true, recurses := true, apart := false }
def FnSoundSaid : Prop := fnSoundRow.holds Tryz.pinned (OpenSpec.ofChange fnSoundSpec)

/-- ITS FALSE NEIGHBOUR: 'it returns false'. Refute it at one input. -/
def fnSoundWrong : ChangeSpec := { name := "fnSound", fn := fun _ => fun
  | [d] => { results := [.lit (.bool false)], args := [d] }
  | _ => none }
def FnSoundWrongFalsely : Prop := fnSoundRow.holds Tryz.pinned (OpenSpec.ofChange fnSoundWrong)

/-- 'laws.FnCountWrong': WHATEVER THE INPUT: true; the input reads as it did. -/
def fnCountWrongSpec : ChangeSpec := { name := "fnCountWrong", fn := fun _ => fun
  | [d] => { results := [.lit (.bool true)], args := [d] }
  | _ => none }
def fnCountWrongRow : OpenClaim := { program := "ytlbbbmeadnelbaagreat", sum := "62f131263523bb69d4b0fa7e05baa2adbc9f22c961ed590dd2c4cd60daad51ed", func := "loop.example/borrowcheck/laws.FnCountWrong", spec := "fnCountWrong", unfollowed := true, recurses := true, apart := false }
def FnCountWrongSaid : Prop := fnCountWrongRow.holds Tryz.pinned (OpenSpec.ofChange fnCountWrongSpec)

/-- ITS FALSE NEIGHBOUR: 'it returns false'. Refute it at one input. -/
def fnCountWrongWrong : ChangeSpec := { name := "fnCountWrong", fn := fun _ => fun
  | [d] => { results := [.lit (.bool false)], args := [d] }
  | _ => none }
def FnCountWrongWrongFalsely : Prop := fnCountWrongRow.holds Tryz.pinned (OpenSpec.ofChange fnCountWrongWrong)

/-- 'laws.FnFirstWrong': WHATEVER THE INPUT: true; the input reads as it did. -/
def fnFirstWrongSpec : ChangeSpec := { name := "fnFirstWrong", fn := fun _ => fun
  | [d] => { results := [.lit (.bool true)], args := [d] }
  | _ => none }
def fnFirstWrongRow : OpenClaim := { program := "ytlbbbmeadnelbaagreat", sum := "62f131263523bb69d4b0fa7e05baa2adbc9f22c961ed590dd2c4cd60daad51ed", func := "loop.example/borrowcheck/laws.FnFirstWrong", spec := "fnFirstWrong", unfollowed := true, recurses := true, apart := false }
def FnFirstWrongSaid : Prop := fnFirstWrongRow.holds Tryz.pinned (OpenSpec.ofChange fnFirstWrongSpec)

/-- ITS FALSE NEIGHBOUR: 'it returns false'. Refute it at one input. -/
def fnFirstWrongWrong : ChangeSpec := { name := "fnFirstWrong", fn := fun _ => fun
  | [d] => { results := [.lit (.bool false)], args := [d] }
  | _ => none }
def FnFirstWrongWrongFalsely : Prop := fnFirstWrongRow.holds Tryz.pinned (OpenSpec.ofChange fnFirstWrongWrong)

/- THE SECOND FORM. 'bulk': how many values and letters a reading holds, each counted each time it is reached (what is shared counts as often as it is met; a slice's spare places count too). A statement '..UptoSaid' is the law's where the arguments, and the package variables that the reading takes, are together of bulk at most 1048576: NARROWER than '..Said'. Prove '..Said' where nothing that the law and all that it calls make is longer than what came in: it says more and counts as full. Else prove '..UptoSaid'. A law counts once. -/
mutual
def uptoBulk {H : Type} : DataW H → Nat
  | .lit (.string bytes) => bytes.length + 1
  | .lit _ => 1
  | .nil => 1
  | .ptr d => uptoBulk d + 1
  | .slice elems spare => uptoBulkAll elems + uptoBulkAll spare + 1
  | .agg parts => uptoBulkAll parts + 1
  | .iface _ d => uptoBulk d + 1
  | .map entries => uptoBulkEntries entries + 1
  | .held _ => 1
def uptoBulkAll {H : Type} : List (DataW H) → Nat
  | [] => 0
  | d :: r => uptoBulk d + uptoBulkAll r
def uptoBulkEntries {H : Type} : List (Lit × DataW H) → Nat
  | [] => 0
  | x :: r => uptoBulkEntry x + uptoBulkEntries r
def uptoBulkEntry {H : Type} : Lit × DataW H → Nat
  | (.string bytes, d) => bytes.length + uptoBulk d + 1
  | (_, d) => uptoBulk d + 1
 end
def uptoSmall : (H : Type) → List (DataW H) → Bool := fun _ ds => decide (uptoBulkAll ds ≤ 1048576)
def OpenSpec.upto (s : _root_.Go.ChangeSpec) : _root_.Go.OpenSpec := { _root_.Go.OpenSpec.ofChange s with cond := some uptoSmall }

/-- 'laws.FnRunMore', WHERE WHAT IT READS IS OF BULK AT MOST 1048576: true; the input reads as it did. -/
def fnRunMoreUptoRow : OpenClaim := { program := "ytlbbbmeadnelbaagreat", sum := "62f131263523bb69d4b0fa7e05baa2adbc9f22c961ed590dd2c4cd60daad51ed", func := "loop.example/borrowcheck/laws.FnRunMore", spec := "fnRunMore", unfollowed := true, recurses := true, apart := false, narrowed := true }
def FnRunMoreUptoSaid : Prop := fnRunMoreUptoRow.holds Tryz.pinned (OpenSpec.upto fnRunMoreSpec)

/-- 'laws.FnRunPoint', WHERE WHAT IT READS IS OF BULK AT MOST 1048576: true; the input reads as it did. -/
def fnRunPointUptoRow : OpenClaim := { program := "ytlbbbmeadnelbaagreat", sum := "62f131263523bb69d4b0fa7e05baa2adbc9f22c961ed590dd2c4cd60daad51ed", func := "loop.example/borrowcheck/laws.FnRunPoint", spec := "fnRunPoint", unfollowed := true, recurses := true, apart := false, narrowed := true }
def FnRunPointUptoSaid : Prop := fnRunPointUptoRow.holds Tryz.pinned (OpenSpec.upto fnRunPointSpec)

/-- 'laws.FnCellsBound', WHERE WHAT IT READS IS OF BULK AT MOST 1048576: true; the input reads as it did. -/
def fnCellsBoundUptoRow : OpenClaim := { program := "ytlbbbmeadnelbaagreat", sum := "62f131263523bb69d4b0fa7e05baa2adbc9f22c961ed590dd2c4cd60daad51ed", func := "loop.example/borrowcheck/laws.FnCellsBound", spec := "fnCellsBound", unfollowed := true, recurses := true, apart := false, narrowed := true }
def FnCellsBoundUptoSaid : Prop := fnCellsBoundUptoRow.holds Tryz.pinned (OpenSpec.upto fnCellsBoundSpec)

/-- 'laws.FnNumbersRead', WHERE WHAT IT READS IS OF BULK AT MOST 1048576: true; the input reads as it did. -/
def fnNumbersReadUptoRow : OpenClaim := { program := "ytlbbbmeadnelbaagreat", sum := "62f131263523bb69d4b0fa7e05baa2adbc9f22c961ed590dd2c4cd60daad51ed", func := "loop.example/borrowcheck/laws.FnNumbersRead", spec := "fnNumbersRead", unfollowed := true, recurses := true, apart := false, narrowed := true }
def FnNumbersReadUptoSaid : Prop := fnNumbersReadUptoRow.holds Tryz.pinned (OpenSpec.upto fnNumbersReadSpec)

/-- 'laws.FnFinalCells', WHERE WHAT IT READS IS OF BULK AT MOST 1048576: true; the input reads as it did. -/
def fnFinalCellsUptoRow : OpenClaim := { program := "ytlbbbmeadnelbaagreat", sum := "62f131263523bb69d4b0fa7e05baa2adbc9f22c961ed590dd2c4cd60daad51ed", func := "loop.example/borrowcheck/laws.FnFinalCells", spec := "fnFinalCells", unfollowed := true, recurses := true, apart := false, narrowed := true }
def FnFinalCellsUptoSaid : Prop := fnFinalCellsUptoRow.holds Tryz.pinned (OpenSpec.upto fnFinalCellsSpec)

/-- 'laws.FnRunUnset', WHERE WHAT IT READS IS OF BULK AT MOST 1048576: true; the input reads as it did. -/
def fnRunUnsetUptoRow : OpenClaim := { program := "ytlbbbmeadnelbaagreat", sum := "62f131263523bb69d4b0fa7e05baa2adbc9f22c961ed590dd2c4cd60daad51ed", func := "loop.example/borrowcheck/laws.FnRunUnset", spec := "fnRunUnset", unfollowed := true, recurses := true, apart := false, narrowed := true }
def FnRunUnsetUptoSaid : Prop := fnRunUnsetUptoRow.holds Tryz.pinned (OpenSpec.upto fnRunUnsetSpec)

/-- 'laws.FnFinalSlots', WHERE WHAT IT READS IS OF BULK AT MOST 1048576: true; the input reads as it did. -/
def fnFinalSlotsUptoRow : OpenClaim := { program := "ytlbbbmeadnelbaagreat", sum := "62f131263523bb69d4b0fa7e05baa2adbc9f22c961ed590dd2c4cd60daad51ed", func := "loop.example/borrowcheck/laws.FnFinalSlots", spec := "fnFinalSlots", unfollowed := true, recurses := true, apart := false, narrowed := true }
def FnFinalSlotsUptoSaid : Prop := fnFinalSlotsUptoRow.holds Tryz.pinned (OpenSpec.upto fnFinalSlotsSpec)

/-- 'laws.FnNoLeak', WHERE WHAT IT READS IS OF BULK AT MOST 1048576: true; the input reads as it did. -/
def fnNoLeakUptoRow : OpenClaim := { program := "ytlbbbmeadnelbaagreat", sum := "62f131263523bb69d4b0fa7e05baa2adbc9f22c961ed590dd2c4cd60daad51ed", func := "loop.example/borrowcheck/laws.FnNoLeak", spec := "fnNoLeak", unfollowed := true, recurses := true, apart := false, narrowed := true }
def FnNoLeakUptoSaid : Prop := fnNoLeakUptoRow.holds Tryz.pinned (OpenSpec.upto fnNoLeakSpec)

/-- 'laws.FnStraightRun', WHERE WHAT IT READS IS OF BULK AT MOST 1048576: true; the input reads as it did. -/
def fnStraightRunUptoRow : OpenClaim := { program := "ytlbbbmeadnelbaagreat", sum := "62f131263523bb69d4b0fa7e05baa2adbc9f22c961ed590dd2c4cd60daad51ed", func := "loop.example/borrowcheck/laws.FnStraightRun", spec := "fnStraightRun", unfollowed := true, recurses := true, apart := false, narrowed := true }
def FnStraightRunUptoSaid : Prop := fnStraightRunUptoRow.holds Tryz.pinned (OpenSpec.upto fnStraightRunSpec)

/-- 'laws.FnAllRuns', WHERE WHAT IT READS IS OF BULK AT MOST 1048576: true; the input reads as it did. -/
def fnAllRunsUptoRow : OpenClaim := { program := "ytlbbbmeadnelbaagreat", sum := "62f131263523bb69d4b0fa7e05baa2adbc9f22c961ed590dd2c4cd60daad51ed", func := "loop.example/borrowcheck/laws.FnAllRuns", spec := "fnAllRuns", unfollowed := true, recurses := true, apart := false, narrowed := true }
def FnAllRunsUptoSaid : Prop := fnAllRunsUptoRow.holds Tryz.pinned (OpenSpec.upto fnAllRunsSpec)

/-- 'laws.FnNoChoices', WHERE WHAT IT READS IS OF BULK AT MOST 1048576: true; the input reads as it did. -/
def fnNoChoicesUptoRow : OpenClaim := { program := "ytlbbbmeadnelbaagreat", sum := "62f131263523bb69d4b0fa7e05baa2adbc9f22c961ed590dd2c4cd60daad51ed", func := "loop.example/borrowcheck/laws.FnNoChoices", spec := "fnNoChoices", unfollowed := true, recurses := true, apart := false, narrowed := true }
def FnNoChoicesUptoSaid : Prop := fnNoChoicesUptoRow.holds Tryz.pinned (OpenSpec.upto fnNoChoicesSpec)

/-- 'laws.FnSound', WHERE WHAT IT READS IS OF BULK AT MOST 1048576: true; the input reads as it did. -/
def fnSoundUptoRow : OpenClaim := { program := "ytlbbbmeadnelbaagreat", sum := "62f131263523bb69d4b0fa7e05baa2adbc9f22c961ed590dd2c4cd60daad51ed", func := "loop.example/borrowcheck/laws.FnSound", spec := "fnSound", unfollowed := true, recurses := true, apart := false, narrowed := true }
def FnSoundUptoSaid : Prop := fnSoundUptoRow.holds Tryz.pinned (OpenSpec.upto fnSoundSpec)

/-- 'laws.FnCountWrong', WHERE WHAT IT READS IS OF BULK AT MOST 1048576: true; the input reads as it did. -/
def fnCountWrongUptoRow : OpenClaim := { program := "ytlbbbmeadnelbaagreat", sum := "62f131263523bb69d4b0fa7e05baa2adbc9f22c961ed590dd2c4cd60daad51ed", func := "loop.example/borrowcheck/laws.FnCountWrong", spec := "fnCountWrong", unfollowed := true, recurses := true, apart := false, narrowed := true }
def FnCountWrongUptoSaid : Prop := fnCountWrongUptoRow.holds Tryz.pinned (OpenSpec.upto fnCountWrongSpec)

/-- 'laws.FnFirstWrong', WHERE WHAT IT READS IS OF BULK AT MOST 1048576: true; the input reads as it did. -/
def fnFirstWrongUptoRow : OpenClaim := { program := "ytlbbbmeadnelbaagreat", sum := "62f131263523bb69d4b0fa7e05baa2adbc9f22c961ed590dd2c4cd60daad51ed", func := "loop.example/borrowcheck/laws.FnFirstWrong", spec := "fnFirstWrong", unfollowed := true, recurses := true, apart := false, narrowed := true }
def FnFirstWrongUptoSaid : Prop := fnFirstWrongUptoRow.holds Tryz.pinned (OpenSpec.upto fnFirstWrongSpec)

end Rows
end Go.Proofs.YtlbbbmeadnelbaaGreat
