/-
  No cell of these rows narrows 'for every input' (looked for: loops, veiled, ifaces, maps, wideKeys, modest, calm, conditions, laid).
  DERIVED. THE GIVEN ROWS OF THIS SEAT. 2 by the template 'for every input the law returns true; each argument reads behind the call as it read before'; 0 by the template 'total and deterministic' (their statements: YtjebhaeihokgmaaGreatTotals.lean).
  GIVEN WITH THE SEED: the statements are not yours to turn. If you find one false, say at which input.
  Laid BY PROGRAM, IN A SANDBOX (cutbox-rows.mjs): the forced cells as the released guide's own fill.sh prints them over the translation 23ba82e0c91306ba… (all of the seat's roots in one cut). By AI agents, Wed Nov 11 2026. No macro, syntax, notation, axiom, sorry.
-/
import Derived.Test.YtjebhaeihokgmaaGreatChecked
import GoSem.Claim
import GoSem.ClaimJoined
import GoSem.ClaimMapViews
import Derived.JoinedTies
import Derived.KernelRfl
namespace Go.Proofs.YtjebhaeihokgmaaGreat
/- THE CELL 'sum', in the pinned program and in every row, IS THE sha256 OF THE DUMP (.gsa) THAT YtjebhaeihokgmaaGreatProg.lean LOADS. Nothing in Lean hashes anything: it is a label: what it is worth is what the hold of that sum in a sandbox is worth. -/
noncomputable def Tryz.pinned : Pinned := { name := "ytjebhaeihokgmaagreat", sum := "23ba82e0c91306ba6983f2e85a761a2829236f20d6ca2ebf8d111aa60ddb4147", checked := Tryz.checked }
namespace Rows
def none {H : Type} : Left H := { results := [], args := [] }

/-- 'laws.FnIssuePoints': WHATEVER THE INPUT: true; the input reads as it did. -/
def fnIssuePointsSpec : ChangeSpec := { name := "fnIssuePoints", fn := fun _ => fun
  | [d] => { results := [.lit (.bool true)], args := [d] }
  | _ => none }
def fnIssuePointsRow : OpenClaim := { program := "ytjebhaeihokgmaagreat", sum := "23ba82e0c91306ba6983f2e85a761a2829236f20d6ca2ebf8d111aa60ddb4147", func := "loop.example/borrowcheck/laws.FnIssuePoints", spec := "fnIssuePoints", unfollowed := true, recurses := true, apart := false }
def FnIssuePointsSaid : Prop := fnIssuePointsRow.holds Tryz.pinned (OpenSpec.ofChange fnIssuePointsSpec)

/-- ITS FALSE NEIGHBOUR: 'it returns false'. Refute it at one input. -/
def fnIssuePointsWrong : ChangeSpec := { name := "fnIssuePoints", fn := fun _ => fun
  | [d] => { results := [.lit (.bool false)], args := [d] }
  | _ => none }
def FnIssuePointsWrongFalsely : Prop := fnIssuePointsRow.holds Tryz.pinned (OpenSpec.ofChange fnIssuePointsWrong)

/-- 'laws.FnAccepts': WHATEVER THE INPUT: true; the input reads as it did. -/
def fnAcceptsSpec : ChangeSpec := { name := "fnAccepts", fn := fun _ => fun
  | [d] => { results := [.lit (.bool true)], args := [d] }
  | _ => none }
def fnAcceptsRow : OpenClaim := { program := "ytjebhaeihokgmaagreat", sum := "23ba82e0c91306ba6983f2e85a761a2829236f20d6ca2ebf8d111aa60ddb4147", func := "loop.example/borrowcheck/laws.FnAccepts", spec := "fnAccepts", unfollowed := true, recurses := true, apart := false }
def FnAcceptsSaid : Prop := fnAcceptsRow.holds Tryz.pinned (OpenSpec.ofChange fnAcceptsSpec)

/-- ITS FALSE NEIGHBOUR: 'it returns false'. Refute it at one input. -/
def fnAcceptsWrong : ChangeSpec := { name := "fnAccepts", fn := fun _ => fun
  | [d] => { results := [.lit (.bool false)], args := [d] }
  | _ => none }
def FnAcceptsWrongFalsely : Prop := fnAcceptsRow.holds Tryz.pinned (OpenSpec.ofChange fnAcceptsWrong)

/- THE SECOND FORM. 'bulk': how many values and letters a reading holds, each counted each time it is reached (what is shared counts as often as it is met; a slice's spare places count too). A statement '..UptoSaid' is the law's where the arguments, and the package variables that the reading takes, are together of bulk at most 1048576: NARROWER than '..Said'. Prove '..Said' where nothing that the law and all that it calls make is longer than what came in: it says more and counts as full. Else prove '..UptoSaid'. A law counts once. -/
mutual
def uptoBulk {H : Type} : DataW H → Nat
  | .lit (.string bytes) => bytes.length + 1
  | .lit _ => 1
  | .nil => 1
  | .ptr d => uptoBulk d + 1
  | .slice elems spare => uptoBulkAll elems + uptoBulkAll spare + 1
  | .agg parts => uptoBulkAll parts + 1
  | .iface _ d => uptoBulk d + 1
  | .map entries => uptoBulkEntries entries + 1
  | .held _ => 1
def uptoBulkAll {H : Type} : List (DataW H) → Nat
  | [] => 0
  | d :: r => uptoBulk d + uptoBulkAll r
def uptoBulkEntries {H : Type} : List (Lit × DataW H) → Nat
  | [] => 0
  | x :: r => uptoBulkEntry x + uptoBulkEntries r
def uptoBulkEntry {H : Type} : Lit × DataW H → Nat
  | (.string bytes, d) => bytes.length + uptoBulk d + 1
  | (_, d) => uptoBulk d + 1
 end
def uptoSmall : (H : Type) → List (DataW H) → Bool := fun _ ds => decide (uptoBulkAll ds ≤ 1048576)
def OpenSpec.upto (s : _root_.Go.ChangeSpec) : _root_.Go.OpenSpec := { _root_.Go.OpenSpec.ofChange s with cond := some uptoSmall }

/-- 'laws.FnIssuePoints', WHERE WHAT IT READS IS OF BULK AT MOST 1048576: true; the input reads as it did. -/
def fnIssuePointsUptoRow : OpenClaim := { program := "ytjebhaeihokgmaagreat", sum := "23ba82e0c91306ba6983f2e85a761a2829236f20d6ca2ebf8d111aa60ddb4147", func := "loop.example/borrowcheck/laws.FnIssuePoints", spec := "fnIssuePoints", unfollowed := true, recurses := true, apart := false, narrowed := true }
def FnIssuePointsUptoSaid : Prop := fnIssuePointsUptoRow.holds Tryz.pinned (OpenSpec.upto fnIssuePointsSpec)

/-- 'laws.FnAccepts', WHERE WHAT IT READS IS OF BULK AT MOST 1048576: true; the input reads as it did. -/
def fnAcceptsUptoRow : OpenClaim := { program := "ytjebhaeihokgmaagreat", sum := "23ba82e0c91306ba6983f2e85a761a2829236f20d6ca2ebf8d111aa60ddb4147", func := "loop.example/borrowcheck/laws.FnAccepts", spec := "fnAccepts", unfollowed := true, recurses := true, apart := false, narrowed := true }
def FnAcceptsUptoSaid : Prop := fnAcceptsUptoRow.holds Tryz.pinned (OpenSpec.upto fnAcceptsSpec)

end Rows
end Go.Proofs.YtjebhaeihokgmaaGreat
