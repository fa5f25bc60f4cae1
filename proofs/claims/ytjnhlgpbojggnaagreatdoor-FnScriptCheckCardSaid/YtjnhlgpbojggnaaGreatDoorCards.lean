/-
  DERIVED. GIVEN WITH THE SEED: THE CARDS: each row of YtjnhlgpbojggnaaGreatDoorRows.lean that lists a variable, with what it lists TIED to the program's text (the seventh form; the later family's looks); each row that meets fmt, with fmt's text TOLD by the authors' own Lean function (tested against real Go, not proved from fmt's source: count such statements apart). THE CARD IS WHAT COUNTS. Prove the row's statement (the work); the ties are given (YtjnhlgpbojggnaaGreatDoorTie.lean); close each card by the builder's one call (the guide's Derived/Test/ToyasCard.lean, 'card_holds'). Laid BY PROGRAM, IN A SANDBOX (cutbox-door.mjs). By AI agents, Wed Nov 11 2026. No macro, syntax, notation, axiom, sorry.
-/
import Derived.Test.YtjnhlgpbojggnaaGreatDoorRows
import GoSem.ClaimSeven
namespace Go.Proofs.YtjnhlgpbojggnaaGreatDoor
namespace Rows

/-- THE TIED CARD OF 'laws.FnScriptSmall'. -/
def fnScriptSmallCard : Claim7 := { stood := { row := fnScriptSmallRow, standIns := [], harness := (true, "6ccd2d9463e81f3442b2f44e9fac94596889347d20ed811abe6a15795062c832"), looks := false }, kinds := [], alts := [], laidByText := true, laidKinds := [.data, .data, .data, .data, .pinned], laidTests := true, laidLooks := .later }
def FnScriptSmallCardSaid : Prop := Claim7.holds Tryz.pinned (.plain (OpenSpec.ofChange fnScriptSmallSpec)) fnScriptSmallCard

/-- THE TIED CARD OF 'laws.FnScriptShow'. -/
def fnScriptShowCard : Claim7 := { stood := { row := fnScriptShowRow, standIns := [], harness := (true, "6ccd2d9463e81f3442b2f44e9fac94596889347d20ed811abe6a15795062c832"), looks := false }, kinds := [], alts := [], laidByText := true, laidKinds := [.data, .data, .data, .data, .pinned], laidTests := true, laidLooks := .later }
def FnScriptShowCardSaid : Prop := Claim7.holds Tryz.pinned (.plain (OpenSpec.ofChange fnScriptShowSpec)) fnScriptShowCard

/-- THE TIED CARD OF 'laws.FnScriptDrop'. -/
def fnScriptDropCard : Claim7 := { stood := { row := fnScriptDropRow, standIns := [], harness := (true, "6ccd2d9463e81f3442b2f44e9fac94596889347d20ed811abe6a15795062c832"), looks := false }, kinds := [], alts := [], laidByText := true, laidKinds := [.data, .data, .data, .data, .pinned], laidTests := true, laidLooks := .later }
def FnScriptDropCardSaid : Prop := Claim7.holds Tryz.pinned (.plain (OpenSpec.ofChange fnScriptDropSpec)) fnScriptDropCard

/-- THE TIED CARD OF 'laws.FnScriptPoints'. -/
def fnScriptPointsCard : Claim7 := { stood := { row := fnScriptPointsRow, standIns := [], harness := (true, "6ccd2d9463e81f3442b2f44e9fac94596889347d20ed811abe6a15795062c832"), looks := false }, kinds := [], alts := [], laidByText := true, laidKinds := [.data, .data, .data, .data, .pinned], laidTests := true, laidLooks := .later }
def FnScriptPointsCardSaid : Prop := Claim7.holds Tryz.pinned (.plain (OpenSpec.ofChange fnScriptPointsSpec)) fnScriptPointsCard

/-- THE TIED CARD OF 'laws.FnScriptRun'. -/
def fnScriptRunCard : Claim7 := { stood := { row := fnScriptRunRow, standIns := [], harness := (true, "6ccd2d9463e81f3442b2f44e9fac94596889347d20ed811abe6a15795062c832"), looks := false }, kinds := [], alts := [], laidByText := true, laidKinds := [.data, .data, .data, .data, .pinned], laidTests := true, laidLooks := .later }
def FnScriptRunCardSaid : Prop := Claim7.holds Tryz.pinned (.plain (OpenSpec.ofChange fnScriptRunSpec)) fnScriptRunCard

/-- THE TIED CARD OF 'laws.FnScriptCheck'. -/
def fnScriptCheckCard : Claim7 := { stood := { row := fnScriptCheckRow, standIns := [], harness := (true, "6ccd2d9463e81f3442b2f44e9fac94596889347d20ed811abe6a15795062c832"), looks := false }, kinds := [], alts := [], laidByText := true, laidKinds := [.data, .data, .data, .data, .pinned], laidTests := true, laidLooks := .later }
def FnScriptCheckCardSaid : Prop := Claim7.holds Tryz.pinned (.plain (OpenSpec.ofChange fnScriptCheckSpec)) fnScriptCheckCard

/-- THE SECOND FORM's CARD OF 'laws.FnScriptSmall'. -/
def fnScriptSmallUptoCard : Claim7 := { stood := { row := fnScriptSmallUptoRow, standIns := [], harness := (true, "6ccd2d9463e81f3442b2f44e9fac94596889347d20ed811abe6a15795062c832"), looks := false }, kinds := [], alts := [], laidByText := true, laidKinds := [.data, .data, .data, .data, .pinned], laidTests := true, laidLooks := .later }
def FnScriptSmallUptoCardSaid : Prop := Claim7.holds Tryz.pinned (.plain (OpenSpec.upto fnScriptSmallSpec)) fnScriptSmallUptoCard

/-- THE SECOND FORM's CARD OF 'laws.FnScriptShow'. -/
def fnScriptShowUptoCard : Claim7 := { stood := { row := fnScriptShowUptoRow, standIns := [], harness := (true, "6ccd2d9463e81f3442b2f44e9fac94596889347d20ed811abe6a15795062c832"), looks := false }, kinds := [], alts := [], laidByText := true, laidKinds := [.data, .data, .data, .data, .pinned], laidTests := true, laidLooks := .later }
def FnScriptShowUptoCardSaid : Prop := Claim7.holds Tryz.pinned (.plain (OpenSpec.upto fnScriptShowSpec)) fnScriptShowUptoCard

/-- THE SECOND FORM's CARD OF 'laws.FnScriptDrop'. -/
def fnScriptDropUptoCard : Claim7 := { stood := { row := fnScriptDropUptoRow, standIns := [], harness := (true, "6ccd2d9463e81f3442b2f44e9fac94596889347d20ed811abe6a15795062c832"), looks := false }, kinds := [], alts := [], laidByText := true, laidKinds := [.data, .data, .data, .data, .pinned], laidTests := true, laidLooks := .later }
def FnScriptDropUptoCardSaid : Prop := Claim7.holds Tryz.pinned (.plain (OpenSpec.upto fnScriptDropSpec)) fnScriptDropUptoCard

/-- THE SECOND FORM's CARD OF 'laws.FnScriptPoints'. -/
def fnScriptPointsUptoCard : Claim7 := { stood := { row := fnScriptPointsUptoRow, standIns := [], harness := (true, "6ccd2d9463e81f3442b2f44e9fac94596889347d20ed811abe6a15795062c832"), looks := false }, kinds := [], alts := [], laidByText := true, laidKinds := [.data, .data, .data, .data, .pinned], laidTests := true, laidLooks := .later }
def FnScriptPointsUptoCardSaid : Prop := Claim7.holds Tryz.pinned (.plain (OpenSpec.upto fnScriptPointsSpec)) fnScriptPointsUptoCard

/-- THE SECOND FORM's CARD OF 'laws.FnScriptRun'. -/
def fnScriptRunUptoCard : Claim7 := { stood := { row := fnScriptRunUptoRow, standIns := [], harness := (true, "6ccd2d9463e81f3442b2f44e9fac94596889347d20ed811abe6a15795062c832"), looks := false }, kinds := [], alts := [], laidByText := true, laidKinds := [.data, .data, .data, .data, .pinned], laidTests := true, laidLooks := .later }
def FnScriptRunUptoCardSaid : Prop := Claim7.holds Tryz.pinned (.plain (OpenSpec.upto fnScriptRunSpec)) fnScriptRunUptoCard

/-- THE SECOND FORM's CARD OF 'laws.FnScriptCheck'. -/
def fnScriptCheckUptoCard : Claim7 := { stood := { row := fnScriptCheckUptoRow, standIns := [], harness := (true, "6ccd2d9463e81f3442b2f44e9fac94596889347d20ed811abe6a15795062c832"), looks := false }, kinds := [], alts := [], laidByText := true, laidKinds := [.data, .data, .data, .data, .pinned], laidTests := true, laidLooks := .later }
def FnScriptCheckUptoCardSaid : Prop := Claim7.holds Tryz.pinned (.plain (OpenSpec.upto fnScriptCheckSpec)) fnScriptCheckUptoCard
end Rows
end Go.Proofs.YtjnhlgpbojggnaaGreatDoor
