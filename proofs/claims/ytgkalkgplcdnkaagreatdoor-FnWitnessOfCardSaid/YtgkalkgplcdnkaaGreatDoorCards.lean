/-
  DERIVED. GIVEN WITH THE SEED: THE CARDS: each row of YtgkalkgplcdnkaaGreatDoorRows.lean that lists a variable, with what it lists TIED to the program's text (the seventh form; the later family's looks); each row that meets fmt, with fmt's text TOLD by the authors' own Lean function (tested against real Go, not proved from fmt's source: count such statements apart). THE CARD IS WHAT COUNTS. Prove the row's statement (the work); the ties are given (YtgkalkgplcdnkaaGreatDoorTie.lean); close each card by the builder's one call (the guide's Derived/Test/ToyasCard.lean, 'card_holds'). Laid BY PROGRAM, IN A SANDBOX (cutbox-door.mjs). By AI agents, Wed Nov 11 2026. No macro, syntax, notation, axiom, sorry.
-/
import Derived.Test.YtgkalkgplcdnkaaGreatDoorRows
import GoSem.ClaimSeven
namespace Go.Proofs.YtgkalkgplcdnkaaGreatDoor
namespace Rows

/-- THE TIED CARD OF 'laws.FnExactFormatIssue'. -/
def fnExactFormatIssueCard : Claim7 := { stood := { row := fnExactFormatIssueRow, standIns := [], harness := (true, "bcb9cb5cf9420446a62e0daf5a130cf0bf3986ef352986c8ad4380b786ae5d5e"), looks := false }, kinds := [], alts := [], laidByText := true, laidKinds := [.data, .data, .data], laidTests := true, laidLooks := .later }
def FnExactFormatIssueCardSaid : Prop := Claim7.holds Tryz.pinned (.plain (OpenSpec.ofChange fnExactFormatIssueSpec)) fnExactFormatIssueCard

/-- THE TIED CARD OF 'laws.FnFormatIssue'. -/
def fnFormatIssueCard : Claim7 := { stood := { row := fnFormatIssueRow, standIns := [], harness := (true, "bcb9cb5cf9420446a62e0daf5a130cf0bf3986ef352986c8ad4380b786ae5d5e"), looks := false }, kinds := [], alts := [], laidByText := true, laidKinds := [.data, .data, .data], laidTests := true, laidLooks := .later }
def FnFormatIssueCardSaid : Prop := Claim7.holds Tryz.pinned (.plain (OpenSpec.ofChange fnFormatIssueSpec)) fnFormatIssueCard

/-- THE TIED CARD OF 'laws.FnWitnessOf'. -/
def fnWitnessOfCard : Claim7 := { stood := { row := fnWitnessOfRow, standIns := [], harness := (true, "bcb9cb5cf9420446a62e0daf5a130cf0bf3986ef352986c8ad4380b786ae5d5e"), looks := false }, kinds := [], alts := [], laidByText := true, laidKinds := [.data, .data, .data], laidTests := true, laidLooks := .later }
def FnWitnessOfCardSaid : Prop := Claim7.holds Tryz.pinned (.plain (OpenSpec.ofChange fnWitnessOfSpec)) fnWitnessOfCard

/-- THE SECOND FORM's CARD OF 'laws.FnExactFormatIssue'. -/
def fnExactFormatIssueUptoCard : Claim7 := { stood := { row := fnExactFormatIssueUptoRow, standIns := [], harness := (true, "bcb9cb5cf9420446a62e0daf5a130cf0bf3986ef352986c8ad4380b786ae5d5e"), looks := false }, kinds := [], alts := [], laidByText := true, laidKinds := [.data, .data, .data], laidTests := true, laidLooks := .later }
def FnExactFormatIssueUptoCardSaid : Prop := Claim7.holds Tryz.pinned (.plain (OpenSpec.upto fnExactFormatIssueSpec)) fnExactFormatIssueUptoCard

/-- THE SECOND FORM's CARD OF 'laws.FnFormatIssue'. -/
def fnFormatIssueUptoCard : Claim7 := { stood := { row := fnFormatIssueUptoRow, standIns := [], harness := (true, "bcb9cb5cf9420446a62e0daf5a130cf0bf3986ef352986c8ad4380b786ae5d5e"), looks := false }, kinds := [], alts := [], laidByText := true, laidKinds := [.data, .data, .data], laidTests := true, laidLooks := .later }
def FnFormatIssueUptoCardSaid : Prop := Claim7.holds Tryz.pinned (.plain (OpenSpec.upto fnFormatIssueSpec)) fnFormatIssueUptoCard

/-- THE SECOND FORM's CARD OF 'laws.FnWitnessOf'. -/
def fnWitnessOfUptoCard : Claim7 := { stood := { row := fnWitnessOfUptoRow, standIns := [], harness := (true, "bcb9cb5cf9420446a62e0daf5a130cf0bf3986ef352986c8ad4380b786ae5d5e"), looks := false }, kinds := [], alts := [], laidByText := true, laidKinds := [.data, .data, .data], laidTests := true, laidLooks := .later }
def FnWitnessOfUptoCardSaid : Prop := Claim7.holds Tryz.pinned (.plain (OpenSpec.upto fnWitnessOfSpec)) fnWitnessOfUptoCard
end Rows
end Go.Proofs.YtgkalkgplcdnkaaGreatDoor
