/-
  DERIVED. GIVEN WITH THE SEED: THE CARDS: each row of YteidfaaldcedpaaGreatDoorRows.lean that lists a variable, with what it lists TIED to the program's text (the seventh form; the later family's looks); each row that meets fmt, with fmt's text TOLD by the authors' own Lean function (tested against real Go, not proved from fmt's source: count such statements apart). THE CARD IS WHAT COUNTS. Prove the row's statement (the work); the ties are given (YteidfaaldcedpaaGreatDoorTie.lean); close each card by the builder's one call (the guide's Derived/Test/ToyasCard.lean, 'card_holds'). Laid BY PROGRAM, IN A SANDBOX (cutbox-door.mjs). By AI agents, Wed Nov 11 2026. No macro, syntax, notation, axiom, sorry.
-/
import Derived.Test.YteidfaaldcedpaaGreatDoorRows
import GoSem.ClaimSeven
namespace Go.Proofs.YteidfaaldcedpaaGreatDoor
namespace Rows

/-- THE TIED CARD OF 'laws.FnUnsetReal'. -/
def fnUnsetRealCard : Claim7 := { stood := { row := fnUnsetRealRow, standIns := [], harness := (true, "2bf85904870a4a360338b4680cf0a96e0ae0810392b814a9b28b319b3b7cd8f9"), looks := false }, kinds := [], alts := [], laidByText := true, laidKinds := [.data, .data, .data], laidTests := true, laidLooks := .later }
def FnUnsetRealCardSaid : Prop := Claim7.holds Tryz.pinned (.plain (OpenSpec.ofChange fnUnsetRealSpec)) fnUnsetRealCard

/-- THE SECOND FORM's CARD OF 'laws.FnUnsetReal'. -/
def fnUnsetRealUptoCard : Claim7 := { stood := { row := fnUnsetRealUptoRow, standIns := [], harness := (true, "2bf85904870a4a360338b4680cf0a96e0ae0810392b814a9b28b319b3b7cd8f9"), looks := false }, kinds := [], alts := [], laidByText := true, laidKinds := [.data, .data, .data], laidTests := true, laidLooks := .later }
def FnUnsetRealUptoCardSaid : Prop := Claim7.holds Tryz.pinned (.plain (OpenSpec.upto fnUnsetRealSpec)) fnUnsetRealUptoCard
end Rows
end Go.Proofs.YteidfaaldcedpaaGreatDoor
