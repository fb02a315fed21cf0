/-
  DERIVED. GIVEN WITH THE SEED: THE CARDS: each row of YtidolomakdofhaaGreatDoorRows.lean that lists a variable, with what it lists TIED to the program's text (the seventh form; the later family's looks); each row that meets fmt, with fmt's text TOLD by the authors' own Lean function (tested against real Go, not proved from fmt's source: count such statements apart). THE CARD IS WHAT COUNTS. Prove the row's statement (the work); the ties are given (YtidolomakdofhaaGreatDoorTie.lean); close each card by the builder's one call (the guide's Derived/Test/ToyasCard.lean, 'card_holds'). Laid BY PROGRAM, IN A SANDBOX (cutbox-door.mjs). By AI agents, Wed Nov 11 2026. No macro, syntax, notation, axiom, sorry.
-/
import Derived.Test.YtidolomakdofhaaGreatDoorRows
import GoSem.ClaimSeven
namespace Go.Proofs.YtidolomakdofhaaGreatDoor
namespace Rows

/-- THE TIED CARD OF 'drayagelaw36.ChainDoes'. -/
def chainDoesCard : Claim7 := { stood := { row := chainDoesRow, standIns := [], harness := (true, "393e3b6f6ad13c6bcada7afcc0eb341684f2bacf7eb54031965c8847ddf30f3f"), looks := false }, kinds := [], alts := [], laidByText := true, laidKinds := [.data], laidTests := true, laidLooks := .later }
def ChainDoesCardSaid : Prop := Claim7.holds Tryz.pinned (.plain (OpenSpec.ofChange chainDoesSpec)) chainDoesCard

/-- THE SECOND FORM's CARD OF 'drayagelaw36.ChainDoes'. -/
def chainDoesUptoCard : Claim7 := { stood := { row := chainDoesUptoRow, standIns := [], harness := (true, "393e3b6f6ad13c6bcada7afcc0eb341684f2bacf7eb54031965c8847ddf30f3f"), looks := false }, kinds := [], alts := [], laidByText := true, laidKinds := [.data], laidTests := true, laidLooks := .later }
def ChainDoesUptoCardSaid : Prop := Claim7.holds Tryz.pinned (.plain (OpenSpec.upto chainDoesSpec)) chainDoesUptoCard
end Rows
end Go.Proofs.YtidolomakdofhaaGreatDoor
