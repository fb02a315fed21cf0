/-
  DERIVED. GIVEN WITH THE SEED: THE CARDS: each row of YtidhdalhpjapaaaGreatDoorRows.lean that lists a variable, with what it lists TIED to the program's text (the seventh form; the later family's looks); each row that meets fmt, with fmt's text TOLD by the authors' own Lean function (tested against real Go, not proved from fmt's source: count such statements apart). THE CARD IS WHAT COUNTS. Prove the row's statement (the work); the ties are given (YtidhdalhpjapaaaGreatDoorTie.lean); close each card by the builder's one call (the guide's Derived/Test/ToyasCard.lean, 'card_holds'). Laid BY PROGRAM, IN A SANDBOX (cutbox-door.mjs). By AI agents, Wed Nov 11 2026. No macro, syntax, notation, axiom, sorry.
-/
import Derived.Test.YtidhdalhpjapaaaGreatDoorRows
import GoSem.ClaimSeven
namespace Go.Proofs.YtidhdalhpjapaaaGreatDoor
namespace Rows

/-- THE TIED CARD OF 'drayagelaw29.CoreDoes'. -/
def coreDoesCard : Claim7 := { stood := { row := coreDoesRow, standIns := [], harness := (true, "189fe6a4d302d22634cf267943f334a44b7610eb81590f7911c19e274ac573d6"), looks := false }, kinds := [], alts := [], laidByText := true, laidKinds := [.data], laidTests := true, laidLooks := .later }
def CoreDoesCardSaid : Prop := Claim7.holds Tryz.pinned (.plain (OpenSpec.ofChange coreDoesSpec)) coreDoesCard

/-- THE SECOND FORM's CARD OF 'drayagelaw29.CoreDoes'. -/
def coreDoesUptoCard : Claim7 := { stood := { row := coreDoesUptoRow, standIns := [], harness := (true, "189fe6a4d302d22634cf267943f334a44b7610eb81590f7911c19e274ac573d6"), looks := false }, kinds := [], alts := [], laidByText := true, laidKinds := [.data], laidTests := true, laidLooks := .later }
def CoreDoesUptoCardSaid : Prop := Claim7.holds Tryz.pinned (.plain (OpenSpec.upto coreDoesSpec)) coreDoesUptoCard
end Rows
end Go.Proofs.YtidhdalhpjapaaaGreatDoor
