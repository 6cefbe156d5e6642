/-
  DERIVED. GIVEN WITH THE SEED: THE CARDS: each row of YtfeidigongckhaaGreatDoorRows.lean that lists a variable, with what it lists TIED to the program's text (the seventh form; the later family's looks); each row that meets fmt, with fmt's text TOLD by the authors' own Lean function (tested against real Go, not proved from fmt's source: count such statements apart). THE CARD IS WHAT COUNTS. Prove the row's statement (the work); the ties are given (YtfeidigongckhaaGreatDoorTie.lean); close each card by the builder's one call (the guide's Derived/Test/ToyasCard.lean, 'card_holds'). Laid BY PROGRAM, IN A SANDBOX (cutbox-door.mjs). By AI agents, Wed Nov 11 2026. No macro, syntax, notation, axiom, sorry.
-/
import Derived.Test.YtfeidigongckhaaGreatDoorRows
import GoSem.ClaimSeven
namespace Go.Proofs.YtfeidigongckhaaGreatDoor
namespace Rows

/-- THE TIED CARD OF 'dossierlaw13.ModelEvents'. -/
def modelEventsCard : Claim7 := { stood := { row := modelEventsRow, standIns := [], harness := (true, "577c0465e2a5644f8bfa30637eb4e65718016cc67dc52565743c80c130686fff"), looks := true }, kinds := [], alts := [], laidByText := true, laidKinds := [.data, .pinned], laidTests := true, laidLooks := .later }
def ModelEventsCardSaid : Prop := Claim7.holds Tryz.pinned (.plain (OpenSpec.ofChange modelEventsSpec)) modelEventsCard

/-- THE SECOND FORM's CARD OF 'dossierlaw13.ModelEvents'. -/
def modelEventsUptoCard : Claim7 := { stood := { row := modelEventsUptoRow, standIns := [], harness := (true, "577c0465e2a5644f8bfa30637eb4e65718016cc67dc52565743c80c130686fff"), looks := true }, kinds := [], alts := [], laidByText := true, laidKinds := [.data, .pinned], laidTests := true, laidLooks := .later }
def ModelEventsUptoCardSaid : Prop := Claim7.holds Tryz.pinned (.plain (OpenSpec.upto modelEventsSpec)) modelEventsUptoCard
end Rows
end Go.Proofs.YtfeidigongckhaaGreatDoor
