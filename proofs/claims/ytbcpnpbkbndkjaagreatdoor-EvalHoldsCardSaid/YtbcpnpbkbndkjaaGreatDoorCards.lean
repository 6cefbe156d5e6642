/-
  DERIVED. GIVEN WITH THE SEED: THE CARDS: each row of YtbcpnpbkbndkjaaGreatDoorRows.lean that lists a variable, with what it lists TIED to the program's text (the seventh form; the later family's looks); each row that meets fmt, with fmt's text TOLD by the authors' own Lean function (tested against real Go, not proved from fmt's source: count such statements apart). THE CARD IS WHAT COUNTS. Prove the row's statement (the work); the ties are given (YtbcpnpbkbndkjaaGreatDoorTie.lean); close each card by the builder's one call (the guide's Derived/Test/ToyasCard.lean, 'card_holds'). Laid BY PROGRAM, IN A SANDBOX (cutbox-door.mjs). By AI agents, Wed Nov 11 2026. No macro, syntax, notation, axiom, sorry.
-/
import Derived.Test.YtbcpnpbkbndkjaaGreatDoorRows
import GoSem.ClaimSeven
namespace Go.Proofs.YtbcpnpbkbndkjaaGreatDoor
namespace Rows

/-- THE TIED CARD OF 'dossierlaw10.CheckTruths'. -/
def checkTruthsCard : Claim7 := { stood := { row := checkTruthsRow, standIns := [], harness := (true, "5bee3cae8544cd926393267474c80cf780eb8b42e00b647c256d7fbefeb9d95b"), looks := true }, kinds := [], alts := [], laidByText := true, laidKinds := [.data, .pinned], laidTests := true, laidLooks := .later }
def CheckTruthsCardSaid : Prop := Claim7.holds Tryz.pinned (.plain (OpenSpec.ofChange checkTruthsSpec)) checkTruthsCard

/-- THE TIED CARD OF 'dossierlaw11.EvalHolds'. -/
def evalHoldsCard : Claim7 := { stood := { row := evalHoldsRow, standIns := [], harness := (true, "5bee3cae8544cd926393267474c80cf780eb8b42e00b647c256d7fbefeb9d95b"), looks := true }, kinds := [], alts := [], laidByText := true, laidKinds := [.data, .pinned], laidTests := true, laidLooks := .later }
def EvalHoldsCardSaid : Prop := Claim7.holds Tryz.pinned (.plain (OpenSpec.ofChange evalHoldsSpec)) evalHoldsCard

/-- THE SECOND FORM's CARD OF 'dossierlaw10.CheckTruths'. -/
def checkTruthsUptoCard : Claim7 := { stood := { row := checkTruthsUptoRow, standIns := [], harness := (true, "5bee3cae8544cd926393267474c80cf780eb8b42e00b647c256d7fbefeb9d95b"), looks := true }, kinds := [], alts := [], laidByText := true, laidKinds := [.data, .pinned], laidTests := true, laidLooks := .later }
def CheckTruthsUptoCardSaid : Prop := Claim7.holds Tryz.pinned (.plain (OpenSpec.upto checkTruthsSpec)) checkTruthsUptoCard

/-- THE SECOND FORM's CARD OF 'dossierlaw11.EvalHolds'. -/
def evalHoldsUptoCard : Claim7 := { stood := { row := evalHoldsUptoRow, standIns := [], harness := (true, "5bee3cae8544cd926393267474c80cf780eb8b42e00b647c256d7fbefeb9d95b"), looks := true }, kinds := [], alts := [], laidByText := true, laidKinds := [.data, .pinned], laidTests := true, laidLooks := .later }
def EvalHoldsUptoCardSaid : Prop := Claim7.holds Tryz.pinned (.plain (OpenSpec.upto evalHoldsSpec)) evalHoldsUptoCard
end Rows
end Go.Proofs.YtbcpnpbkbndkjaaGreatDoor
