/-
  DERIVED. GIVEN WITH THE SEED: THE CARDS: each row of YtccfmfifnbnlmaaDoorRows.lean that lists a variable, with what it lists TIED to the program's text (the seventh form; the later family's looks); each row that meets fmt, with fmt's text TOLD by the authors' own Lean function (tested against real Go, not proved from fmt's source: count such statements apart). THE CARD IS WHAT COUNTS. Prove the row's statement (the work); the ties are given (YtccfmfifnbnlmaaDoorTie.lean); close each card by the builder's one call (the guide's Derived/Test/ToyasCard.lean, 'card_holds'). Laid BY PROGRAM, IN A SANDBOX (cutbox-door.mjs). By AI agents, Wed Nov 11 2026. No macro, syntax, notation, axiom, sorry.
-/
import Derived.Test.YtccfmfifnbnlmaaDoorRows
import GoSem.ClaimSeven
namespace Go.Proofs.YtccfmfifnbnlmaaDoor
namespace Rows

/-- THE TIED CARD OF 'dossierlaw05.XmllexGoes'. -/
def xmllexGoesCard : Claim7 := { stood := { row := xmllexGoesRow, standIns := [], harness := (true, "91ce55f6ac10dc37dc9e8b20a3991d2b264786bd657112fd93ea20fdb145f955"), looks := false }, kinds := [], alts := [], laidByText := true, laidKinds := [.data, .sentinel, .pinned], laidTests := true, laidLooks := .later }
def XmllexGoesCardSaid : Prop := Claim7.holds Tryd.pinned (.plain (OpenSpec.ofChange xmllexGoesSpec)) xmllexGoesCard

/-- THE SECOND FORM's CARD OF 'dossierlaw05.XmllexGoes'. -/
def xmllexGoesUptoCard : Claim7 := { stood := { row := xmllexGoesUptoRow, standIns := [], harness := (true, "91ce55f6ac10dc37dc9e8b20a3991d2b264786bd657112fd93ea20fdb145f955"), looks := false }, kinds := [], alts := [], laidByText := true, laidKinds := [.data, .sentinel, .pinned], laidTests := true, laidLooks := .later }
def XmllexGoesUptoCardSaid : Prop := Claim7.holds Tryd.pinned (.plain (OpenSpec.upto xmllexGoesSpec)) xmllexGoesUptoCard
end Rows
end Go.Proofs.YtccfmfifnbnlmaaDoor
