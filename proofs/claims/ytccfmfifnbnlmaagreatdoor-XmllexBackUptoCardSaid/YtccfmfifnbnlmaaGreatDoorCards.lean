/-
  DERIVED. GIVEN WITH THE SEED: THE CARDS: each row of YtccfmfifnbnlmaaGreatDoorRows.lean that lists a variable, with what it lists TIED to the program's text (the seventh form; the later family's looks); each row that meets fmt, with fmt's text TOLD by the authors' own Lean function (tested against real Go, not proved from fmt's source: count such statements apart). THE CARD IS WHAT COUNTS. Prove the row's statement (the work); the ties are given (YtccfmfifnbnlmaaGreatDoorTie.lean); close each card by the builder's one call (the guide's Derived/Test/ToyasCard.lean, 'card_holds'). Laid BY PROGRAM, IN A SANDBOX (cutbox-door.mjs). By AI agents, Wed Nov 11 2026. No macro, syntax, notation, axiom, sorry.
-/
import Derived.Test.YtccfmfifnbnlmaaGreatDoorRows
import GoSem.ClaimSeven
namespace Go.Proofs.YtccfmfifnbnlmaaGreatDoor
namespace Rows

/-- THE TIED CARD OF 'dossierlaw05.XmllexAll'. -/
def xmllexAllCard : Claim7 := { stood := { row := xmllexAllRow, standIns := [], harness := (true, "1b99ba8972e32cb20c68143c289c1399b3c7412f06f65ff17b6020a99eaf4259"), looks := true }, kinds := [], alts := [], laidByText := true, laidKinds := [.data, .sentinel, .pinned], laidTests := true, laidLooks := .later }
def XmllexAllCardSaid : Prop := Claim7.holds Tryz.pinned (.plain (OpenSpec.ofChange xmllexAllSpec)) xmllexAllCard

/-- THE TIED CARD OF 'dossierlaw05.XmllexNext'. -/
def xmllexNextCard : Claim7 := { stood := { row := xmllexNextRow, standIns := [], harness := (true, "1b99ba8972e32cb20c68143c289c1399b3c7412f06f65ff17b6020a99eaf4259"), looks := true }, kinds := [], alts := [], laidByText := true, laidKinds := [.data, .sentinel, .pinned], laidTests := true, laidLooks := .later }
def XmllexNextCardSaid : Prop := Claim7.holds Tryz.pinned (.plain (OpenSpec.ofChange xmllexNextSpec)) xmllexNextCard

/-- THE TIED CARD OF 'dossierlaw05.XmllexTexts'. -/
def xmllexTextsCard : Claim7 := { stood := { row := xmllexTextsRow, standIns := [], harness := (true, "1b99ba8972e32cb20c68143c289c1399b3c7412f06f65ff17b6020a99eaf4259"), looks := true }, kinds := [], alts := [], laidByText := true, laidKinds := [.data, .sentinel, .pinned], laidTests := true, laidLooks := .later }
def XmllexTextsCardSaid : Prop := Claim7.holds Tryz.pinned (.plain (OpenSpec.ofChange xmllexTextsSpec)) xmllexTextsCard

/-- THE TIED CARD OF 'dossierlaw05.XmllexBack'. -/
def xmllexBackCard : Claim7 := { stood := { row := xmllexBackRow, standIns := [], harness := (true, "1b99ba8972e32cb20c68143c289c1399b3c7412f06f65ff17b6020a99eaf4259"), looks := true }, kinds := [], alts := [], laidByText := true, laidKinds := [.data, .sentinel, .pinned], laidTests := true, laidLooks := .later }
def XmllexBackCardSaid : Prop := Claim7.holds Tryz.pinned (.plain (OpenSpec.ofChange xmllexBackSpec)) xmllexBackCard

/-- THE SECOND FORM's CARD OF 'dossierlaw05.XmllexAll'. -/
def xmllexAllUptoCard : Claim7 := { stood := { row := xmllexAllUptoRow, standIns := [], harness := (true, "1b99ba8972e32cb20c68143c289c1399b3c7412f06f65ff17b6020a99eaf4259"), looks := true }, kinds := [], alts := [], laidByText := true, laidKinds := [.data, .sentinel, .pinned], laidTests := true, laidLooks := .later }
def XmllexAllUptoCardSaid : Prop := Claim7.holds Tryz.pinned (.plain (OpenSpec.upto xmllexAllSpec)) xmllexAllUptoCard

/-- THE SECOND FORM's CARD OF 'dossierlaw05.XmllexNext'. -/
def xmllexNextUptoCard : Claim7 := { stood := { row := xmllexNextUptoRow, standIns := [], harness := (true, "1b99ba8972e32cb20c68143c289c1399b3c7412f06f65ff17b6020a99eaf4259"), looks := true }, kinds := [], alts := [], laidByText := true, laidKinds := [.data, .sentinel, .pinned], laidTests := true, laidLooks := .later }
def XmllexNextUptoCardSaid : Prop := Claim7.holds Tryz.pinned (.plain (OpenSpec.upto xmllexNextSpec)) xmllexNextUptoCard

/-- THE SECOND FORM's CARD OF 'dossierlaw05.XmllexTexts'. -/
def xmllexTextsUptoCard : Claim7 := { stood := { row := xmllexTextsUptoRow, standIns := [], harness := (true, "1b99ba8972e32cb20c68143c289c1399b3c7412f06f65ff17b6020a99eaf4259"), looks := true }, kinds := [], alts := [], laidByText := true, laidKinds := [.data, .sentinel, .pinned], laidTests := true, laidLooks := .later }
def XmllexTextsUptoCardSaid : Prop := Claim7.holds Tryz.pinned (.plain (OpenSpec.upto xmllexTextsSpec)) xmllexTextsUptoCard

/-- THE SECOND FORM's CARD OF 'dossierlaw05.XmllexBack'. -/
def xmllexBackUptoCard : Claim7 := { stood := { row := xmllexBackUptoRow, standIns := [], harness := (true, "1b99ba8972e32cb20c68143c289c1399b3c7412f06f65ff17b6020a99eaf4259"), looks := true }, kinds := [], alts := [], laidByText := true, laidKinds := [.data, .sentinel, .pinned], laidTests := true, laidLooks := .later }
def XmllexBackUptoCardSaid : Prop := Claim7.holds Tryz.pinned (.plain (OpenSpec.upto xmllexBackSpec)) xmllexBackUptoCard
end Rows
end Go.Proofs.YtccfmfifnbnlmaaGreatDoor
