/-
  No cell of these rows narrows 'for every input' (looked for: loops, veiled, ifaces, maps, wideKeys, modest, calm, conditions, laid).
  DERIVED. THE GIVEN ROWS OF THIS SEAT. 4 by the template 'for every input the law returns true; each argument reads behind the call as it read before'; 0 by the template 'total and deterministic' (their statements: YtifgpigicgaadaaTotals.lean).
  GIVEN WITH THE SEED: the statements are not yours to turn. If you find one false, say at which input.
  Laid BY PROGRAM, IN A SANDBOX (cutbox-rows.mjs): the forced cells as the released guide's own fill.sh prints them over the translation b6a064092b7aae57… (all of the seat's roots in one cut). By AI agents, Wed Nov 11 2026. No macro, syntax, notation, axiom, sorry.
-/
import Derived.Test.YtifgpigicgaadaaChecked
import GoSem.Claim
import GoSem.ClaimJoined
import GoSem.ClaimMapViews
import Derived.JoinedTies
import Derived.KernelRfl
namespace Go.Proofs.Ytifgpigicgaadaa
/- THE CELL 'sum', in the pinned program and in every row, IS THE sha256 OF THE DUMP (.gsa) THAT YtifgpigicgaadaaProg.lean LOADS. Nothing in Lean hashes anything: it is a label: what it is worth is what the hold of that sum in a sandbox is worth. -/
noncomputable def Try.pinned : Pinned := { name := "ytifgpigicgaadaa", sum := "b6a064092b7aae57c48fa05d679d86e0600bdb8ac2821fb2c360df4a0bc32b5f", checked := Try.checked }
namespace Rows
def none {H : Type} : Left H := { results := [], args := [] }

/-- 'dossierlaw17.StatesNext': WHATEVER THE INPUT: true; the input reads as it did. -/
def statesNextSpec : ChangeSpec := { name := "statesNext", fn := fun _ => fun
  | [d1, d2, d3, d4, d5] => { results := [.lit (.bool true)], args := [d1, d2, d3, d4, d5] }
  | _ => none }
def statesNextRow : OpenClaim := { program := "ytifgpigicgaadaa", sum := "b6a064092b7aae57c48fa05d679d86e0600bdb8ac2821fb2c360df4a0bc32b5f", func := "dossier/dossierlaw17.StatesNext", spec := "statesNext", apart := false }
def StatesNextSaid : Prop := statesNextRow.holds Try.pinned (OpenSpec.ofChange statesNextSpec)

/-- ITS FALSE NEIGHBOUR: 'it returns false'. Refute it at one input. -/
def statesNextWrong : ChangeSpec := { name := "statesNext", fn := fun _ => fun
  | [d1, d2, d3, d4, d5] => { results := [.lit (.bool false)], args := [d1, d2, d3, d4, d5] }
  | _ => none }
def StatesNextWrongFalsely : Prop := statesNextRow.holds Try.pinned (OpenSpec.ofChange statesNextWrong)

/-- 'dossierlaw17.StatesGo': WHATEVER THE INPUT: true; the input reads as it did. -/
def statesGoSpec : ChangeSpec := { name := "statesGo", fn := fun _ => fun
  | [d1, d2] => { results := [.lit (.bool true)], args := [d1, d2] }
  | _ => none }
def statesGoRow : OpenClaim := { program := "ytifgpigicgaadaa", sum := "b6a064092b7aae57c48fa05d679d86e0600bdb8ac2821fb2c360df4a0bc32b5f", func := "dossier/dossierlaw17.StatesGo", spec := "statesGo", apart := false }
def StatesGoSaid : Prop := statesGoRow.holds Try.pinned (OpenSpec.ofChange statesGoSpec)

/-- ITS FALSE NEIGHBOUR: 'it returns false'. Refute it at one input. -/
def statesGoWrong : ChangeSpec := { name := "statesGo", fn := fun _ => fun
  | [d1, d2] => { results := [.lit (.bool false)], args := [d1, d2] }
  | _ => none }
def StatesGoWrongFalsely : Prop := statesGoRow.holds Try.pinned (OpenSpec.ofChange statesGoWrong)

/-- 'dossierlaw17.StatesAll': WHATEVER THE INPUT: true; the input reads as it did. -/
def statesAllSpec : ChangeSpec := { name := "statesAll", fn := fun _ => fun
  | [d] => { results := [.lit (.bool true)], args := [d] }
  | _ => none }
def statesAllRow : OpenClaim := { program := "ytifgpigicgaadaa", sum := "b6a064092b7aae57c48fa05d679d86e0600bdb8ac2821fb2c360df4a0bc32b5f", func := "dossier/dossierlaw17.StatesAll", spec := "statesAll", apart := false }
def StatesAllSaid : Prop := statesAllRow.holds Try.pinned (OpenSpec.ofChange statesAllSpec)

/-- ITS FALSE NEIGHBOUR: 'it returns false'. Refute it at one input. -/
def statesAllWrong : ChangeSpec := { name := "statesAll", fn := fun _ => fun
  | [d] => { results := [.lit (.bool false)], args := [d] }
  | _ => none }
def StatesAllWrongFalsely : Prop := statesAllRow.holds Try.pinned (OpenSpec.ofChange statesAllWrong)

/-- 'dossierlaw17.StatesRise': WHATEVER THE INPUT: true; the input reads as it did. -/
def statesRiseSpec : ChangeSpec := { name := "statesRise", fn := fun _ => fun
  | [d1, d2, d3, d4] => { results := [.lit (.bool true)], args := [d1, d2, d3, d4] }
  | _ => none }
def statesRiseRow : OpenClaim := { program := "ytifgpigicgaadaa", sum := "b6a064092b7aae57c48fa05d679d86e0600bdb8ac2821fb2c360df4a0bc32b5f", func := "dossier/dossierlaw17.StatesRise", spec := "statesRise", apart := false }
def StatesRiseSaid : Prop := statesRiseRow.holds Try.pinned (OpenSpec.ofChange statesRiseSpec)

/-- ITS FALSE NEIGHBOUR: 'it returns false'. Refute it at one input. -/
def statesRiseWrong : ChangeSpec := { name := "statesRise", fn := fun _ => fun
  | [d1, d2, d3, d4] => { results := [.lit (.bool false)], args := [d1, d2, d3, d4] }
  | _ => none }
def StatesRiseWrongFalsely : Prop := statesRiseRow.holds Try.pinned (OpenSpec.ofChange statesRiseWrong)

/- THE SECOND FORM. 'bulk': how many values and letters a reading holds, each counted each time it is reached (what is shared counts as often as it is met; a slice's spare places count too). A statement '..UptoSaid' is the law's where the arguments, and the package variables that the reading takes, are together of bulk at most 1048576: NARROWER than '..Said'. Prove '..Said' where nothing that the law and all that it calls make is longer than what came in: it says more and counts as full. Else prove '..UptoSaid'. A law counts once. -/
mutual
def uptoBulk {H : Type} : DataW H → Nat
  | .lit (.string bytes) => bytes.length + 1
  | .lit _ => 1
  | .nil => 1
  | .ptr d => uptoBulk d + 1
  | .slice elems spare => uptoBulkAll elems + uptoBulkAll spare + 1
  | .agg parts => uptoBulkAll parts + 1
  | .iface _ d => uptoBulk d + 1
  | .map entries => uptoBulkEntries entries + 1
  | .held _ => 1
def uptoBulkAll {H : Type} : List (DataW H) → Nat
  | [] => 0
  | d :: r => uptoBulk d + uptoBulkAll r
def uptoBulkEntries {H : Type} : List (Lit × DataW H) → Nat
  | [] => 0
  | x :: r => uptoBulkEntry x + uptoBulkEntries r
def uptoBulkEntry {H : Type} : Lit × DataW H → Nat
  | (.string bytes, d) => bytes.length + uptoBulk d + 1
  | (_, d) => uptoBulk d + 1
 end
def uptoSmall : (H : Type) → List (DataW H) → Bool := fun _ ds => decide (uptoBulkAll ds ≤ 1048576)
def OpenSpec.upto (s : _root_.Go.ChangeSpec) : _root_.Go.OpenSpec := { _root_.Go.OpenSpec.ofChange s with cond := some uptoSmall }

/-- 'dossierlaw17.StatesNext', WHERE WHAT IT READS IS OF BULK AT MOST 1048576: true; the input reads as it did. -/
def statesNextUptoRow : OpenClaim := { program := "ytifgpigicgaadaa", sum := "b6a064092b7aae57c48fa05d679d86e0600bdb8ac2821fb2c360df4a0bc32b5f", func := "dossier/dossierlaw17.StatesNext", spec := "statesNext", apart := false, narrowed := true }
def StatesNextUptoSaid : Prop := statesNextUptoRow.holds Try.pinned (OpenSpec.upto statesNextSpec)

/-- 'dossierlaw17.StatesGo', WHERE WHAT IT READS IS OF BULK AT MOST 1048576: true; the input reads as it did. -/
def statesGoUptoRow : OpenClaim := { program := "ytifgpigicgaadaa", sum := "b6a064092b7aae57c48fa05d679d86e0600bdb8ac2821fb2c360df4a0bc32b5f", func := "dossier/dossierlaw17.StatesGo", spec := "statesGo", apart := false, narrowed := true }
def StatesGoUptoSaid : Prop := statesGoUptoRow.holds Try.pinned (OpenSpec.upto statesGoSpec)

/-- 'dossierlaw17.StatesAll', WHERE WHAT IT READS IS OF BULK AT MOST 1048576: true; the input reads as it did. -/
def statesAllUptoRow : OpenClaim := { program := "ytifgpigicgaadaa", sum := "b6a064092b7aae57c48fa05d679d86e0600bdb8ac2821fb2c360df4a0bc32b5f", func := "dossier/dossierlaw17.StatesAll", spec := "statesAll", apart := false, narrowed := true }
def StatesAllUptoSaid : Prop := statesAllUptoRow.holds Try.pinned (OpenSpec.upto statesAllSpec)

/-- 'dossierlaw17.StatesRise', WHERE WHAT IT READS IS OF BULK AT MOST 1048576: true; the input reads as it did. -/
def statesRiseUptoRow : OpenClaim := { program := "ytifgpigicgaadaa", sum := "b6a064092b7aae57c48fa05d679d86e0600bdb8ac2821fb2c360df4a0bc32b5f", func := "dossier/dossierlaw17.StatesRise", spec := "statesRise", apart := false, narrowed := true }
def StatesRiseUptoSaid : Prop := statesRiseUptoRow.holds Try.pinned (OpenSpec.upto statesRiseSpec)

end Rows
end Go.Proofs.Ytifgpigicgaadaa
