/- For every kind, state and event the program's next state is that of the reference. No condition beyond the machine's integers. -/
import Derived.Test.YtifgpigicgaadaaSpecStatesNext
namespace Go.Proofs.Ytifgpigicgaadaa.Pure
open Go.RowKit Go.Proofs.Ytifgpigicgaadaa.PStatesNext Go.Proofs.YtifgpigicgaadaaW.PrintWords Go.Proofs.YtifgpigicgaadaaW.PrintLast

theorem StatesNext : dossierlaw17_StatesNext.Pure := by
  intro a0 a1 a2 a3 a4 _ _ h3 _
  refine ⟨300, ?_⟩
  unfold dossierlaw17_StatesNext.f dossierlaw17_awake.f
  rw [SpecStatesNext.next_spec 300 (by decide), Option.bind_some, show (300 : Nat) = 0 + 300 from rfl, SpecStatesNext.ref_next 0 a0 a1 a2 a3 a4 h3, Option.bind_some, if_pos rfl, if_pos (by simp),
    SpecStatesNext.next_spec _ (by decide)]
  decide

end Go.Proofs.Ytifgpigicgaadaa.Pure
