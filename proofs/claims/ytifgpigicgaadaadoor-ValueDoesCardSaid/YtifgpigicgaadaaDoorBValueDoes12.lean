import Derived.Test.YtifgpigicgaadaaDoorBValueDoes10
import Derived.Test.YtifgpigicgaadaaDoorBValueDoes11
/- ValueDoes, in plain Lean. -/
set_option linter.unusedSimpArgs false
set_option linter.unusedVariables false
namespace Go.Proofs.YtifgpigicgaadaaDoor.Pure
open Go.RowKit Go.Proofs.YtifgpigicgaadaaDoor.Q Go.Proofs.YtifgpigicgaadaaDoor.Chars Go.Proofs.YtifgpigicgaadaaDoor.Values Go.Proofs.YtifgpigicgaadaaDoor.Does
theorem in_of {a : Int} (h : (Lit.int .i64 a).wf = true) : In64 a := by
  simp [Lit.wf, IntKind.min, IntKind.max, IntKind.signed, IntKind.bits] at h
  unfold In64; omega
theorem ValueDoes : ∀ (a0 a1_0 a1_1 : Int) (a1_2 : Bool) (a1_3 : ByteArray) (a2_0 a2_1 : Int) (a2_2 : Bool) (a2_3 : ByteArray) (a3 a4 : Int), (Lit.int .i64 a0).wf = true → (Lit.int .i64 a1_0).wf = true → (Lit.int .i64 a1_1).wf = true → a1_3.size ≤ maxLen → (Lit.int .i64 a2_0).wf = true → (Lit.int .i64 a2_1).wf = true → a2_3.size ≤ maxLen → (Lit.int .i64 a3).wf = true → (Lit.int .i64 a4).wf = true →
    ∃ k, dossierlaw07_ValueDoes.f k a0 a1_0 a1_1 a1_2 a1_3 a2_0 a2_1 a2_2 a2_3 a3 a4 = some true := by
  intro a0 a1_0 a1_1 a1_2 a1_3 a2_0 a2_1 a2_2 a2_3 a3 a4 _ _ h1 _ _ h2 _ _ _
  refine ⟨400, ?_⟩
  have g1 := in_of h1
  have g2 := in_of h2
  have e1 := Do_spec 0 a0 a1_0 a1_1 a1_2 a1_3 a2_0 a2_1 a2_2 a2_3 g1 g2
  have e2 := ref_Do_spec 0 a0 a1_0 a1_1 a1_2 a1_3 a2_0 a2_1 a2_2 a2_3 g1 g2
  rw [← Do_same _ _ _ _ _ _ _ _ _ g1 g2] at e2
  have e3 := Kind_spec 395 a0 a3 a4
  have e4 := ref_Kind_spec 395 a0 a3 a4
  have e5 := awake_spec 0
  simp only [Nat.zero_add, Nat.reduceAdd] at e1 e2 e3 e4 e5
  unfold dossierlaw07_ValueDoes.f
  rw [e1, e2, e3, e4, e5]
  simp
end Go.Proofs.YtifgpigicgaadaaDoor.Pure
