-- Made by this session's own program (p2) out of the translation. Lean checks it.
import Derived.Test.YtifgpigicgaadaaQ0
import Derived.Test.YtifgpigicgaadaaQ5
namespace Go.Proofs.Ytifgpigicgaadaa.Q
open Go.RowKit Go.Proofs.YtifgpigicgaadaaH Go.Proofs.YtifgpigicgaadaaW.PrintWords Go.Proofs.YtifgpigicgaadaaW.PrintLast Go.Proofs.YtifgpigicgaadaaW.PrintMore
attribute [local go_sem] max2_int min2_int max_two min_two max_three min_three max_four min_four   -- for this text's walks alone
set_option linter.unusedVariables false
set_option linter.unusedSimpArgs false

/-! ### states_Rank: function 12 -/
def states_Rank.f (k : Nat) (a0 : Int) : Option Int := (slices_Index_int_int.f k ([1, 2, 3, 6, 4, 5, 7, 8, 9] : List Int) a0).bind fun t104 => some (wrap64 (t104 + 1))
theorem states_Rank.mono : ∀ a0 k, LeO (states_Rank.f k a0) (states_Rank.f (k + 1) a0) := by
  intro a0 k
  unfold states_Rank.f
  exact LeO.bind (slices_Index_int_int.mono _ _ _) (fun _ => LeO.refl _)
set_option maxHeartbeats 8000000 in
set_option maxRecDepth 100000 in
theorem states_Rank.calls (k : Nat) (a0 : Int) (r : Int) (w : World) (h : states_Rank.f k a0 = some r) :
    Calls Try.prog 12 #[.int .i64 a0] w fun e w' => e = .returned (.int .i64 r) ∧ Below w.heap.size w w' := by
  obtain ⟨t104, A30, H⟩ := Option.bind_eq_some_iff.mp (show ((slices_Index_int_int.f k ([1, 2, 3, 6, 4, 5, 7, 8, 9] : List Int) a0).bind fun t104 => some (wrap64 (t104 + 1))) = some r from h)
  have A3 := Aside0.mk A30
  clear A30 h
  obtain rfl := Option.some.inj H
  go_enter Try.func12, Try.ntmps12
  go_wp2_with (go_at_call 25; (refine (slices_Index_int_int.calls k _ _ ([1, 2, 3, 6, 4, 5, 7, 8, 9] : List Int) a0 t104 _ ?side1 ?side2 A3.out).mono ?_); (case side1 => exact C_new_ints _ .i64 _ _ _ _ rfl (by decide) rfl); (case side2 => decide); rintro e w' ⟨rfl, ⟨nd, rfl⟩⟩)
  go_ret
  exact ⟨rfl, by repeat (first | exact Below.refl _ _ | apply pw_below_drewN | apply below_alloc)⟩


end Go.Proofs.Ytifgpigicgaadaa.Q
