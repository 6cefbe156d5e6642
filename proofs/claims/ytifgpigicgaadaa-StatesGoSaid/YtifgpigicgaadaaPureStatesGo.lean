/- For every kind and state: what its parent suspends, and has go on, is in the same state as before. No condition beyond the machine's integers. -/
import Derived.Test.YtifgpigicgaadaaSpecStatesGo
namespace Go.Proofs.Ytifgpigicgaadaa.Pure
open Go.RowKit Go.Proofs.Ytifgpigicgaadaa.PStatesGo Go.Proofs.YtifgpigicgaadaaW.PrintWords Go.Proofs.YtifgpigicgaadaaW.PrintLast Go.Proofs.Ytifgpigicgaadaa.SpecStatesGo

theorem awake_at : dossierlaw17_awake.f 300 = some true := by
  unfold dossierlaw17_awake.f; rw [next_spec 300 (by decide)]; decide

theorem waits_bound (c s : Int) (h : s ∈ waitsOf c) : 1 ≤ s ∧ s ≤ 5 := by
  unfold waitsOf at h; split at h
  · simp at h; omega
  · split at h
    · simp at h; omega
    · simp at h

theorem wrap_back (s : Int) (h : 1 ≤ s ∧ s ≤ 5) : wrap64 (wrap64 (s + 10) - 10) = s := by unfold wrap64; omega

theorem six (c s : Int) (h : s ∈ waitsOf c) : 6 ∈ statesOf c ∧ c ≠ 1 := by
  unfold waitsOf at h; split at h
  · subst c; exact ⟨by decide, by decide⟩
  · split at h
    · subst c; exact ⟨by decide, by decide⟩
    · simp at h

theorem StatesGo : dossierlaw17_StatesGo.Pure := by
  intro a0 a1 _ _
  refine ⟨300, ?_⟩
  unfold dossierlaw17_StatesGo.f
  simp only [next_spec 300 (by decide), Option.bind_some, awake_at]
  generalize cls a0 false = c
  have key : (nxt c a1 0 15).2 = true → (nxt c a1 0 15).1 = 6 ∧ (nxt c 6 (wrap64 (a1 + 10)) 16) = (a1, true) := by
    intro h
    have hw : a1 ∈ waitsOf c := by
      unfold nxt nextTo at h
      by_cases hw : a1 ∈ waitsOf c
      · exact hw
      · exfalso; revert h
        by_cases hs : a1 ∈ statesOf c
        · simp only [hs, if_true]
          by_cases h1 : c = 1
          · simp [h1]
          · simp only [h1, false_and, if_false, show ¬ ((15 : Int) = 14) from by decide, hw, and_false, show ¬ ((15 : Int) = 16) from by decide, show ¬ ((15 : Int) = 11) from by decide]
            unfold arrow arrowsOf states_class_arrows.f
            by_cases h2 : c = 2
            · simp [h2]
            · by_cases h3 : c = 3
              · simp [h3]
              · simp [h1, h2, h3]
        · simp [hs]
    have hb := waits_bound c a1 hw
    have h6 := six c a1 hw
    have hback := wrap_back a1 hb
    constructor
    · unfold nxt nextTo at h ⊢
      split at h
      · next hs => rw [if_pos hs]; simp [h6.2, hw]
      · cases h
    · unfold nxt nextTo
      rw [if_pos h6.1, if_neg (fun x => h6.2 x.1), if_neg (by decide), if_neg (fun x => absurd x.1 (by decide)), hback, if_pos ⟨rfl, rfl, hw⟩]
      simp; omega
  by_cases h : (nxt c a1 0 15).2 = true
  · obtain ⟨e1, e2⟩ := key h
    rw [if_pos h, e1, e2, if_pos rfl, if_pos rfl, if_pos rfl]
  · rw [if_neg h]

end Go.Proofs.Ytifgpigicgaadaa.Pure
