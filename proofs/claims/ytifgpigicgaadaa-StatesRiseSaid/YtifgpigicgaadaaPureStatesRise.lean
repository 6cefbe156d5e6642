/- For every kind and state: a transition that happens by itself raises the rank. No condition beyond the machine's integers. -/
import Derived.Test.YtifgpigicgaadaaSpecStatesRise
namespace Go.Proofs.Ytifgpigicgaadaa.Pure
open Go.RowKit Go.Proofs.Ytifgpigicgaadaa.Q Go.Proofs.YtifgpigicgaadaaW.PrintWords Go.Proofs.YtifgpigicgaadaaW.PrintLast Go.Proofs.Ytifgpigicgaadaa.SpecStatesRise

theorem awake_rise (k : Nat) (hk : 300 ≤ k) : dossierlaw17_awake.f k = some true := by
  unfold dossierlaw17_awake.f; rw [next_spec k hk]; decide

theorem ranks (k : Nat) : states_Rank.f (k + 20) 1 = some 1 ∧ states_Rank.f (k + 20) 2 = some 2 ∧ states_Rank.f (k + 20) 3 = some 3 ∧ states_Rank.f (k + 20) 6 = some 4 ∧ states_Rank.f (k + 20) 4 = some 5
    ∧ states_Rank.f (k + 20) 5 = some 6 ∧ states_Rank.f (k + 20) 7 = some 7 ∧ states_Rank.f (k + 20) 8 = some 8 ∧ states_Rank.f (k + 20) 9 = some 9 := by
  refine ⟨?_, ?_, ?_, ?_, ?_, ?_, ?_, ?_, ?_⟩ <;> simp [states_Rank.f, slices_Index_int_int.f, slices_Index_int_int.l0, rd, wrap64]

/-- The ranks, in order. -/
def rk (s : Int) : Int := if s = 6 then 4 else if s = 4 then 5 else if s = 5 then 6 else s
theorem rank_spec (k : Nat) (hk : 20 ≤ k) (s : Int) (h0 : 1 ≤ s) (h9 : s ≤ 9) : states_Rank.f k s = some (rk s) := by
  obtain ⟨k, rfl⟩ : ∃ m, k = m + 20 := ⟨k - 20, by omega⟩
  obtain ⟨h1, h2, h3, h4, h5, h6, h7, h8, h9'⟩ := ranks k
  obtain rfl | rfl | rfl | rfl | rfl | rfl | rfl | rfl | rfl : s = 1 ∨ s = 2 ∨ s = 3 ∨ s = 4 ∨ s = 5 ∨ s = 6 ∨ s = 7 ∨ s = 8 ∨ s = 9 := by omega
  all_goals simp [*, rk]

theorem cls_in' (a0 : Int) (a1 : Bool) : cls a0 a1 = 0 ∨ cls a0 a1 = 1 ∨ cls a0 a1 = 2 ∨ cls a0 a1 = 3 := by
  unfold cls; repeat' split
  all_goals simp

theorem rises (c s b e : Int) (hc : c = 0 ∨ c = 1 ∨ c = 2 ∨ c = 3) (he : e ∈ ([2, 5, 7, 17, 13, 14] : List Int)) (h : (nxt c s b e).2 = true) :
    (1 ≤ s ∧ s ≤ 9) ∧ (1 ≤ (nxt c s b e).1 ∧ (nxt c s b e).1 ≤ 9) ∧ rk s < rk (nxt c s b e).1 := by
  unfold nxt at h ⊢
  by_cases hs : s ∈ statesOf c
  · rw [if_pos hs] at h ⊢
    simp only [bne_iff_ne, ne_eq] at h ⊢
    unfold nextTo at h ⊢
    simp only [List.mem_cons, List.not_mem_nil, or_false] at he
    rcases hc with rfl | rfl | rfl | rfl
    · simp [statesOf] at hs
    all_goals
      simp [statesOf] at hs
      rcases hs with rfl | rfl | rfl | rfl | rfl | rfl | rfl | rfl
      all_goals
        rcases he with rfl | rfl | rfl | rfl | rfl | rfl
        all_goals revert h
        all_goals simp [arrow, arrowsOf, states_class_arrows.f, rk]
  · rw [if_neg hs] at h; cases h

theorem wrap_r {i : Int} (h0 : 0 ≤ i) (h : i ≤ 1000) : wrap64 (i + 1) = i + 1 := by unfold wrap64; omega

theorem rise_step (k : Nat) (hk : 400 ≤ k) (a0 : Int) (a1 : Bool) (s b i : Int) (hi : 0 ≤ i) (hi6 : i < 6) :
    dossierlaw17_StatesRise.l0 (k + 1) a0 a1 s b [2, 5, 7, 17, 13, 14] 6 i = dossierlaw17_StatesRise.l0 k a0 a1 s b [2, 5, 7, 17, 13, 14] 6 (i + 1) := by
  have hm : rd [2, 5, 7, 17, 13, 14] i ∈ ([2, 5, 7, 17, 13, 14] : List Int) := by
    unfold rd
    have hlt : i.toNat < ([2, 5, 7, 17, 13, 14] : List Int).length := by simp; omega
    rw [List.getD_eq_getElem?_getD, List.getElem?_eq_getElem hlt]
    exact List.getElem_mem hlt
  simp only [dossierlaw17_StatesRise.l0]
  rw [if_pos (by omega), if_pos hi, if_pos (by simp; omega), next_spec k (by omega), Option.bind_some, wrap_r hi (by omega)]
  by_cases h : (nxt (cls a0 a1) s b (rd [2, 5, 7, 17, 13, 14] i)).2 = true
  · obtain ⟨h1, h2, h3⟩ := rises _ _ _ _ (cls_in' a0 a1) hm h
    rw [if_pos h, rank_spec k (by omega) _ h2.1 h2.2, Option.bind_some, rank_spec k (by omega) _ h1.1 h1.2, Option.bind_some, if_neg (by omega)]
  · rw [if_neg h]

theorem rise_end (k : Nat) (hk : 400 ≤ k) (a0 : Int) (a1 : Bool) (s b : Int) :
    dossierlaw17_StatesRise.l0 (k + 1) a0 a1 s b [2, 5, 7, 17, 13, 14] 6 (0 + 1 + 1 + 1 + 1 + 1 + 1) = some true := by
  simp only [dossierlaw17_StatesRise.l0]
  rw [if_neg (by decide), awake_rise _ (by omega)]; rfl

theorem StatesRise : dossierlaw17_StatesRise.Pure := by
  intro a0 a1 s b _ _ _
  refine ⟨1000, ?_⟩
  unfold dossierlaw17_StatesRise.f
  simp only [Option.bind_some, List.length_cons, List.length_nil]
  rw [show (((0 + 1 + 1 + 1 + 1 + 1 + 1 : Nat)) : Int) = 6 from rfl, rise_step 999 (by decide) _ _ _ _ 0 (by decide) (by decide), rise_step 998 (by decide) _ _ _ _ _ (by decide) (by decide), rise_step 997 (by decide) _ _ _ _ _ (by decide) (by decide),
    rise_step 996 (by decide) _ _ _ _ _ (by decide) (by decide), rise_step 995 (by decide) _ _ _ _ _ (by decide) (by decide), rise_step 994 (by decide) _ _ _ _ _ (by decide) (by decide)]
  exact rise_end 993 (by decide) _ _ _ _

end Go.Proofs.Ytifgpigicgaadaa.Pure
