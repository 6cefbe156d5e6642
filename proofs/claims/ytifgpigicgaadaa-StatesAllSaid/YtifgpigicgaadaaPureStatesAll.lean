/- For all kinds, states and events: the next state is the reference's, is one of the kind, and nothing but closing leaves a final one. No condition beyond the machine's integers. -/
import Derived.Test.YtifgpigicgaadaaSpecStatesAll
namespace Go.Proofs.Ytifgpigicgaadaa.Pure
open Go.RowKit Go.Proofs.Ytifgpigicgaadaa.PStatesAll Go.Proofs.YtifgpigicgaadaaW.PrintWords Go.Proofs.YtifgpigicgaadaaW.PrintLast Go.Proofs.Ytifgpigicgaadaa.SpecStatesAll

theorem awake_at (k : Nat) (hk : 300 ≤ k) : dossierlaw17_awake.f k = some true := by
  unfold dossierlaw17_awake.f; rw [next_spec k hk]; decide

theorem st_spec (k : Nat) (hk : 300 ≤ k) (a0 : Int) (a1 : Bool) (s : Int) : states_States.f k a0 a1 s = some (decide (s ∈ statesOf (cls a0 a1))) := by
  obtain ⟨k, rfl⟩ : ∃ m, k = m + 2 := ⟨k - 2, by omega⟩
  unfold states_States.f
  rw [classOf_spec, Option.bind_some, states_spec, Option.bind_some, contains_spec _ _ _ (statesOf_len _) (by omega)]; rfl

theorem cls_in (a0 : Int) (a1 : Bool) : cls a0 a1 = 0 ∨ cls a0 a1 = 1 ∨ cls a0 a1 = 2 ∨ cls a0 a1 = 3 := by
  unfold cls; repeat' split
  all_goals simp

/-- The next state is one of the kind; nothing but closing leaves a final one. -/
theorem stays (c s b e : Int) (hc : c = 0 ∨ c = 1 ∨ c = 2 ∨ c = 3) (h : (nxt c s b e).2 = true) :
    (nxt c s b e).1 ∈ statesOf c ∧ ((s = 7 ∨ s = 8 ∨ s = 9) → e = 18) := by
  unfold nxt at h ⊢
  by_cases hs : s ∈ statesOf c
  · rw [if_pos hs] at h ⊢
    simp only [bne_iff_ne, ne_eq] at h ⊢
    unfold nextTo at h ⊢
    rcases hc with rfl | rfl | rfl | rfl
    · simp [statesOf] at hs
    · simp only [statesOf, if_true, List.mem_cons, List.not_mem_nil, or_false] at hs
      rcases hs with rfl | rfl | rfl | rfl | rfl | rfl
      all_goals
        rcases ev_cases e with rfl | rfl | rfl | rfl | rfl | rfl | rfl | rfl | rfl | rfl | rfl | rfl | rfl | rfl | rfl | rfl | rfl | he
        all_goals revert h
        all_goals simp [*, arrow, arrowsOf, states_class_arrows.f, waitsOf, statesOf]
    · rw [st2] at hs ⊢
      simp only [List.mem_cons, List.not_mem_nil, or_false] at hs
      have hw : wrap64 (b - 10) ∈ waitsOf 2 → 1 ≤ wrap64 (b - 10) ∧ wrap64 (b - 10) ≤ 5 := by simp [waitsOf]; omega
      by_cases hw2 : wrap64 (b - 10) ∈ waitsOf 2
      · have hw3 := hw hw2
        rcases hs with rfl | rfl | rfl | rfl | rfl | rfl | rfl | rfl
        all_goals
          rcases ev_cases e with rfl | rfl | rfl | rfl | rfl | rfl | rfl | rfl | rfl | rfl | rfl | rfl | rfl | rfl | rfl | rfl | rfl | he
          all_goals revert h
          all_goals simp only [hw2]
          all_goals simp [*, arrow, arrowsOf, states_class_arrows.f, waitsOf]
          all_goals first | omega | (by_cases hb : b = 4 <;> simp [hb])
      · rcases hs with rfl | rfl | rfl | rfl | rfl | rfl | rfl | rfl
        all_goals
          rcases ev_cases e with rfl | rfl | rfl | rfl | rfl | rfl | rfl | rfl | rfl | rfl | rfl | rfl | rfl | rfl | rfl | rfl | rfl | he
          all_goals revert h
          all_goals simp only [hw2]
          all_goals simp [*, arrow, arrowsOf, states_class_arrows.f, waitsOf]
          all_goals (by_cases hb : b = 4 <;> simp [hb])
    · rw [st3] at hs ⊢
      simp only [List.mem_cons, List.not_mem_nil, or_false] at hs
      by_cases hw2 : wrap64 (b - 10) ∈ waitsOf 3
      · have hw3 : wrap64 (b - 10) = 1 := by simpa [waitsOf] using hw2
        rcases hs with rfl | rfl | rfl | rfl
        all_goals
          rcases ev_cases e with rfl | rfl | rfl | rfl | rfl | rfl | rfl | rfl | rfl | rfl | rfl | rfl | rfl | rfl | rfl | rfl | rfl | he
          all_goals revert h
          all_goals simp only [hw2]
          all_goals simp [*, arrow, arrowsOf, states_class_arrows.f, waitsOf]
          all_goals (by_cases hb : b = 1 <;> simp [hb])
      · rcases hs with rfl | rfl | rfl | rfl
        all_goals
          rcases ev_cases e with rfl | rfl | rfl | rfl | rfl | rfl | rfl | rfl | rfl | rfl | rfl | rfl | rfl | rfl | rfl | rfl | rfl | he
          all_goals revert h
          all_goals simp only [hw2]
          all_goals simp [*, arrow, arrowsOf, states_class_arrows.f, waitsOf]
          all_goals (by_cases hb : b = 1 <;> simp [hb])
  · rw [if_neg hs] at h; cases h

theorem wrap_s {i : Int} (h0 : 0 ≤ i) (h : i ≤ 1000) : wrap64 (i + 1) = i + 1 := by unfold wrap64; omega

variable (b : Int) (hb : (Lit.int .i64 b).wf = true)
include hb

theorem l3_step (k : Nat) (hk : 400 ≤ k) (kd st ev x12 x15 x18 : Int) (i : Int) (hi : i = 0 ∨ i = 1) :
    dossierlaw17_StatesAll.l3 (k + 1) b kd st ev x12 x15 x18 [false, true] 2 i = dossierlaw17_StatesAll.l3 k b kd st ev x12 x15 x18 [false, true] 2 (i + 1) := by
  have go : ∀ r, rdOf false [false, true] i = r → dossierlaw17_StatesAll.l3 (k + 1) b kd st ev x12 x15 x18 [false, true] 2 i = dossierlaw17_StatesAll.l3 k b kd st ev x12 x15 x18 [false, true] 2 (i + 1) := by
    intro r hr
    simp only [dossierlaw17_StatesAll.l3]
    rw [if_pos (by omega), if_pos (by omega), if_pos (by simp; omega), hr, next_spec k (by omega), Option.bind_some]
    obtain ⟨m, rfl⟩ : ∃ m, k = m + 300 := ⟨k - 300, by omega⟩
    rw [ref_next m kd r st b ev hb, Option.bind_some, if_pos rfl, if_neg (by simp)]
    by_cases h : (nxt (cls kd r) st b ev).2 = true
    · obtain ⟨h1, h2⟩ := stays _ _ _ _ (cls_in kd r) h
      rw [if_pos h, st_spec _ (by omega), Option.bind_some, if_pos (by simpa using h1), final_spec, Option.bind_some, wrap_s (by omega) (by omega)]
      by_cases hF : st = 7 ∨ st = 8 ∨ st = 9
      · rw [if_pos (by simpa using hF), if_pos (h2 hF)]
      · rw [if_neg (by simpa using hF)]
    · rw [if_neg h, wrap_s (by omega) (by omega)]
  exact go _ rfl

theorem l2_at (r : Bool) (d : Nat) : ∀ (kd st x12 x15 ev : Int), 0 ≤ ev → ev + d = 20 → (∃ k, 500 ≤ k ∧ dossierlaw17_StatesAll.l1 k b kd x12 (wrap64 (x15 + 1)) = some r) → ∃ k, 500 ≤ k ∧ dossierlaw17_StatesAll.l2 k b kd st x12 x15 ev = some r := by
  induction d with
  | zero =>
    rintro kd st x12 x15 ev h0 he ⟨k, hk, h⟩
    refine ⟨k + 1, by omega, ?_⟩
    simp only [dossierlaw17_StatesAll.l2]; rw [if_neg (by omega)]; exact h
  | succ d ih =>
    rintro kd st x12 x15 ev h0 he h
    obtain ⟨k, hk, h⟩ := ih kd st x12 x15 (ev + 1) (by omega) (by omega) h
    refine ⟨k + 4, by omega, ?_⟩
    simp only [dossierlaw17_StatesAll.l2]
    rw [if_pos (by omega)]
    simp only [Option.bind_some, List.length_cons, List.length_nil]
    rw [show (((0 + 1 + 1 : Nat)) : Int) = 2 from rfl, l3_step b hb _ (by omega) _ _ _ _ _ _ 0 (Or.inl rfl), l3_step b hb _ (by omega) _ _ _ _ _ _ (0 + 1) (Or.inr rfl)]
    simp only [dossierlaw17_StatesAll.l3]
    rw [if_neg (by decide), wrap_s (by omega) (by omega)]
    exact h

theorem l1_at (r : Bool) (d : Nat) : ∀ (kd x12 x15 : Int), 0 ≤ x15 → x15 + d = 11 → (∃ k, 500 ≤ k ∧ dossierlaw17_StatesAll.l0 k b (wrap64 (x12 + 1)) = some r) → ∃ k, 500 ≤ k ∧ dossierlaw17_StatesAll.l1 k b kd x12 x15 = some r := by
  induction d with
  | zero =>
    rintro kd x12 x15 h0 he ⟨k, hk, h⟩
    refine ⟨k + 1, by omega, ?_⟩
    simp only [dossierlaw17_StatesAll.l1]; rw [if_neg (by omega)]; exact h
  | succ d ih =>
    rintro kd x12 x15 h0 he h
    obtain ⟨k, hk, h⟩ := ih kd x12 (x15 + 1) (by omega) (by omega) h
    obtain ⟨k, hk, h⟩ := l2_at b hb r 20 kd x15 x12 x15 0 (by omega) (by omega) ⟨k, hk, by rw [wrap_s (by omega) (by omega)]; exact h⟩
    refine ⟨k + 1, by omega, ?_⟩
    simp only [dossierlaw17_StatesAll.l1]; rw [if_pos (by omega)]; exact h

theorem l0_at (d : Nat) : ∀ (x12 : Int), 0 ≤ x12 → x12 + d = 10 → ∃ k, 500 ≤ k ∧ dossierlaw17_StatesAll.l0 k b x12 = some true := by
  induction d with
  | zero =>
    rintro x12 h0 he
    refine ⟨501, by omega, ?_⟩
    simp only [dossierlaw17_StatesAll.l0]; rw [if_neg (by omega), awake_at _ (by decide)]; rfl
  | succ d ih =>
    rintro x12 h0 he
    obtain ⟨k, hk, h⟩ := ih (x12 + 1) (by omega) (by omega)
    obtain ⟨k, hk, h⟩ := l1_at b hb true 11 x12 x12 0 (by omega) (by omega) ⟨k, hk, by rw [wrap_s (by omega) (by omega)]; exact h⟩
    refine ⟨k + 1, by omega, ?_⟩
    simp only [dossierlaw17_StatesAll.l0]; rw [if_pos (by omega)]; exact h

omit hb in
theorem StatesAll : dossierlaw17_StatesAll.Pure := by
  intro b hb
  obtain ⟨k, _, h⟩ := l0_at b hb 10 0 (by omega) (by omega)
  exact ⟨k, h⟩

end Go.Proofs.Ytifgpigicgaadaa.Pure
