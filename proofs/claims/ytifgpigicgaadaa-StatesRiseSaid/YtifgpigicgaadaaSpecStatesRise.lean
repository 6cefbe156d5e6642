/- What the printed functions of the states layer compute, in closed form. -/
import Derived.Test.YtifgpigicgaadaaQ28
namespace Go.Proofs.Ytifgpigicgaadaa.SpecStatesRise
open Go.RowKit Go.Proofs.Ytifgpigicgaadaa.Q Go.Proofs.YtifgpigicgaadaaW.PrintWords Go.Proofs.YtifgpigicgaadaaW.PrintLast

theorem wrap_succ {i : Int} (h0 : 0 ≤ i) (h : i ≤ 1000) : wrap64 (i + 1) = i + 1 := by unfold wrap64; omega

theorem drop_rd (l : List Int) (i : Nat) (h : i < l.length) : l.drop i = rd l i :: l.drop (i + 1) := by
  rw [List.drop_eq_getElem_cons h]; simp [rd, List.getD, h]

theorem idx_spec (x : Int) (l : List Int) (hl : l.length ≤ 100) : ∀ (d i k : Nat), i + d = l.length → d < k →
    ∃ r, slices_Index_int_int.l0 k l x (l.length : Int) (i : Int) = some r ∧ (decide (r ≥ 0)) = decide (x ∈ l.drop i) := by
  intro d
  induction d with
  | zero =>
    intro i k hi hk
    obtain ⟨k, rfl⟩ : ∃ m, k = m + 1 := ⟨k - 1, by omega⟩
    refine ⟨-1, ?_, ?_⟩
    · simp only [slices_Index_int_int.l0]; rw [if_neg (by omega)]
    · rw [List.drop_of_length_le (by omega)]; simp
  | succ d ih =>
    intro i k hi hk
    obtain ⟨k, rfl⟩ : ∃ m, k = m + 1 := ⟨k - 1, by omega⟩
    rw [drop_rd l i (by omega)]
    simp only [slices_Index_int_int.l0]; rw [if_pos (by omega), if_pos (by omega), if_pos (by omega)]
    by_cases e : x = rd l (i : Int)
    · rw [if_pos e]; exact ⟨_, rfl, by simp [← e]⟩
    · rw [if_neg e, wrap_succ (by omega) (by omega)]
      obtain ⟨r, hr, h⟩ := ih (i + 1) k (by omega) (by omega)
      refine ⟨r, by exact_mod_cast hr, ?_⟩
      rw [h]; simp [e]

theorem contains_spec (k : Nat) (l : List Int) (x : Int) (hl : l.length ≤ 100) (hk : 101 ≤ k) : slices_Contains_int_int.f k l x = some (decide (x ∈ l)) := by
  obtain ⟨r, hr, h⟩ := idx_spec x l hl l.length 0 k (by omega) (by omega)
  unfold slices_Contains_int_int.f slices_Index_int_int.f
  rw [show slices_Index_int_int.l0 k l x (l.length : Int) 0 = some r from hr]; simp only [Option.bind_some]; rw [h]; simp

/-- The class of a kind. -/
def cls (a0 : Int) (a1 : Bool) : Int := if a1 = true ∧ a0 = 0 then 1 else if a1 = true ∨ a0 < 0 ∨ a0 > 7 then 0 else if a0 ≤ 4 then 2 else 3

theorem task_spec (a : Int) : model_Task.f a = some (decide (1 ≤ a ∧ a ≤ 4)) := by
  unfold model_Task.f; repeat' split
  all_goals first | (subst_vars; rfl) | (congr 1; symm; simp; omega)

theorem works_spec (a : Int) : model_Works.f a = some (decide (0 ≤ a ∧ a ≤ 4)) := by
  unfold model_Works.f; rw [task_spec]; simp only [Option.bind_some]; split
  · subst_vars; rfl
  · congr 1; simp only [decide_eq_decide]; omega

theorem classOf_spec (k : Nat) (a0 : Int) (a1 : Bool) : states_classOf.f (k + 2) a0 a1 = some (cls a0 a1) := by
  unfold states_classOf.f cls; simp only [states_classOf.j0, states_classOf.j1, works_spec, Option.bind_some]
  cases a1 <;> simp <;> repeat' split
  all_goals first | rfl | omega | (exfalso; omega) | simp_all | skip
  all_goals omega

theorem S40_fold (x2 x4 : Int) (l : List S40) (hl : l.length ≤ 100) (hf : ∀ a ∈ l, a.f1.length ≤ 100) : ∀ (d i k : Nat) (acc : Int), i + d = l.length → d + 101 < k →
    states_Next.l0 k x2 x4 acc l (l.length : Int) (i : Int) =
      some ((fun r : Int => (r, r != 0)) ((l.drop i).foldl (fun acc a => if a.f0 = x4 ∧ x2 ∈ a.f1 then a.f2 else acc) acc)) := by
  intro d
  induction d with
  | zero =>
    intro i k acc hi hk
    obtain ⟨k, rfl⟩ : ∃ m, k = m + 1 := ⟨k - 1, by omega⟩
    simp only [states_Next.l0]; rw [if_neg (by omega), List.drop_of_length_le (by omega)]; simp
  | succ d ih =>
    intro i k acc hi hk
    obtain ⟨k, rfl⟩ : ∃ m, k = m + 1 := ⟨k - 1, by omega⟩
    have hlt : i < l.length := by omega
    have hrd : rd_T40 l (i : Int) = l[i] := by simp [rd_T40, List.getD, hlt]
    simp only [states_Next.l0]; rw [if_pos (by omega), if_pos (by omega), if_pos (by omega), hrd, wrap_succ (by omega) (by omega)]
    rw [contains_spec k _ _ (hf _ (List.getElem_mem hlt)) (by omega)]
    have ih1 := fun acc => ih (i + 1) k acc (by omega) (by omega)
    rw [List.drop_eq_getElem_cons hlt, List.foldl_cons]
    by_cases h1 : l[i].f0 = x4
    · rw [if_pos h1]; simp only [Option.bind_some]
      by_cases h2 : x2 ∈ l[i].f1
      · rw [if_pos (by simpa using h2), if_pos ⟨h1, h2⟩]; exact_mod_cast ih1 _
      · rw [if_neg (by simpa using h2), if_neg (fun h => h2 h.2)]; exact_mod_cast ih1 _
    · rw [if_neg h1, if_neg (fun h => h1 h.1)]; exact_mod_cast ih1 _

def statesOf (c : Int) : List Int := if c = 1 then [4, 5, 6, 7, 8, 9] else if c = 2 then [1, 2, 3, 4, 5, 6, 7, 8] else if c = 3 then [1, 6, 7, 8] else []
def waitsOf (c : Int) : List Int := if c = 2 then [1, 2, 3, 4, 5] else if c = 3 then [1] else []
def arrowsOf (c : Int) : List S40 := (states_class_arrows.f c).getD []
/-- What the arrows of a class come to. -/
def arrow (c s e : Int) : Int := (arrowsOf c).foldl (fun acc a => if a.f0 = e ∧ s ∈ a.f1 then a.f2 else acc) 0
def nextTo (c s b e : Int) : Int :=
  if c = 1 ∧ 14 ≤ e ∧ e ≤ 16 then 0
  else if e = 14 ∧ ¬ (s = 7 ∨ s = 8 ∨ s = 9) then 8
  else if e = 15 ∧ s ∈ waitsOf c then 6
  else if e = 16 ∧ s = 6 ∧ wrap64 (b - 10) ∈ waitsOf c then wrap64 (b - 10)
  else if c = 2 ∧ e = 11 ∧ b ≠ 4 then 0
  else if c = 3 ∧ e = 11 ∧ b ≠ 1 then 0
  else arrow c s e
def nxt (c s b e : Int) : Int × Bool := if s ∈ statesOf c then (nextTo c s b e, nextTo c s b e != 0) else (0, false)

theorem final_spec (s : Int) : states_Final.f s = some (decide (s = 7 ∨ s = 8 ∨ s = 9)) := by
  unfold states_Final.f; repeat' split
  all_goals first | (subst_vars; rfl) | (congr 1; rw [Bool.eq_iff_iff]; simp; omega)
theorem states_spec (c : Int) : states_class_states.f c = some (statesOf c) := by
  unfold states_class_states.f statesOf; repeat' split
  all_goals rfl
theorem waits_spec (c : Int) : states_class_waits.f c = some (waitsOf c) := by
  unfold states_class_waits.f waitsOf; repeat' split
  all_goals rfl
theorem waitsOf_len (c : Int) : (waitsOf c).length ≤ 100 := by
  unfold waitsOf; repeat' split
  all_goals simp
theorem statesOf_len (c : Int) : (statesOf c).length ≤ 100 := by
  unfold statesOf; repeat' split
  all_goals simp

theorem arrows_some (c : Int) : states_class_arrows.f c = some (arrowsOf c) := by
  unfold arrowsOf states_class_arrows.f; repeat' split
  all_goals rfl
theorem arrows_lens (c : Int) : (arrowsOf c).length ≤ 20 ∧ ∀ a ∈ arrowsOf c, a.f1.length ≤ 100 := by
  unfold arrowsOf states_class_arrows.f; repeat' split
  all_goals simp

theorem next_spec (k : Nat) (hk : 300 ≤ k) (a0 : Int) (a1 : Bool) (s b e : Int) : states_Next.f k a0 a1 s b e = some (nxt (cls a0 a1) s b e) := by
  obtain ⟨k, rfl⟩ : ∃ m, k = m + 20 := ⟨k - 20, by omega⟩
  have hloop : ∀ c k, 200 ≤ k → states_Next.l0 k s e 0 (arrowsOf c) ((arrowsOf c).length : Int) 0 = some (arrow c s e, arrow c s e != 0) := by
    intro c k hk
    have := S40_fold s e (arrowsOf c) (by have := (arrows_lens c).1; omega) (arrows_lens c).2 (arrowsOf c).length 0 k 0 (by omega) (by have := (arrows_lens c).1; omega)
    rw [List.drop_zero] at this; exact_mod_cast this
  unfold states_Next.f
  rw [classOf_spec (k + 18), Option.bind_some, states_spec, Option.bind_some, contains_spec _ _ _ (statesOf_len _) (by omega), Option.bind_some]
  unfold nxt
  generalize cls a0 a1 = c
  by_cases hs' : ¬ s ∈ statesOf c
  · rw [if_neg (by simpa using hs'), if_neg hs']
  have hs := Classical.not_not.1 hs'
  rw [if_pos (by simpa using hs), if_pos hs]
  have hj5 : ∀ k, 210 ≤ k → states_Next.j5 k s e c 0 false = some (arrow c s e, arrow c s e != 0) := by
    intro k hk
    obtain ⟨k, rfl⟩ : ∃ m, k = m + 1 := ⟨k - 1, by omega⟩
    simp only [states_Next.j5]; rw [if_neg (by decide), arrows_some, Option.bind_some]; exact hloop c k (by omega)
  have hj5t : ∀ k, 210 ≤ k → states_Next.j5 k s e c 0 true = some (0, false) := by
    intro k hk
    obtain ⟨k, rfl⟩ : ∃ m, k = m + 1 := ⟨k - 1, by omega⟩
    simp only [states_Next.j5]; rfl
  have hc1 : ∀ k, 101 ≤ k → ∀ x, slices_Contains_int_int.f k (waitsOf c) x = some (decide (x ∈ waitsOf c)) := fun k hk x => contains_spec _ _ _ (waitsOf_len _) hk
  have h4 : ∀ k, 220 ≤ k → states_Next.j4 k s b e c 0 false = some (if c = 3 ∧ e = 11 ∧ b ≠ 1 then (0, false) else (arrow c s e, arrow c s e != 0)) := by
    intro k hk
    obtain ⟨k, rfl⟩ : ∃ m, k = m + 1 := ⟨k - 1, by omega⟩
    simp only [states_Next.j4]; rw [if_neg (by decide)]
    by_cases h3 : c = 3
    · by_cases h11 : e = 11
      · rw [if_pos h3, if_pos h11]
        by_cases hb : b = 1
        · subst hb; rw [if_neg (by simp)]; exact hj5 k (by omega)
        · rw [show (b != 1) = true from by simpa using hb, if_pos ⟨h3, h11, hb⟩]; exact hj5t k (by omega)
      · rw [if_pos h3, if_neg h11, if_neg (by simp [h11])]; exact hj5 k (by omega)
    · rw [if_neg h3, if_neg (by simp [h3])]; exact hj5 k (by omega)
  have h3 : ∀ k, 230 ≤ k → states_Next.j3 k s b e c 0 false = some (if c = 2 ∧ e = 11 ∧ b ≠ 4 then (0, false) else if c = 3 ∧ e = 11 ∧ b ≠ 1 then (0, false) else (arrow c s e, arrow c s e != 0)) := by
    intro k hk
    obtain ⟨k, rfl⟩ : ∃ m, k = m + 1 := ⟨k - 1, by omega⟩
    simp only [states_Next.j3]; rw [if_neg (by decide)]
    by_cases h3 : c = 2
    · by_cases h11 : e = 11
      · rw [if_pos h3, if_pos h11]
        by_cases hb : b = 4
        · subst hb; rw [if_neg (by simp)]; exact h4 k (by omega)
        · rw [show (b != 4) = true from by simpa using hb, if_pos ⟨h3, h11, hb⟩]
          obtain ⟨k, rfl⟩ : ∃ m, k = m + 1 := ⟨k - 1, by omega⟩
          simp only [states_Next.j4]; rfl
      · rw [if_pos h3, if_neg h11, if_neg (by simp [h11])]; exact h4 k (by omega)
    · rw [if_neg h3, if_neg (by simp [h3])]; exact h4 k (by omega)
  unfold nextTo
  by_cases hp : c = 1 ∧ 14 ≤ e ∧ e ≤ 16
  · rw [if_pos hp, if_pos hp.1, if_pos (by omega)]
    simp only [states_Next.j0]; rw [if_pos (by simpa using hp.2.2)]
  rw [if_neg hp]
  have e0 : (if c = 1 then if e ≥ 14 then states_Next.j0 (k + 20) s b e c 0 (decide (e ≤ 16)) else states_Next.j0 (k + 20) s b e c 0 false else states_Next.j0 (k + 20) s b e c 0 false) = states_Next.j0 (k + 20) s b e c 0 false := by
    repeat' split
    all_goals first | rfl | (rw [show decide (e ≤ 16) = false from decide_eq_false (by omega)])
  rw [e0]
  simp only [states_Next.j0]
  rw [if_neg (by decide)]
  by_cases hA : e = 14
  · subst hA
    rw [if_pos rfl, final_spec, Option.bind_some]
    by_cases hF : s = 7 ∨ s = 8 ∨ s = 9
    · rw [decide_eq_true hF]; simp only [states_Next.j1, states_Next.j2, Bool.not_true]
      rw [if_neg (by decide), if_neg (by decide), if_neg (by decide), if_neg (by decide)]
      rw [h3 _ (by omega)]; simp [hF]
    · rw [decide_eq_false hF]; simp only [states_Next.j1, Bool.not_false]; simp [hF]
  rw [if_neg hA, if_neg (by simp [hA])]
  simp only [states_Next.j1]
  rw [if_neg (by decide)]
  by_cases hB : e = 15
  · subst hB
    rw [if_pos rfl, waits_spec, Option.bind_some, hc1 _ (by omega), Option.bind_some]
    by_cases hw : s ∈ waitsOf c
    · rw [decide_eq_true hw]; simp only [states_Next.j2]; simp [hw]
    · rw [decide_eq_false hw]; simp only [states_Next.j2]; rw [if_neg (by decide), if_neg (by decide), h3 _ (by omega)]; simp [hw]
  rw [if_neg hB, if_neg (by simp [hB])]
  simp only [states_Next.j2]
  rw [if_neg (by decide)]
  by_cases hC : e = 16
  · subst hC
    rw [if_pos rfl]
    by_cases h6 : s = 6
    · subst h6; rw [if_pos rfl, waits_spec, Option.bind_some, hc1 _ (by omega), Option.bind_some]
      by_cases hw : wrap64 (b - 10) ∈ waitsOf c
      · rw [decide_eq_true hw]; simp only [states_Next.j3]; simp [hw]
      · rw [decide_eq_false hw, h3 _ (by omega)]; simp [hw]
    · rw [if_neg h6, h3 _ (by omega)]; simp [h6]
  rw [if_neg hC, if_neg (by simp [hC]), h3 _ (by omega)]
  repeat' split
  all_goals first | rfl | simp_all

end Go.Proofs.Ytifgpigicgaadaa.SpecStatesRise
