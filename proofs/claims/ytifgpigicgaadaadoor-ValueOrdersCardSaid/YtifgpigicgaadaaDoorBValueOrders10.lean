/- Several texts in one, in their order. -/
import Derived.Test.YtifgpigicgaadaaDoorBValueOrders5
import Derived.Test.YtifgpigicgaadaaDoorBValueOrders7
import Derived.Test.YtifgpigicgaadaaDoorBValueOrders8
import Derived.Test.YtifgpigicgaadaaDoorBValueOrders9
section
/- Of two values of a kind just one of below, the same, above holds. -/
set_option linter.unusedSimpArgs false
set_option linter.unusedVariables false
namespace Go.Proofs.YtifgpigicgaadaaDoor.Orders
open Go.RowKit Go.Proofs.YtifgpigicgaadaaDoor.Q Go.Proofs.YtifgpigicgaadaaDoorW.PrintWords Go.Proofs.YtifgpigicgaadaaDoorW.PrintLast Go.Proofs.YtifgpigicgaadaaDoor.Chars Go.Proofs.YtifgpigicgaadaaDoor.Values Go.Proofs.YtifgpigicgaadaaDoor.Does

theorem compare_zero : ∀ a b : List UInt8, Lib.compareBytes a b = 0 ↔ a = b
  | [], [] => ⟨fun _ => rfl, fun _ => rfl⟩
  | [], _ :: _ => ⟨fun h => by simp [Lib.compareBytes] at h, fun h => by cases h⟩
  | _ :: _, [] => ⟨fun h => by simp [Lib.compareBytes] at h, fun h => by cases h⟩
  | a :: x, b :: y => by
    have ih := compare_zero x y
    unfold Lib.compareBytes
    by_cases h1 : a < b
    · have h3 : ¬ a = b := fun h => by subst h; exact UInt8.lt_irrefl a h1
      simp [h1, h3]
    · by_cases h2 : b < a
      · have h3 : ¬ a = b := fun h => by subst h; exact h1 h2
        simp [h1, h2, h3]
      · have h3 : a = b := UInt8.le_antisymm (UInt8.not_lt.1 h2) (UInt8.not_lt.1 h1)
        subst h3
        simp [UInt8.lt_irrefl, ih]
def Alike (n i1 : Int) (t1 : ByteArray) (i2 : Int) (t2 : ByteArray) : Prop := (n = 1 ∧ t1 = ⟨#[]⟩ ∧ t2 = ⟨#[]⟩) ∨ (n = 3 ∧ i1 = 0 ∧ i2 = 0)
theorem same_ord (n i1 : Int) (t1 : ByteArray) (i2 : Int) (t2 : ByteArray) (h : Alike n i1 t1 i2 t2) : sameV n i1 false t1 n i2 false t2 = decide (ordV i1 t1 i2 t2 = 0) := by
  unfold sameV ordV
  rcases h with ⟨rfl, rfl, rfl⟩ | ⟨rfl, rfl, rfl⟩
  · have e : Lib.compareBytes (⟨#[]⟩ : ByteArray).data.toList (⟨#[]⟩ : ByteArray).data.toList = 0 := rfl
    rw [e]
    by_cases h1 : i1 < i2
    · have : ¬ i1 = i2 := by omega
      simp [h1, this]
    · by_cases h2 : i2 < i1
      · have : ¬ i1 = i2 := by omega
        simp [h1, h2, this]
      · have : i1 = i2 := by omega
        simp [this]
  · have := compare_zero t1.data.toList t2.data.toList
    rw [Lib.toList_data, Lib.toList_data]
    simp only [Int.lt_irrefl, if_false, beq_self_eq_true, Bool.true_and]
    rw [Bool.eq_iff_iff]
    simp [this]
theorem do_at (k op n i1 : Int) (t1 : ByteArray) (i2 : Int) (t2 : ByteArray) (m : Nat) (hn : n = 1 ∨ n = 3) (hop : op = 12 ∨ op = 13 ∨ op = 14 ∨ op = 15 ∨ op = 16) (g1 : In64 i1) (g2 : In64 i2) (c1 : canV n i1 false t1 = true) (c2 : canV n i2 false t2 = true) :
    value_Do.f (m + 400) op n i1 false t1 n i2 false t2 = some (2, 0, judgeV op n i1 false t1 n i2 false t2, ⟨#[]⟩, true) := by
  rw [Do_spec _ _ _ _ _ _ _ _ _ _ g1 g2, c1, c2]
  have hk : kindV op n n = (2, true) := by
    rcases hn with rfl | rfl <;> rcases hop with rfl | rfl | rfl | rfl | rfl <;> rfl
  rw [hk]; rfl
theorem w1 (x : Int) (h : 0 ≤ x ∧ x < 100) : wrap64 (x + 1) = x + 1 := by unfold wrap64; omega
theorem l1_step (K : Nat) (c : Int) (xs : List S33) (L i : Int) (ys : List S23) (hy : ys.length = 3) (j : Int) (hj : 0 ≤ j ∧ j < 3) (a0 a1 : Int) (a2 : Bool) (a3 : ByteArray) (b0 b1 : Int) (b2 : Bool) (b3 : ByteArray) (c0 c1 : Int) (c2 : Bool) (c3 : ByteArray) (d0 d1 : Int) (d2 : Bool) (d3 : ByteArray) :
    dossierlaw07_ValueOrders.l1 (K + 1) true true true true true c xs L i ys 3 j a0 a1 a2 a3 b0 b1 b2 b3 c0 c1 c2 c3 d0 d1 d2 d3 = dossierlaw07_ValueOrders.l1 K true true true true true (if (rd_T23 ys j).f2 = true then wrap64 (c + 1) else c) xs L i ys 3 (wrap64 (j + 1)) a0 a1 a2 a3 b0 b1 b2 b3 c0 c1 c2 c3 d0 d1 d2 d3 := by
  rw [dossierlaw07_ValueOrders.l1, if_pos hj.2, if_pos hj.1, if_pos (by omega)]
  by_cases h : (rd_T23 ys j).f2 = true
  · rw [if_pos h, if_pos h]
  · rw [if_neg h, if_neg h]
theorem l1_end (K : Nat) (xs : List S33) (L i : Int) (ys : List S23) (a0 a1 : Int) (a2 : Bool) (a3 : ByteArray) (b0 b1 : Int) (b2 : Bool) (b3 : ByteArray) (c0 c1 : Int) (c2 : Bool) (c3 : ByteArray) (d0 d1 : Int) (d2 : Bool) (d3 : ByteArray) (h1 : c2 ≠ b2) (h2 : d2 ≠ a2) :
    dossierlaw07_ValueOrders.l1 (K + 1) true true true true true 1 xs L i ys 3 3 a0 a1 a2 a3 b0 b1 b2 b3 c0 c1 c2 c3 d0 d1 d2 d3 = dossierlaw07_ValueOrders.l0 K xs L (wrap64 (i + 1)) := by
  rw [dossierlaw07_ValueOrders.l1, if_neg (by omega), if_pos rfl, if_pos rfl, if_pos rfl, if_pos rfl, if_pos rfl, if_pos rfl, if_neg (by simpa using h1), if_neg (by simpa using h2)]
theorem count_at (m : Nat) (o : Int) (xs : List S33) (L i : Int) (a0 a1 : Int) (a3 : ByteArray) (b0 b1 : Int) (b3 : ByteArray) (c0 c1 : Int) (c3 : ByteArray) (d0 d1 : Int) (d3 : ByteArray) (e0 e1 : Int) (e3 : ByteArray) :
    dossierlaw07_ValueOrders.l1 (m + 404) true true true true true 0 xs L i [⟨a0, a1, decide (o < 0), a3⟩, ⟨b0, b1, decide (o = 0), b3⟩, ⟨c0, c1, decide (o > 0), c3⟩] 3 0 a0 a1 (decide (o < 0)) a3 c0 c1 (decide (o > 0)) c3 d0 d1 (decide (o ≤ 0)) d3 e0 e1 (decide (o ≥ 0)) e3 = dossierlaw07_ValueOrders.l0 (m + 400) xs L (wrap64 (i + 1)) := by
  have z1 : wrap64 (0 + 1) = 1 := w1 0 (by omega)
  have z2 : wrap64 (1 + 1) = 2 := w1 1 (by omega)
  have z3 : wrap64 (2 + 1) = 3 := w1 2 (by omega)
  have r : ∀ a b c : S23, rd_T23 [a, b, c] 0 = a ∧ rd_T23 [a, b, c] 1 = b ∧ rd_T23 [a, b, c] 2 = c := fun a b c => ⟨rfl, rfl, rfl⟩
  rw [show m + 404 = (m + 403) + 1 from rfl, l1_step _ _ _ _ _ _ rfl 0 (by omega), z1, show m + 403 = (m + 402) + 1 from rfl, l1_step _ _ _ _ _ _ rfl 1 (by omega), z2, show m + 402 = (m + 401) + 1 from rfl, l1_step _ _ _ _ _ _ rfl 2 (by omega), z3, (r _ _ _).1, (r _ _ _).2.1, (r _ _ _).2.2]
  have hc : (if decide (o > 0) = true then wrap64 ((if decide (o = 0) = true then wrap64 ((if decide (o < 0) = true then wrap64 (0 + 1) else 0) + 1) else (if decide (o < 0) = true then wrap64 (0 + 1) else 0)) + 1) else (if decide (o = 0) = true then wrap64 ((if decide (o < 0) = true then wrap64 (0 + 1) else 0) + 1) else (if decide (o < 0) = true then wrap64 (0 + 1) else 0))) = 1 := by
    rw [z1]
    rcases Int.lt_trichotomy o 0 with h | h | h
    · rw [if_neg (by simp; omega), if_neg (by simp; omega), if_pos (by simp; omega)]
    · rw [if_neg (by simp; omega), if_pos (by simp; omega), if_neg (by simp; omega), z1]
    · rw [if_pos (by simp; omega), if_neg (by simp; omega), if_neg (by simp; omega), z1]
  rw [z1] at hc
  rw [hc, show m + 401 = (m + 400) + 1 from rfl]
  refine l1_end _ _ _ _ _ _ _ _ _ _ _ _ _ _ _ _ _ _ _ _ _ (fun h => ?_) (fun h => ?_)
  · rw [decide_eq_decide] at h; omega
  · rw [decide_eq_decide] at h; omega
theorem step_at (m : Nat) (xs : List S33) (i : Int) (n i1 : Int) (t1 : ByteArray) (i2 : Int) (t2 : ByteArray) (h0 : 0 ≤ i) (h1 : i < xs.length) (hr : rd_T33 xs i = ⟨⟨n, i1, false, t1⟩, ⟨n, i2, false, t2⟩⟩) (h : Alike n i1 t1 i2 t2) (g1 : In64 i1) (g2 : In64 i2) :
    ∃ m', m + 400 ≤ m' ∧ dossierlaw07_ValueOrders.l0 (m + 406) xs (xs.length : Int) i = dossierlaw07_ValueOrders.l0 m' xs (xs.length : Int) (wrap64 (i + 1)) := by
  have hn : n = 1 ∨ n = 3 := h.elim (fun h => Or.inl h.1) (fun h => Or.inr h.1)
  rw [show m + 406 = (m + 405) + 1 from rfl, dossierlaw07_ValueOrders.l0, if_pos h1, if_pos h0, if_pos h1, hr]
  simp only
  rw [show m + 405 = (m + 104) + 301 from rfl, ref_Can_spec, ref_Can_spec]
  simp only [Option.bind_some]
  have no : dossierlaw07_ValueOrders.j1 (m + 104 + 301) xs (xs.length : Int) i true n i1 false t1 n i2 false t2 = dossierlaw07_ValueOrders.l0 (m + 404) xs (xs.length : Int) (wrap64 (i + 1)) := by
    rw [show m + 104 + 301 = (m + 404) + 1 from rfl, dossierlaw07_ValueOrders.j1, if_pos rfl]
  by_cases c1 : canV n i1 false t1 = true
  · rw [if_pos c1]
    by_cases c2 : canV n i2 false t2 = true
    · refine ⟨m + 400, Nat.le_refl _, ?_⟩
      rw [c2, show m + 104 + 301 = (m + 404) + 1 from rfl, dossierlaw07_ValueOrders.j1, if_neg (by decide)]
      have D := fun op hop => do_at 0 op n i1 t1 i2 t2 (m + 4) hn hop g1 g2 c1 c2
      rw [show m + 404 = (m + 4) + 400 from rfl, D 12 (by omega), D 16 (by omega), D 14 (by omega), D 13 (by omega), D 15 (by omega)]
      simp only [Option.bind_some]
      have J1 : judgeV 12 n i1 false t1 n i2 false t2 = decide (ordV i1 t1 i2 t2 < 0) := rfl
      have J2 : judgeV 16 n i1 false t1 n i2 false t2 = decide (ordV i1 t1 i2 t2 = 0) := same_ord n i1 t1 i2 t2 h
      have J3 : judgeV 14 n i1 false t1 n i2 false t2 = decide (ordV i1 t1 i2 t2 > 0) := rfl
      have J4 : judgeV 13 n i1 false t1 n i2 false t2 = decide (ordV i1 t1 i2 t2 ≤ 0) := rfl
      have J5 : judgeV 15 n i1 false t1 n i2 false t2 = decide (ordV i1 t1 i2 t2 ≥ 0) := rfl
      rw [J1, J2, J3, J4, J5]
      exact count_at m _ _ _ _ _ _ _ _ _ _ _ _ _ _ _ _ _ _ _
    · refine ⟨m + 404, by omega, ?_⟩
      rw [Bool.not_eq_true] at c2
      rw [c2]
      exact no
  · refine ⟨m + 404, by omega, ?_⟩
    rw [if_neg c1]
    exact no
end Go.Proofs.YtifgpigicgaadaaDoor.Orders
end
section
/- ValueOrders, in plain Lean: of two integers or two texts just one of below, the same, above holds. -/
set_option linter.unusedSimpArgs false
set_option linter.unusedVariables false
namespace Go.Proofs.YtifgpigicgaadaaDoor.Pure
open Go.RowKit Go.Proofs.YtifgpigicgaadaaDoor.Q Go.Proofs.YtifgpigicgaadaaDoorW.PrintWords Go.Proofs.YtifgpigicgaadaaDoor.Chars Go.Proofs.YtifgpigicgaadaaDoor.Values Go.Proofs.YtifgpigicgaadaaDoor.Does Go.Proofs.YtifgpigicgaadaaDoor.Orders
theorem in_of'' {a : Int} (h : (Lit.int .i64 a).wf = true) : In64 a := by
  simp [Lit.wf, IntKind.min, IntKind.max, IntKind.signed, IntKind.bits] at h
  unfold In64; omega
theorem orders_l0 (K : Nat) (hK : 900 ≤ K) (a0 a1 : Int) (s t : ByteArray) (g0 : In64 a0) (g1 : In64 a1) (xs : List S33) (hxs : [⟨⟨1, a0, false, ⟨#[]⟩⟩, ⟨1, a1, false, ⟨#[]⟩⟩⟩, ⟨⟨3, 0, false, s⟩, ⟨3, 0, false, t⟩⟩] = xs) : dossierlaw07_ValueOrders.l0 (K + 406) xs (xs.length : Int) 0 = some true := by
  have hl : (xs.length : Int) = 2 := by rw [← hxs]; rfl
  have z : In64 0 := by unfold In64; omega
  obtain ⟨k1, hk1, e1⟩ := step_at K xs 0 1 a0 ⟨#[]⟩ a1 ⟨#[]⟩ (by omega) (by omega) (by rw [← hxs]; rfl) (Or.inl ⟨rfl, rfl, rfl⟩) g0 g1
  obtain ⟨m, rfl⟩ : ∃ m, k1 = m + 406 := ⟨k1 - 406, by omega⟩
  obtain ⟨k2, hk2, e2⟩ := step_at m xs 1 3 0 s 0 t (by omega) (by omega) (by rw [← hxs]; rfl) (Or.inr ⟨rfl, rfl, rfl⟩) z z
  obtain ⟨q, rfl⟩ : ∃ q, k2 = (q + 400) + 1 := ⟨k2 - 401, by omega⟩
  rw [e1, w1 0 (by omega), show (0 : Int) + 1 = 1 from rfl, e2, w1 1 (by omega), show (1 : Int) + 1 = 2 from rfl, dossierlaw07_ValueOrders.l0, if_neg (by omega), awake_spec]
  rfl
theorem orders_at (K : Nat) (hK : 900 ≤ K) (a0 a1 : Int) (a2 a3 : ByteArray) (g0 : In64 a0) (g1 : In64 a1) : dossierlaw07_ValueOrders.f (K + 406) a0 a1 a2 a3 = some true := by
  have m2 : 0 ≤ mn (a2.size : Int) 100 ∧ mn (a2.size : Int) 100 ≤ (a2.size : Int) := by unfold mn; split <;> omega
  have m3 : 0 ≤ mn (a3.size : Int) 100 ∧ mn (a3.size : Int) 100 ≤ (a3.size : Int) := by unfold mn; split <;> omega
  unfold dossierlaw07_ValueOrders.f value_Int.f value_Text.f
  rw [if_pos m2.1, if_pos m2.2, if_pos m3.1, if_pos m3.2, Option.bind_some, Option.bind_some, Option.bind_some, Option.bind_some, Option.bind_some]
  exact orders_l0 K hK a0 a1 _ _ g0 g1 _ rfl
theorem ValueOrders : ∀ (a0 a1 : Int) (a2 a3 : ByteArray), (Lit.int .i64 a0).wf = true → (Lit.int .i64 a1).wf = true → a2.size ≤ 140737488351232 → a3.size ≤ 140737488351232 → ∃ k, dossierlaw07_ValueOrders.f k a0 a1 a2 a3 = some true := by
  exact fun a0 a1 a2 a3 h0 h1 h2 h3 => ⟨_, orders_at 900 (Nat.le_refl _) a0 a1 a2 a3 (in_of'' h0) (in_of'' h1)⟩
end Go.Proofs.YtifgpigicgaadaaDoor.Pure
end
