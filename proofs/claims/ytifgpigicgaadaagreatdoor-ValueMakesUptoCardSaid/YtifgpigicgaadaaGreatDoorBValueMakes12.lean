import Derived.Test.YtifgpigicgaadaaGreatDoorBValueMakes4
import Derived.Test.YtifgpigicgaadaaGreatDoorBValueMakes6
import Derived.Test.YtifgpigicgaadaaGreatDoorBValueMakes8
import Derived.Test.YtifgpigicgaadaaGreatDoorBValueMakes10
import Derived.Test.YtifgpigicgaadaaGreatDoorBValueMakes11
/- ValueMakes, in plain Lean: for texts and bytes that are together not longer than 1048576. -/
set_option linter.unusedSimpArgs false
set_option linter.unusedVariables false
namespace Go.Proofs.YtifgpigicgaadaaGreatDoor.Pure
open Go.RowKit Go.Proofs.YtifgpigicgaadaaGreatDoor.Q Go.Proofs.YtifgpigicgaadaaGreatDoor.Chars Go.Proofs.YtifgpigicgaadaaGreatDoor.Values Go.Proofs.YtifgpigicgaadaaGreatDoor.Does Go.Proofs.YtifgpigicgaadaaGreatDoor.Bytes Go.Proofs.YtifgpigicgaadaaGreatDoor.Makes
theorem in_of {a : Int} (h : (Lit.int .i64 a).wf = true) : In64 a := by
  simp [Lit.wf, IntKind.min, IntKind.max, IntKind.signed, IntKind.bits] at h
  unfold In64; omega
theorem tail_spec (K : Nat) (l : List Int) (n i : Int) (y : Bool) (s : ByteArray) (m j : Int) (z : Bool) (t : ByteArray) (hn : In64 n) (hi : In64 i) (hu : s.size + l.length ≤ 1048576) (hK : s.size + 1000 ≤ K) : dossierlaw07_ValueMakes.j0 (K + 1) l true n i y s m j z t = some true := by
  have e1 := Can_spec (K - 301) n i y s
  have e2 := ref_Can_spec (K - 301) n i y s
  rw [show K - 301 + 301 = K from by omega] at e1 e2
  obtain ⟨r, w1, w2⟩ := write_same (K - 20) l n i y s hn hi (by omega)
  rw [show K - 20 + 20 = K from by omega] at w1 w2
  obtain ⟨q, p1, p2⟩ := print_same K n i y s hi (by omega) (by omega)
  have e5 := awake_spec (K - 400)
  rw [show K - 400 + 400 = K from by omega] at e5
  rw [dossierlaw07_ValueMakes.j0, if_pos rfl, e1, e2, Option.bind_some, Option.bind_some, if_pos (by simp), value_Same.f, Option.bind_some, if_pos (by simp), w1, w2, Option.bind_some, Option.bind_some, bytes_Equal.f, Option.bind_some, if_pos (by simp), p1, p2, Option.bind_some, Option.bind_some, if_pos rfl, e5, Option.bind_some]
theorem ValueMakes : ∀ (a0_0 a0_1 : Int) (a0_2 : Bool) (a0_3 : ByteArray) (a1_0 a1_1 : Int) (a1_2 : Bool) (a1_3 : ByteArray) (a2 : Int) (a3 : ByteArray) (a4 : Bool) (l5 : List Int), (Lit.int .i64 a0_0).wf = true → (Lit.int .i64 a0_1).wf = true → a0_3.size ≤ maxLen → (Lit.int .i64 a1_0).wf = true → (Lit.int .i64 a1_1).wf = true → a1_3.size ≤ maxLen → (Lit.int .i64 a2).wf = true → a3.size ≤ 140737488351232 → (∀ x ∈ l5, (Lit.int .u8 x).wf = true) → a0_3.size + l5.length ≤ 1048576 →
    ∃ k, dossierlaw07_ValueMakes.f k a0_0 a0_1 a0_2 a0_3 a1_0 a1_1 a1_2 a1_3 a2 a3 a4 l5 = some true := by
  intro a0_0 a0_1 a0_2 a0_3 a1_0 a1_1 a1_2 a1_3 a2 a3 a4 l5 h1 h2 _ _ _ _ _ _ _ hu
  refine ⟨(a0_3.size + 1000) + 1, ?_⟩
  have hj := tail_spec (a0_3.size + 1000) l5 a0_0 a0_1 a0_2 a0_3 a1_0 a1_1 a1_2 a1_3 (in_of h1) (in_of h2) hu (Nat.le_refl _)
  have t1 : ∀ (x : Int), ((1 : Int) == 1 && (x == x && (false == false && ((⟨#[]⟩ : ByteArray).toList == (⟨#[]⟩ : ByteArray).toList)))) = true := by intro x; simp
  have t2 : ∀ (x : Bool), ((2 : Int) == 2 && ((0 : Int) == 0 && (x == x && ((⟨#[]⟩ : ByteArray).toList == (⟨#[]⟩ : ByteArray).toList)))) = true := by intro x; simp
  have t3 : ∀ (x : ByteArray), ((3 : Int) == 3 && ((0 : Int) == 0 && (false == false && (x.toList == x.toList)))) = true := by intro x; simp
  unfold dossierlaw07_ValueMakes.f
  rw [value_Int.f, dossierref07_Int.f, Option.bind_some, Option.bind_some, if_pos (t1 a2), value_Bool.f, dossierref07_Bool.f, Option.bind_some, Option.bind_some, if_pos (t2 a4), value_Text.f, dossierref07_Text.f, Option.bind_some, Option.bind_some, t3 a3]
  exact hj
end Go.Proofs.YtifgpigicgaadaaGreatDoor.Pure
