import Derived.Test.YtifgpigicgaadaaGreatDoorBLexerBlanks7
import Derived.Test.YtifgpigicgaadaaGreatDoorBLexerBlanks8
/- LexerBlanks, in plain Lean: blanks ahead of words, between them and behind play no part. -/
set_option linter.unusedSimpArgs false
set_option linter.unusedVariables false
namespace Go.Proofs.YtifgpigicgaadaaGreatDoor.Pure
open Go.RowKit Go.Proofs.YtifgpigicgaadaaGreatDoor.Q Go.Proofs.YtifgpigicgaadaaGreatDoorW.PrintWords Go.Proofs.YtifgpigicgaadaaGreatDoorW.PrintLast Go.Proofs.YtifgpigicgaadaaGreatDoorH Go.Proofs.YtifgpigicgaadaaGreatDoor.Chars Go.Proofs.YtifgpigicgaadaaGreatDoor.Values Go.Proofs.YtifgpigicgaadaaGreatDoor.Bytes Go.Proofs.YtifgpigicgaadaaGreatDoor.Words Go.Proofs.YtifgpigicgaadaaGreatDoor.Back
theorem LexerBlanks : ∀ (a0 : ByteArray) (a1 : Int), a0.size ≤ 140737488351232 → (Lit.int .i64 a1).wf = true → ∃ k, dossierlaw08_LexerBlanks.f k a0 a1 = some true := by
  intro a0 a1 _ _
  refine ⟨6000, ?_⟩
  have hz := b_size a0
  obtain ⟨r, h1, hor⟩ := prog_words a0 6000 (by omega)
  have aw := awake_spec 6000 (by omega)
  unfold dossierlaw08_LexerBlanks.f
  rw [h1, Option.bind_some]
  by_cases h0 : r.2.2 = 0
  · rw [if_pos h0]
    rcases hor with ⟨_, h⟩ | ⟨hs, ws, hw, hr, hn⟩ | ⟨_, h, _⟩
    · rw [h0] at h; cases h
    · have hg := lexes_good hw (bytes_of a0) (by omega)
      obtain ⟨t, ht, hb⟩ := spell_spec ws hg hn 6000 (by omega)
      have hlen := joinL_len (ws.map spellB) (fun x hx => by obtain ⟨w, hw, rfl⟩ := List.mem_map.1 hx; exact (hg w hw).len)
      rw [← hb, bytesOf_length, List.length_map] at hlen
      have hsz : (((⟨#[32, 10]⟩ : ByteArray) ++ t) ++ (⟨#[9, 13, 32]⟩ : ByteArray)).size = 2 + t.size + 3 := by rw [ByteArray.size_append, ByteArray.size_append]; rfl
      have hsz1 : ((⟨#[32, 10]⟩ : ByteArray) ++ t).size = 2 + t.size := by rw [ByteArray.size_append]; rfl
      have hbb : bytesOf (((⟨#[32, 10]⟩ : ByteArray) ++ t) ++ (⟨#[9, 13, 32]⟩ : ByteArray)) = 32 :: 10 :: (bytesOf t ++ [9, 13, 32]) := by
        rw [b_append, b_append, List.append_assoc]; rfl
      have hl := lexes_join [9, 13, 32] (fun x hx => by
        have : x = 9 ∨ x = 13 ∨ x = 32 := by simpa using hx
        rcases this with rfl | rfl | rfl <;> rfl) ws hg
      rw [← hb] at hl
      have hl2 : Lexes (bytesOf (((⟨#[32, 10]⟩ : ByteArray) ++ t) ++ (⟨#[9, 13, 32]⟩ : ByteArray))) ws := by
        rw [hbb]; exact (hl.blank rfl).blank rfl
      obtain ⟨r2, h5, hor2⟩ := prog_words (((⟨#[32, 10]⟩ : ByteArray) ++ t) ++ (⟨#[9, 13, 32]⟩ : ByteArray)) 6000 (by omega)
      subst hr
      rw [ht, Option.bind_some, if_pos (by omega), if_pos (by omega), h5, Option.bind_some]
      rcases hor2 with ⟨ho, h⟩ | ⟨ho, vs, hv, hr2, _⟩ | ⟨_, _, h⟩
      · rw [if_pos (by omega), if_pos h, aw]; rfl
      · obtain rfl := hl2.one hv
        subst hr2
        rw [if_neg (by omega), if_pos rfl, same_spec (ws ++ [stopW]) (by rw [List.length_append, List.length_singleton]; omega) 6000 (by omega), Option.bind_some, if_pos rfl, aw]
        dsimp only
        by_cases c1 : a1 < 0
        · rw [if_pos c1]; rfl
        · rw [if_neg c1]
          by_cases c2 : a1 ≥ ((ws ++ [stopW]).length : Int)
          · rw [if_pos c2]; rfl
          · rw [if_neg c2, if_pos (by omega), if_pos (by omega), if_pos (by omega), if_pos (by simp)]; rfl
      · exact absurd hl2 (h ws)
    · exact absurd h0 h
  · rw [if_neg h0, aw]; rfl
end Go.Proofs.YtifgpigicgaadaaGreatDoor.Pure
