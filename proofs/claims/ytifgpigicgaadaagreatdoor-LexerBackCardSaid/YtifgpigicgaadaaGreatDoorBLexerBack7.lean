/- Several texts in one, in their order. -/
import Derived.Test.YtifgpigicgaadaaGreatDoorBLexerBack2
import Derived.Test.YtifgpigicgaadaaGreatDoorBLexerBack4
import Derived.Test.YtifgpigicgaadaaGreatDoorBLexerBack5
import Derived.Test.YtifgpigicgaadaaGreatDoorBLexerBack6
section
/- Numbers: a text of digits is the same number to the program and to the reference. -/
set_option linter.unusedSimpArgs false
set_option linter.unusedVariables false
namespace Go.Proofs.YtifgpigicgaadaaGreatDoor.Num
open Go.RowKit Go.Proofs.YtifgpigicgaadaaGreatDoor.Q Go.Proofs.YtifgpigicgaadaaGreatDoorW.PrintWords Go.Proofs.YtifgpigicgaadaaGreatDoorW.PrintLast Go.Proofs.YtifgpigicgaadaaGreatDoorH Go.Proofs.YtifgpigicgaadaaGreatDoor.Chars Go.Proofs.YtifgpigicgaadaaGreatDoor.Values Go.Proofs.YtifgpigicgaadaaGreatDoor.Bytes

def val (l : List Int) : Int := l.foldl (fun a x => 10 * a + (x - 48)) 0
def Digits (l : List Int) : Prop := ∀ x ∈ l, 48 ≤ x ∧ x ≤ 57
theorem val_snoc (l : List Int) (x : Int) : val (l ++ [x]) = 10 * val l + (x - 48) := by unfold val; rw [List.foldl_append]; rfl
theorem Digits.left {l m : List Int} (h : Digits (l ++ m)) : Digits l := fun x hx => h x (List.mem_append_left m hx)
theorem val_range : ∀ (n : Nat) (l : List Int), l.length = n → Digits l → 0 ≤ val l ∧ val l < 10 ^ n := by
  intro n
  induction n with
  | zero => intro l hl _; rw [List.length_eq_zero_iff.1 hl]; decide
  | succ n ih =>
    intro l hl hd
    rcases List.eq_nil_or_concat l with rfl | ⟨m, x, rfl⟩
    · simp at hl
    · rw [List.concat_eq_append] at *
      have hm := ih m (by simpa using hl) hd.left
      have hx := hd x (by simp)
      rw [val_snoc, Int.pow_succ]
      omega
theorem val_take_succ (l : List Int) (i : Nat) (h : i < l.length) : val (l.take (i + 1)) = 10 * val (l.take i) + (l[i] - 48) := by
  have e : l.take (i + 1) = l.take i ++ [l[i]] := by rw [List.take_add_one, List.getElem?_eq_getElem h]; rfl
  rw [e, val_snoc]
theorem val_19 (l : List Int) (h : l.length ≤ 19) (hd : Digits l) : 0 ≤ val l ∧ val l < 10000000000000000000 := by
  have := val_range l.length l rfl hd
  have h2 : (10 : Int) ^ l.length ≤ 10 ^ 19 := by exact_mod_cast Nat.pow_le_pow_right (n := 10) (by decide) h
  have h3 : (10 : Int) ^ 19 = 10000000000000000000 := by decide
  omega
theorem Digits.take {l : List Int} (h : Digits l) (n : Nat) : Digits (l.take n) := fun x hx => h x (List.mem_of_mem_take hx)

/-! ## The program's -/
def endV (V : Int) : Int × Int := if V > 9223372036854775807 then (0, 4) else (V, 0)
theorem j5_near (k : Nat) (V : Int) (h : 0 ≤ V) : chars_Number.j5 (k + 2) false V false 9223372036854775807 = some (endV V) := by
  rw [chars_Number.j5, if_neg (by decide), chars_Number.j6]
  unfold endV
  by_cases h2 : V > 9223372036854775807
  · rw [if_pos (by simpa using h2), if_pos h2]
  · rw [if_neg (by simpa using h2), if_neg h2, if_neg (by decide)]; congr 2; unfold wrap64; omega
theorem j5_far (k : Nat) (V : Int) : chars_Number.j5 (k + 2) false V true 9223372036854775807 = some (0, 4) := by
  rw [chars_Number.j5, if_pos rfl, chars_Number.j6, if_pos rfl]
theorem near_at (s : ByteArray) (hd : Digits (bytesOf s)) (hlen : (bytesOf s).length ≤ 19) : ∀ d i k : Nat, i + d = (bytesOf s).length →
    chars_Number.l0 (k + 2 * d + 3) false (val ((bytesOf s).take i)) false s ((bytesOf s).length : Int) (i : Int) = some (endV (val (bytesOf s))) := by
  intro d
  induction d with
  | zero =>
    intro i k hi
    rw [show k + 2 * 0 + 3 = (k + 2) + 1 from rfl, chars_Number.l0, if_neg (by omega), if_neg (by decide), List.take_of_length_le (by omega)]
    exact j5_near k _ (val_19 _ hlen hd).1
  | succ d ih =>
    intro i k hi
    have hlt : i < (bytesOf s).length := by omega
    have e2 : wrap64 ((i : Int) + 1) = ((i + 1 : Nat) : Int) := by rw [w64' _ (by omega) (by omega)]; omega
    have hx := hd _ (List.getElem_mem hlt)
    have hv := val_19 _ (show ((bytesOf s).take (i + 1)).length ≤ 19 by rw [List.length_take]; omega) (hd.take _)
    have hv0 := val_19 _ (show ((bytesOf s).take i).length ≤ 19 by rw [List.length_take]; omega) (hd.take _)
    have hs := val_take_succ (bytesOf s) i hlt
    rw [show k + 2 * (d + 1) + 3 = ((k + 2 * d + 3) + 1) + 1 from by omega, chars_Number.l0, if_pos (by omega), if_pos (by omega), if_pos (by rw [b_size]; omega), bt_at' hlt, if_neg (by omega), chars_Number.j4, if_neg (by simp; omega), if_neg (by decide), e2]
    have e : IntKind.u64.wrap (IntKind.u64.wrap (10 * val ((bytesOf s).take i)) + ((bytesOf s)[i] - 48) % 256) = val ((bytesOf s).take (i + 1)) := by
      rw [IntKind.wrap_u64, IntKind.wrap_u64]; omega
    rw [e]
    exact ih (i + 1) k (by omega)
theorem far_at (s : ByteArray) (hd : Digits (bytesOf s)) (hs : (bytesOf s).length ≤ 1000000) : ∀ (d i k : Nat) (V : Int), i + d = (bytesOf s).length →
    chars_Number.l0 (k + 2 * d + 3) false V true s ((bytesOf s).length : Int) (i : Int) = some (0, 4) := by
  intro d
  induction d with
  | zero =>
    intro i k V hi
    rw [show k + 2 * 0 + 3 = (k + 2) + 1 from rfl, chars_Number.l0, if_neg (by omega), if_neg (by decide)]
    exact j5_far k _
  | succ d ih =>
    intro i k V hi
    have hlt : i < (bytesOf s).length := by omega
    have e2 : wrap64 ((i : Int) + 1) = ((i + 1 : Nat) : Int) := by rw [w64' _ (by omega) (by omega)]; omega
    have hx := hd _ (List.getElem_mem hlt)
    rw [show k + 2 * (d + 1) + 3 = ((k + 2 * d + 3) + 1) + 1 from by omega, chars_Number.l0, if_pos (by omega), if_pos (by omega), if_pos (by rw [b_size]; omega), bt_at' hlt, if_neg (by omega), chars_Number.j4, if_neg (by simp; omega), if_pos rfl, e2]
    exact ih (i + 1) k V (by omega)
/-- What a text of digits is. -/
def numV (l : List Int) : Int × Int := if l.getD 0 0 = 48 ∧ 1 < l.length then (0, 5) else if 19 < l.length then (0, 4) else endV (val l)
theorem number_spec (s : ByteArray) (hd : Digits (bytesOf s)) (h0 : bytesOf s ≠ []) (hs : (bytesOf s).length ≤ 1000000) (k : Nat) (hk : 2 * (bytesOf s).length + 10 ≤ k) : chars_Number.f k s = some (numV (bytesOf s)) := by
  have hl : 0 < (bytesOf s).length := List.length_pos_iff.2 h0
  have hb : bt s 0 = (bytesOf s)[0] := bt_at' hl
  have hx := hd _ (List.getElem_mem hl)
  have hg : (bytesOf s).getD 0 0 = (bytesOf s)[0] := by rw [List.getD_eq_getElem?_getD, List.getElem?_eq_getElem hl]; rfl
  obtain ⟨k, rfl⟩ : ∃ m, k = m + 2 * (bytesOf s).length + 3 + 3 := ⟨k - 2 * (bytesOf s).length - 6, by omega⟩
  unfold chars_Number.f numV
  rw [b_size, hb, hg, if_pos (by omega), if_pos (by omega), show ((bytesOf s)[0] == 45) = false from by simp; omega]
  rw [chars_Number.j0, if_neg (by decide), chars_Number.j1]
  have hne : ¬ s.toList = [] := by rw [toList_iff]; simpa using h0
  rw [if_neg hne, b_size, if_pos (by omega), hb]
  by_cases h1 : (bytesOf s)[0] = 48
  · rw [if_pos h1]
    by_cases h2 : 1 < (bytesOf s).length
    · rw [if_pos ⟨h1, h2⟩, chars_Number.j2, if_pos (by simp; omega)]
    · rw [if_neg (fun x => h2 x.2), if_neg (by omega), chars_Number.j2, if_neg (by simp; omega), b_size, if_pos (by omega), show (decide (((bytesOf s).length : Int) > 19)) = false from by simp; omega]
      have := near_at s hd (by omega) _ 0 k (Nat.zero_add _)
      exact this
  · rw [if_neg h1, if_neg (fun x => h1 x.1), chars_Number.j2, if_neg (by decide), b_size, if_pos (by omega)]
    by_cases h3 : 19 < (bytesOf s).length
    · rw [if_pos h3, show (decide (((bytesOf s).length : Int) > 19)) = true from by simp; omega]
      exact far_at s hd hs _ 0 k 0 (Nat.zero_add _)
    · rw [if_neg h3, show (decide (((bytesOf s).length : Int) > 19)) = false from by simp; omega]
      exact near_at s hd (by omega) _ 0 k (Nat.zero_add _)

/-! ## The reference's -/
/-- A number has a text, and not a long one. -/
theorem text_total : ∀ (n : Nat) (x : Int), n ≤ 100 → -(10 ^ n : Int) < x → x < 10 ^ n → -9223372036854775808 ≤ x → x ≤ 9223372036854775807 → ∀ k, n + 3 ≤ k → ∃ t, dossierref01_Text.f k x = some t ∧ t.size ≤ n + 2 := by
  intro n
  induction n with
  | zero =>
    intro x _ h1 h2 _ _ k hk
    obtain ⟨k, rfl⟩ : ∃ m, k = m + 1 := ⟨k - 1, by omega⟩
    have : x = 0 := by simp at h1 h2; omega
    subst this
    refine ⟨⟨#[48]⟩, ?_, by decide⟩
    rw [dossierref01_Text.f, if_neg (by decide), if_pos (by decide), if_pos (by decide), w64' _ (by decide) (by decide), if_pos (by decide), if_pos (by decide)]
    rfl
  | succ n ih =>
    intro x hn9 h1 h2 h3 h4 k hk
    obtain ⟨k, rfl⟩ : ∃ m, k = m + 1 := ⟨k - 1, by omega⟩
    rw [Int.pow_succ] at h1 h2
    have small : ∀ y : Int, 0 ≤ y → y < 10 → ∀ k, 1 ≤ k → ∃ t, dossierref01_Text.f k y = some t ∧ t.size = 1 := by
      intro y g1 g2 k hk
      obtain ⟨k, rfl⟩ : ∃ m, k = m + 1 := ⟨k - 1, by omega⟩
      refine ⟨(⟨#[48, 49, 50, 51, 52, 53, 54, 55, 56, 57]⟩ : ByteArray).extract y.toNat (y + 1).toNat, ?_, ?_⟩
      · rw [dossierref01_Text.f, if_neg (by omega), if_pos (by omega), if_pos (by omega), w64' _ (by omega) (by omega), if_pos (by omega), if_pos (by omega)]
      · rw [b_size, b_extract, List.length_take, List.length_drop]
        have : (bytesOf (⟨#[48, 49, 50, 51, 52, 53, 54, 55, 56, 57]⟩ : ByteArray)).length = 10 := by kernel_rfl
        omega
    rw [dossierref01_Text.f]
    by_cases c1 : x < 0
    · rw [if_pos c1]
      by_cases c2 : x > -10
      · obtain ⟨t, ht, hs⟩ := small (-x) (by omega) (by omega) k (by omega)
        refine ⟨_, by rw [if_pos c2, w64' _ (by omega) (by omega), ht, Option.bind_some, if_pos (by omega)], ?_⟩
        rw [ByteArray.size_append, hs]; show 1 + 1 ≤ _; omega
      · have hq : Int.tdiv x 10 = -((-x) / 10) := by rw [show x = -(-x) from by omega, Int.neg_tdiv, Int.tdiv_eq_ediv_of_nonneg (by omega)]; simp
        have hr : Int.tmod x 10 = -((-x) % 10) := by rw [show x = -(-x) from by omega, Int.neg_tmod, Int.tmod_eq_emod_of_nonneg (by omega)]; simp
        obtain ⟨t, ht, hs⟩ := ih (Int.tdiv x 10) (by omega) (by omega) (by omega) (by omega) (by omega) k (by omega)
        obtain ⟨u, hu, hs2⟩ := small (-(Int.tmod x 10)) (by omega) (by omega) k (by omega)
        have e1 : wrap64 (Int.tdiv x 10) = Int.tdiv x 10 := by unfold wrap64; omega
        have e2 : wrap64 (-(Int.tmod x 10)) = -(Int.tmod x 10) := by unfold wrap64; omega
        refine ⟨t ++ u, by rw [if_neg c2, e1, e2, ht, hu, Option.bind_some, Option.bind_some, if_pos (by omega)], ?_⟩
        rw [ByteArray.size_append]; omega
    · rw [if_neg c1]
      by_cases c2 : x < 10
      · obtain ⟨t, ht, hs⟩ := small x (by omega) c2 1 (by omega)
        rw [dossierref01_Text.f, if_neg c1, if_pos c2] at ht
        exact ⟨t, by rw [if_pos c2]; exact ht, by omega⟩
      · have hq : Int.tdiv x 10 = x / 10 := Int.tdiv_eq_ediv_of_nonneg (by omega)
        have hr : Int.tmod x 10 = x % 10 := Int.tmod_eq_emod_of_nonneg (by omega)
        obtain ⟨t, ht, hs⟩ := ih (Int.tdiv x 10) (by omega) (by omega) (by omega) (by omega) (by omega) k (by omega)
        obtain ⟨u, hu, hs2⟩ := small (Int.tmod x 10) (by omega) (by omega) k (by omega)
        have e1 : wrap64 (Int.tdiv x 10) = Int.tdiv x 10 := by unfold wrap64; omega
        refine ⟨t ++ u, by rw [if_neg c2, e1, ht, hu, Option.bind_some, Option.bind_some, if_pos (by omega)], ?_⟩
        rw [ByteArray.size_append]; omega

theorem text_neg : ∀ (k : Nat) (x : Int) (t : ByteArray), x < 0 → -9223372036854775808 ≤ x → dossierref01_Text.f k x = some t → ∃ u, bytesOf t = 45 :: u := by
  intro k
  induction k with
  | zero => intro x t _ _ h; simp [dossierref01_Text.f] at h
  | succ k ih =>
    intro x t h1 h3 h
    rw [dossierref01_Text.f, if_pos h1] at h
    by_cases c2 : x > -10
    · rw [if_pos c2] at h
      obtain ⟨u, _, h⟩ := Option.bind_eq_some_iff.1 h
      split at h
      · obtain rfl := Option.some.inj h
        exact ⟨bytesOf u, by rw [b_append]; rfl⟩
      · cases h
    · rw [if_neg c2] at h
      obtain ⟨u, hu, h⟩ := Option.bind_eq_some_iff.1 h
      obtain ⟨v, _, h⟩ := Option.bind_eq_some_iff.1 h
      have hq : Int.tdiv x 10 = -((-x) / 10) := by rw [show x = -(-x) from by omega, Int.neg_tdiv, Int.tdiv_eq_ediv_of_nonneg (by omega)]; simp
      have e1 : wrap64 (Int.tdiv x 10) = Int.tdiv x 10 := by unfold wrap64; omega
      rw [e1] at hu
      obtain ⟨u', hu'⟩ := ih _ u (by omega) (by omega) hu
      split at h
      · obtain rfl := Option.some.inj h
        exact ⟨u' ++ bytesOf v, by rw [b_append, hu']; rfl⟩
      · cases h
/-- The text of a number of digits, without a zero ahead, is the digits. -/
theorem text_val : ∀ (n : Nat) (l : List Int), l.length = n → l ≠ [] → Digits l → (l.getD 0 0 = 48 → n = 1) → n ≤ 100 → val l ≤ 9223372036854775807 → ∀ k, n + 1 ≤ k → ∃ t, dossierref01_Text.f k (val l) = some t ∧ bytesOf t = l := by
  intro n
  induction n with
  | zero => intro l hl h0; exact absurd (List.length_eq_zero_iff.1 hl) h0
  | succ n ih =>
    intro l hl h0 hd hz hn hv k hk
    obtain ⟨k, rfl⟩ : ∃ m, k = m + 1 := ⟨k - 1, by omega⟩
    have one : ∀ y : Int, 0 ≤ y → y < 10 → ∀ k, 1 ≤ k → ∃ t, dossierref01_Text.f k y = some t ∧ bytesOf t = [y + 48] := by
      intro y g1 g2 k hk
      obtain ⟨k, rfl⟩ : ∃ m, k = m + 1 := ⟨k - 1, by omega⟩
      refine ⟨(⟨#[48, 49, 50, 51, 52, 53, 54, 55, 56, 57]⟩ : ByteArray).extract y.toNat (y + 1).toNat, ?_, ?_⟩
      · rw [dossierref01_Text.f, if_neg (by omega), if_pos (by omega), if_pos (by omega), w64' _ (by omega) (by omega), if_pos (by omega), if_pos (by omega)]
      · rw [b_extract, show bytesOf (⟨#[48, 49, 50, 51, 52, 53, 54, 55, 56, 57]⟩ : ByteArray) = [48, 49, 50, 51, 52, 53, 54, 55, 56, 57] from rfl]
        have hy : y = 0 ∨ y = 1 ∨ y = 2 ∨ y = 3 ∨ y = 4 ∨ y = 5 ∨ y = 6 ∨ y = 7 ∨ y = 8 ∨ y = 9 := by omega
        rcases hy with rfl | rfl | rfl | rfl | rfl | rfl | rfl | rfl | rfl | rfl <;> rfl
    rcases List.eq_nil_or_concat l with rfl | ⟨m, x, rfl⟩
    · exact absurd rfl h0
    · rw [List.concat_eq_append] at *
      have hx := hd x (by simp)
      have hlm : m.length = n := by simpa using hl
      cases hm : m with
      | nil =>
        rw [List.nil_append]
        obtain ⟨t, ht, hb⟩ := one (x - 48) (by omega) (by omega) (k + 1) (by omega)
        have : val [x] = x - 48 := by unfold val; simp
        exact ⟨t, by rw [this]; exact ht, by rw [hb]; congr 1; omega⟩
      | cons y m' =>
        have hm0 : m ≠ [] := by rw [hm]; simp
        have hy : (m ++ [x]).getD 0 0 = y := by rw [hm]; rfl
        have hyd := hd y (by rw [hm]; simp)
        have hn2 : 1 ≤ n := by rw [← hlm, hm]; simp
        have hy48 : y ≠ 48 := fun h => by have := hz (hy.trans h); omega
        have hvm := val_range n m hlm hd.left
        have hpos : 1 ≤ val m := by
          have : ∀ (l : List Int) (a : Int), Digits l → 1 ≤ a → 1 ≤ l.foldl (fun a x => 10 * a + (x - 48)) a := by
            intro l
            induction l with
            | nil => intro a _ h; exact h
            | cons z l ih => intro a hd h; rw [List.foldl_cons]; have := hd z (by simp); exact ih _ (fun w hw => hd w (by simp [hw])) (by omega)
          rw [hm]; unfold val; rw [List.foldl_cons]
          exact this m' _ (fun w hw => hd w (by rw [hm]; simp [hw])) (by omega)
        rw [← hm]
        rw [val_snoc] at hv ⊢
        obtain ⟨t, ht, hb⟩ := ih m hlm hm0 hd.left (fun h => by rw [hm] at h; exact absurd h hy48) (by omega) (by omega) k (by omega)
        obtain ⟨u, hu, hb2⟩ := one (x - 48) (by omega) (by omega) k (by omega)
        have hq : Int.tdiv (10 * val m + (x - 48)) 10 = val m := by rw [Int.tdiv_eq_ediv_of_nonneg (by omega)]; omega
        have hr : Int.tmod (10 * val m + (x - 48)) 10 = x - 48 := by rw [Int.tmod_eq_emod_of_nonneg (by omega)]; omega
        have e1 : wrap64 (val m) = val m := by unfold wrap64; omega
        have s1 : t.size = n := by rw [b_size, hb, hlm]
        have s2 : u.size = 1 := by rw [b_size, hb2]; rfl
        refine ⟨t ++ u, ?_, ?_⟩
        · rw [dossierref01_Text.f, if_neg (by omega), if_neg (by omega), hq, hr, e1, ht, hu, Option.bind_some, Option.bind_some, if_pos (by omega)]
        · rw [b_append, hb, hb2]; congr 2; omega

/-- The reference's last step: the number's text held against the digits. -/
theorem last_step (s : ByteArray) (hd : Digits (bytesOf s)) (h0 : bytesOf s ≠ []) (hz : (bytesOf s).getD 0 0 = 48 → (bytesOf s).length = 1) (hlen : (bytesOf s).length ≤ 19) (k : Nat) (hk : 30 ≤ k) (x : Int) (hx : x = wrap64 (val (bytesOf s))) :
    ((dossierref01_Text.f k x).bind fun t => (if t.toList = s.toList then (some (x, (0 : Int))) else (some (0, 4)))) = some (endV (val (bytesOf s))) := by
  have hv := val_19 _ hlen hd
  unfold endV
  by_cases h : val (bytesOf s) > 9223372036854775807
  · rw [if_pos h]
    have e : x = val (bytesOf s) - 18446744073709551616 := by rw [hx]; unfold wrap64; omega
    obtain ⟨t, ht, _⟩ := text_total 19 x (by omega) (by have : (10 : Int) ^ 19 = 10000000000000000000 := by decide
                                                        omega) (by have : (10 : Int) ^ 19 = 10000000000000000000 := by decide
                                                                   omega) (by omega) (by omega) k (by omega)
    obtain ⟨u, hu⟩ := text_neg k x t (by omega) (by omega) ht
    rw [ht, Option.bind_some, if_neg]
    rw [toList_iff2, hu]
    intro hc
    have := hd 45 (by rw [← hc]; simp)
    omega
  · rw [if_neg h]
    have e : x = val (bytesOf s) := by rw [hx]; unfold wrap64; omega
    obtain ⟨t, ht, hb⟩ := text_val _ _ rfl h0 hd hz (by omega) (by omega) k (by omega)
    rw [e, ht, Option.bind_some, if_pos ((toList_iff2 _ _).2 hb)]
theorem ref_l1 (s : ByteArray) (hd : Digits (bytesOf s)) (h0 : bytesOf s ≠ []) (hz : (bytesOf s).getD 0 0 = 48 → (bytesOf s).length = 1) (hlen : (bytesOf s).length ≤ 19) : ∀ d i k : Nat, i + d = (bytesOf s).length →
    dossierref01_Number.l1 (k + d + 31) s s (wrap64 (-(val ((bytesOf s).take i)))) ((bytesOf s).length : Int) (i : Int) = some (endV (val (bytesOf s))) := by
  intro d
  induction d with
  | zero =>
    intro i k hi
    rw [show k + 0 + 31 = (k + 30) + 1 from rfl, dossierref01_Number.l1, if_neg (by omega), if_pos rfl, List.take_of_length_le (by omega)]
    exact last_step s hd h0 hz hlen (k + 30) (by omega) _ (by unfold wrap64; omega)
  | succ d ih =>
    intro i k hi
    have hlt : i < (bytesOf s).length := by omega
    have e2 : wrap64 ((i : Int) + 1) = ((i + 1 : Nat) : Int) := by rw [w64' _ (by omega) (by omega)]; omega
    have hx := hd _ (List.getElem_mem hlt)
    have hs := val_take_succ (bytesOf s) i hlt
    rw [show k + (d + 1) + 31 = (k + d + 31) + 1 from by omega, dossierref01_Number.l1, if_pos (by omega), if_pos (by omega), if_pos (by rw [b_size]; omega), bt_at' hlt, e2]
    have e : wrap64 (wrap64 (10 * wrap64 (-(val ((bytesOf s).take i)))) - ((bytesOf s)[i] - 48) % 256) = wrap64 (-(val ((bytesOf s).take (i + 1)))) := by
      rw [hs]; unfold wrap64; omega
    rw [e]
    exact ih (i + 1) k (by omega)
theorem ref_l0 (s : ByteArray) (hd : Digits (bytesOf s)) (h0 : bytesOf s ≠ []) (hz : (bytesOf s).getD 0 0 = 48 → (bytesOf s).length = 1) (hs : (bytesOf s).length ≤ 1000000) : ∀ d i k : Nat, i + d = (bytesOf s).length →
    dossierref01_Number.l0 (k + d + 60) s s ((bytesOf s).length : Int) (i : Int) = some (if 19 < (bytesOf s).length then (0, 4) else endV (val (bytesOf s))) := by
  intro d
  induction d with
  | zero =>
    intro i k hi
    rw [show k + 0 + 60 = (k + 59) + 1 from rfl, dossierref01_Number.l0, if_neg (by omega), b_size]
    by_cases h : 19 < (bytesOf s).length
    · rw [if_pos (by omega), if_pos h]
    · rw [if_neg (by omega), if_neg h]
      have := ref_l1 s hd h0 hz (by omega) _ 0 (k + 28 - (bytesOf s).length) (Nat.zero_add _)
      rw [show k + 28 - (bytesOf s).length + (bytesOf s).length + 31 = k + 59 from by omega] at this
      have e : wrap64 (-(val ((bytesOf s).take 0))) = 0 := by unfold val wrap64; simp
      rw [e] at this
      exact this
  | succ d ih =>
    intro i k hi
    have hlt : i < (bytesOf s).length := by omega
    have e2 : wrap64 ((i : Int) + 1) = ((i + 1 : Nat) : Int) := by rw [w64' _ (by omega) (by omega)]; omega
    have hx := hd _ (List.getElem_mem hlt)
    rw [show k + (d + 1) + 60 = (k + d + 60) + 1 from by omega, dossierref01_Number.l0, if_pos (by omega), if_pos (by omega), if_pos (by rw [b_size]; omega), bt_at' hlt, if_neg (by omega), if_neg (by omega), e2]
    exact ih (i + 1) k (by omega)
theorem ref_number_spec (s : ByteArray) (hd : Digits (bytesOf s)) (h0 : bytesOf s ≠ []) (hs : (bytesOf s).length ≤ 1000000) (k : Nat) (hk : (bytesOf s).length + 70 ≤ k) : dossierref01_Number.f k s = some (numV (bytesOf s)) := by
  have hl : 0 < (bytesOf s).length := List.length_pos_iff.2 h0
  have hb : bt s 0 = (bytesOf s)[0] := bt_at' hl
  have hx := hd _ (List.getElem_mem hl)
  have hg : (bytesOf s).getD 0 0 = (bytesOf s)[0] := by rw [List.getD_eq_getElem?_getD, List.getElem?_eq_getElem hl]; rfl
  obtain ⟨k, rfl⟩ : ∃ m, k = m + (bytesOf s).length + 60 + 3 := ⟨k - (bytesOf s).length - 63, by omega⟩
  unfold dossierref01_Number.f numV
  rw [b_size, hb, hg, if_pos (by omega), if_pos (by omega), show ((bytesOf s)[0] == 45) = false from by simp; omega]
  rw [dossierref01_Number.j0, if_neg (by decide), dossierref01_Number.j1]
  rw [b_size, if_neg (by omega), if_pos (by omega), hb]
  by_cases h1 : (bytesOf s)[0] = 48
  · rw [if_pos h1]
    by_cases h2 : 1 < (bytesOf s).length
    · rw [if_pos ⟨h1, h2⟩, dossierref01_Number.j2, if_pos (by simp; omega)]
    · rw [if_neg (fun x => h2 x.2), dossierref01_Number.j2, if_neg (by simp; omega), b_size]
      exact ref_l0 s hd h0 (fun _ => by omega) hs _ 0 k (Nat.zero_add _)
  · rw [if_neg h1, if_neg (fun x => h1 x.1), dossierref01_Number.j2, if_neg (by decide), b_size]
    exact ref_l0 s hd h0 (fun h => absurd (hg.symm.trans h) h1) hs _ 0 k (Nat.zero_add _)
end Go.Proofs.YtifgpigicgaadaaGreatDoor.Num
end
section
/- Words of texts: what the program and the reference read at the head of a text. -/
set_option linter.unusedSimpArgs false
set_option linter.unusedVariables false
namespace Go.Proofs.YtifgpigicgaadaaGreatDoor.Lex
open Go.RowKit Go.Proofs.YtifgpigicgaadaaGreatDoor.Q Go.Proofs.YtifgpigicgaadaaGreatDoorW.PrintWords Go.Proofs.YtifgpigicgaadaaGreatDoorW.PrintLast Go.Proofs.YtifgpigicgaadaaGreatDoorH Go.Proofs.YtifgpigicgaadaaGreatDoor.Chars Go.Proofs.YtifgpigicgaadaaGreatDoor.Values Go.Proofs.YtifgpigicgaadaaGreatDoor.Bytes Go.Proofs.YtifgpigicgaadaaGreatDoor.Num

/-! ## Good characters -/
inductive Good : List Int → Prop
  | nil : Good []
  | step (l : List Int) : l ≠ [] → (dec l).2 ≠ 0 → xmlC (dec l).1 = true → Good (l.drop (dec l).2.toNat) → Good l
theorem good_iff {l : List Int} (h : l ≠ []) : Good l ↔ (dec l).2 ≠ 0 ∧ xmlC (dec l).1 = true ∧ Good (l.drop (dec l).2.toNat) := by
  constructor
  · intro g
    cases g with
    | nil => exact absurd rfl h
    | step _ _ h1 h2 h3 => exact ⟨h1, h2, h3⟩
  · rintro ⟨h1, h2, h3⟩; exact .step l h h1 h2 h3
theorem good_from (l : List Int) (hl : Bytes l) (hlen : l.length ≤ 1000000000000000000) : ∀ (d : Nat) (at_ : Int), 0 ≤ at_ → at_ ≤ l.length → (l.length : Int) - at_ ≤ d →
    ∃ v : Int, (v < 0 ↔ Good (l.drop at_.toNat)) ∧ ∀ k, d + 30 ≤ k → chars_Wrong.l0 k l at_ = some v := by
  intro d
  induction d with
  | zero =>
    intro at_ h0 h1 hd
    refine ⟨-1, ?_, fun k hk => ?_⟩
    · rw [List.drop_of_length_le (by omega)]; exact ⟨fun _ => .nil, fun _ => by decide⟩
    · obtain ⟨k, rfl⟩ : ∃ m, k = m + 1 := ⟨k - 1, by omega⟩
      rw [chars_Wrong.l0, if_neg (by omega)]
  | succ d ih =>
    intro at_ h0 h1 hd
    by_cases hlt : at_ < (l.length : Int)
    · have hD := dec_two (hl.drop at_.toNat)
      have hdl : ((l.drop at_.toNat).length : Int) = l.length - at_ := by rw [List.length_drop]; omega
      have hne : l.drop at_.toNat ≠ [] := fun h => by rw [h] at hdl; simp at hdl; omega
      rw [good_iff hne]
      by_cases hz : (dec (l.drop at_.toNat)).2 = 0
      · refine ⟨at_, ⟨fun h => by omega, fun h => absurd hz h.1⟩, fun k hk => ?_⟩
        obtain ⟨k, rfl⟩ : ∃ m, k = m + 20 + 1 := ⟨k - 21, by omega⟩
        rw [chars_Wrong.l0]
        simp only [if_pos hlt, if_pos h0, if_pos h1, chars_Decode_spec _ (hl.drop _), Option.bind_some, if_pos hz]
      · by_cases hx : xmlC (dec (l.drop at_.toNat)).1 = true
        · have hw : wrap64 (at_ + (dec (l.drop at_.toNat)).2) = at_ + (dec (l.drop at_.toNat)).2 := by unfold wrap64; omega
          obtain ⟨v, hv, hk⟩ := ih (at_ + (dec (l.drop at_.toNat)).2) (by omega) (by omega) (by omega)
          refine ⟨v, ?_, fun k hk' => ?_⟩
          · rw [hv, List.drop_drop, show at_.toNat + (dec (l.drop at_.toNat)).2.toNat = (at_ + (dec (l.drop at_.toNat)).2).toNat from by omega]
            exact ⟨fun h => ⟨hz, hx, h⟩, fun h => h.2.2⟩
          · obtain ⟨k, rfl⟩ : ∃ m, k = m + 20 + 1 := ⟨k - 21, by omega⟩
            have hk2 := hk (k + 20) (by omega)
            rw [chars_Wrong.l0]
            simp only [if_pos hlt, if_pos h0, if_pos h1, chars_Decode_spec _ (hl.drop _), Option.bind_some, if_neg hz, chars_ofXML_spec (k + 10), if_pos hx, hw]
            exact hk2
        · refine ⟨at_, ⟨fun h => by omega, fun h => absurd h.2.1 hx⟩, fun k hk => ?_⟩
          obtain ⟨k, rfl⟩ : ∃ m, k = m + 20 + 1 := ⟨k - 21, by omega⟩
          rw [chars_Wrong.l0]
          simp only [if_pos hlt, if_pos h0, if_pos h1, chars_Decode_spec _ (hl.drop _), Option.bind_some, if_neg hz, chars_ofXML_spec (k + 10), if_neg hx]
    · have : at_ = l.length := by omega
      refine ⟨-1, ?_, fun k hk => ?_⟩
      · rw [List.drop_of_length_le (by omega)]; exact ⟨fun _ => .nil, fun _ => by decide⟩
      · obtain ⟨k, rfl⟩ : ∃ m, k = m + 1 := ⟨k - 1, by omega⟩
        rw [chars_Wrong.l0, if_neg hlt]
theorem wrong_good (l : List Int) (hl : Bytes l) (hlen : l.length ≤ 1000000) : wrong l < 0 ↔ Good l := by
  obtain ⟨v, hv, h⟩ := good_from l hl (by omega) l.length 0 (by omega) (by omega) (by omega)
  have e := (wrong_spec l hl (by omega) (l.length + 30) (by omega)).1
  unfold chars_Wrong.f at e
  rw [h _ (by omega)] at e
  rw [← Option.some.inj e]
  exact hv

/-! ## A character hangs on its own bytes alone -/
theorem decN_stable (n1 n2 : Nat) (a0 a1 a2 a3 b1 b2 b3 : Int) (c : Int) (h : (decN n1 a0 a1 a2 a3).2 = c) (h0 : c ≠ 0) (e1 : 2 ≤ c → a1 = b1) (e2 : 3 ≤ c → a2 = b2) (e3 : 4 ≤ c → a3 = b3) (hn : c ≤ n2) : decN n2 a0 b1 b2 b3 = decN n1 a0 a1 a2 a3 := by
  subst h
  unfold decN at h0 e1 e2 e3 hn ⊢
  by_cases c1 : a0 < 128
  · simp only [c1, if_true]
  · simp only [c1, if_false] at h0 e1 e2 e3 hn ⊢
    by_cases c2 : 192 ≤ a0 ∧ a0 < 224 ∧ 2 ≤ n1 ∧ 128 ≤ a1 ∧ a1 < 192
    · rw [if_pos c2] at h0 e1 e2 e3 hn ⊢
      by_cases d2 : (a0 - 192) * 64 + (a1 - 128) ≥ 128
      · rw [if_pos d2] at h0 e1 e2 e3 hn ⊢
        have := e1 (by simp)
        subst this
        rw [if_pos ⟨c2.1, c2.2.1, by simp at hn; omega, c2.2.2.2⟩, if_pos d2]
      · rw [if_neg d2] at h0; exact absurd rfl h0
    · rw [if_neg c2] at h0 e1 e2 e3 hn ⊢
      by_cases c3 : 224 ≤ a0 ∧ a0 < 240 ∧ 3 ≤ n1 ∧ (128 ≤ a1 ∧ a1 < 192) ∧ 128 ≤ a2 ∧ a2 < 192
      · rw [if_pos c3] at h0 e1 e2 e3 hn ⊢
        by_cases d3 : 2048 ≤ (a0 - 224) * 4096 + (a1 - 128) * 64 + (a2 - 128) ∧ ((a0 - 224) * 4096 + (a1 - 128) * 64 + (a2 - 128) < 55296 ∨ 57344 ≤ (a0 - 224) * 4096 + (a1 - 128) * 64 + (a2 - 128))
        · rw [if_pos d3] at h0 e1 e2 e3 hn ⊢
          have h1 := e1 (by simp)
          have h2 := e2 (by simp)
          subst h1 h2
          rw [if_neg (fun x => by omega), if_pos ⟨c3.1, c3.2.1, by simp at hn; omega, c3.2.2.2⟩, if_pos d3]
        · rw [if_neg d3] at h0; exact absurd rfl h0
      · rw [if_neg c3] at h0 e1 e2 e3 hn ⊢
        by_cases c4 : 240 ≤ a0 ∧ a0 < 248 ∧ 4 ≤ n1 ∧ (128 ≤ a1 ∧ a1 < 192) ∧ (128 ≤ a2 ∧ a2 < 192) ∧ 128 ≤ a3 ∧ a3 < 192
        · rw [if_pos c4] at h0 e1 e2 e3 hn ⊢
          by_cases d4 : 65536 ≤ (a0 - 240) * 262144 + (a1 - 128) * 4096 + (a2 - 128) * 64 + (a3 - 128) ∧ (a0 - 240) * 262144 + (a1 - 128) * 4096 + (a2 - 128) * 64 + (a3 - 128) ≤ 1114111
          · rw [if_pos d4] at h0 e1 e2 e3 hn ⊢
            have h1 := e1 (by simp)
            have h2 := e2 (by simp)
            have h3 := e3 (by simp)
            subst h1 h2 h3
            rw [if_neg (fun x => by omega), if_neg (fun x => by omega), if_pos ⟨c4.1, c4.2.1, by simp at hn; omega, c4.2.2.2⟩, if_pos d4]
          · rw [if_neg d4] at h0; exact absurd rfl h0
        · rw [if_neg c4] at h0; exact absurd rfl h0
theorem decN_cont (n : Nat) (a0 a1 a2 a3 : Int) : (2 ≤ (decN n a0 a1 a2 a3).2 → 192 ≤ a0 ∧ 128 ≤ a1) ∧ (3 ≤ (decN n a0 a1 a2 a3).2 → 128 ≤ a2) ∧ (4 ≤ (decN n a0 a1 a2 a3).2 → 128 ≤ a3) := by
  unfold decN
  repeat' split
  all_goals (simp only; refine ⟨fun h => ?_, fun h => ?_, fun h => ?_⟩ <;> omega)
theorem getD_take (l m : List Int) (n j : Nat) (h : l.take n = m.take n) (hj : j < n) : l.getD j 0 = m.getD j 0 := by
  have e := congrArg (fun x => x.getD j 0) h
  simp only [List.getD_eq_getElem?_getD, List.getElem?_take, if_pos hj] at e
  simpa [List.getD_eq_getElem?_getD] using e
theorem dec_prefix (l m : List Int) (hm : Bytes m) (h : (dec m).2 ≠ 0) (ht : l.take (dec m).2.toNat = m.take (dec m).2.toNat) : dec l = dec m := by
  have hD := dec_two hm
  have hm0 : m ≠ [] := fun x => h (by rw [x]; rfl)
  have hlen := congrArg List.length ht
  rw [List.length_take, List.length_take] at hlen
  have hl0 : l ≠ [] := fun x => by rw [x] at hlen; simp at hlen; omega
  have e := decN_stable m.length l.length (m.getD 0 0) (m.getD 1 0) (m.getD 2 0) (m.getD 3 0) (l.getD 1 0) (l.getD 2 0) (l.getD 3 0) (dec m).2
    (by unfold dec; rw [if_neg hm0]) h (fun h => (getD_take l m _ 1 ht (by omega)).symm) (fun h => (getD_take l m _ 2 ht (by omega)).symm) (fun h => (getD_take l m _ 3 ht (by omega)).symm) (by omega)
  have e0 := getD_take l m _ 0 ht (by omega)
  unfold dec
  rw [if_neg hl0, if_neg hm0, e0]
  exact e
theorem dec_cont (m : List Int) (hm : Bytes m) (j : Nat) (h1 : 1 ≤ j) (h2 : (j : Int) < (dec m).2) : 128 ≤ m.getD j 0 := by
  have hm0 : m ≠ [] := fun x => by rw [x] at h2; simp [dec] at h2; omega
  have hD := dec_two hm
  unfold dec at h2 hD
  rw [if_neg hm0] at h2 hD
  have := decN_cont m.length (m.getD 0 0) (m.getD 1 0) (m.getD 2 0) (m.getD 3 0)
  have hj : j = 1 ∨ j = 2 ∨ j = 3 := by omega
  rcases hj with rfl | rfl | rfl
  · exact (this.1 (by omega)).2
  · exact this.2.1 (by omega)
  · exact this.2.2 (by omega)
theorem dec_ascii (x : Int) (t : List Int) (h : x < 128) : dec (x :: t) = (x, 1) := by
  unfold dec decN
  rw [if_neg (by simp)]
  simp [h]
end Go.Proofs.YtifgpigicgaadaaGreatDoor.Lex
end
section
namespace Go.Proofs.YtifgpigicgaadaaGreatDoor.Q
open Go.RowKit Go.Proofs.YtifgpigicgaadaaGreatDoorH Go.Proofs.YtifgpigicgaadaaGreatDoorW.PrintWords Go.Proofs.YtifgpigicgaadaaGreatDoorW.PrintLast Go.Proofs.YtifgpigicgaadaaGreatDoorW.PrintMore
attribute [local go_sem] max2_int min2_int max_two min_two max_three min_three max_four min_four
set_option linter.unusedVariables false
set_option linter.unusedSimpArgs false
section
/-! ### lexer_quoted: function 62 -/
mutual
def lexer_quoted.l0 : Nat → ByteArray → List Int → Int → Option (ByteArray × Int)
 | 0,_,_,_ => none
 | k + 1,x0,x4,x5 => if x5 < (x0.size : Int) then (if 0 ≤ x5 then (if (bt x0 x5) = 34 then (if (x4.length : Int) > 256 then (lexer_quoted.j1 k x4 x5 true) else ((chars_Wrong.f k x4).bind fun t363 => (lexer_quoted.j1 k x4 x5 (decide (t363 ≥ 0))))) else (if (bt x0 x5) = 92 then (if (wrap64 (x5 + 1)) = (x0.size : Int) then (some ((⟨#[]⟩ : ByteArray),0)) else (if 0 ≤ (wrap64 (x5 + 1)) then (if (wrap64 (x5 + 1)) < (x0.size : Int) then ((lexer_is.f (bt x0 (wrap64 (x5 + 1))) (⟨#[34,92]⟩ : ByteArray)).bind fun t356 => (if t356 = true then (if x4.length < 140737488355328 then (lexer_quoted.l0 k x0 (x4 ++ [bt x0 (wrap64 (x5 + 1))]) (wrap64 ((wrap64 (x5 + 1)) + 1))) else (none)) else (some ((⟨#[]⟩ : ByteArray),0)))) else (none)) else (none))) else (if x4.length < 140737488355328 then (lexer_quoted.l0 k x0 (x4 ++ [bt x0 x5]) (wrap64 (x5 + 1))) else (none)))) else (none)) else (some ((⟨#[]⟩ : ByteArray),0))
def lexer_quoted.j1 : Nat → List Int → Int → Bool → Option (ByteArray × Int)
 | 0,_,_,_ => none
 | k + 1,x4,x5,x29 => if x29 = true then (some ((⟨#[]⟩ : ByteArray),0)) else (some (strOfNums x4,wrap64 (x5 + 1)))
end
def lexer_quoted.f (k : Nat) (a0 : ByteArray) : Option (ByteArray × Int) := lexer_quoted.l0 k a0 ([] : List Int) 1
theorem lexer_quoted.mono_l : ∀ k,(∀ y0 y1 y2,LeO (lexer_quoted.l0 k y0 y1 y2) (lexer_quoted.l0 (k + 1) y0 y1 y2)) ∧ (∀ y0 y1 y2,LeO (lexer_quoted.j1 k y0 y1 y2) (lexer_quoted.j1 (k + 1) y0 y1 y2))
 | 0 => ⟨fun _ _ _ r h => by simp [lexer_quoted.l0] at h,fun _ _ _ r h => by simp [lexer_quoted.j1] at h⟩
 | k + 1 => by
  obtain ⟨ih0,ih1⟩ := lexer_quoted.mono_l k
  refine ⟨?_,?_⟩
  · intro y0 y1 y2
    unfold lexer_quoted.l0
    repeat' first
    | (with_reducible exact ih0 _ _ _)
    | (with_reducible exact ih1 _ _ _)
    | (with_reducible exact chars_Wrong.mono _ _)
    | (with_reducible exact LeO.refl _)
    | (with_reducible exact LeO.none _)
    | (with_reducible refine LeO.ite ?_ ?_)
    | (with_reducible refine LeO.bind ?_ (fun _ => ?_))
    | exact ih0 _ _ _
    | exact ih1 _ _ _
    | exact chars_Wrong.mono _ _
    | exact LeO.none _
    | refine LeO.ite ?_ ?_
    | refine LeO.bind ?_ (fun _ => ?_)
  · intro y0 y1 y2
    unfold lexer_quoted.j1
    repeat' first
    | (with_reducible exact ih0 _ _ _)
    | (with_reducible exact ih1 _ _ _)
    | (with_reducible exact chars_Wrong.mono _ _)
    | (with_reducible exact LeO.refl _)
    | (with_reducible exact LeO.none _)
    | (with_reducible refine LeO.ite ?_ ?_)
    | (with_reducible refine LeO.bind ?_ (fun _ => ?_))
    | exact ih0 _ _ _
    | exact ih1 _ _ _
    | exact chars_Wrong.mono _ _
    | exact LeO.none _
    | refine LeO.ite ?_ ?_
    | refine LeO.bind ?_ (fun _ => ?_)
theorem lexer_quoted.mono : ∀ a0 k,LeO (lexer_quoted.f k a0) (lexer_quoted.f (k + 1) a0) := by
 intro a0 k
 obtain ⟨ih0,ih1⟩ := lexer_quoted.mono_l k
 unfold lexer_quoted.f
 repeat' first
  | (with_reducible exact ih0 _ _ _)
  | (with_reducible exact ih1 _ _ _)
  | (with_reducible exact chars_Wrong.mono _ _)
  | (with_reducible exact LeO.refl _)
  | (with_reducible exact LeO.none _)
  | (with_reducible refine LeO.ite ?_ ?_)
  | (with_reducible refine LeO.bind ?_ (fun _ => ?_))
  | exact ih0 _ _ _
  | exact ih1 _ _ _
  | exact chars_Wrong.mono _ _
  | exact LeO.none _
  | refine LeO.ite ?_ ?_
  | refine LeO.bind ?_ (fun _ => ?_)
set_option maxHeartbeats 8000000 in
set_option maxRecDepth 100000 in
theorem lexer_quoted.calls (k : Nat) (a0 : ByteArray) (r1 : ByteArray) (r2 : Int) (w : World) (hL_ : Laid w) (h : lexer_quoted.f k a0 = some (r1,r2)) :
 Calls Tryz.prog 62 #[.string a0] w fun e w' => e = .returned (.tuple #[.string r1,.int .i64 r2]) ∧ Below w.heap.size w w' := by
 have HB := Aside0.mk (Below.refl w.heap.size w)
 have HLd := Aside0.mk hL_
 clear hL_
 have H : (lexer_quoted.l0 k a0 ([] : List Int) 1) = some (r1,r2) := h
 clear h
 have H' := Aside0.mk H
 clear H
 go_enter Tryz.func62,Tryz.ntmps62
 go_wp2
 go_loopg [4,5] k (fun kq v4 v5 w' => ∃ (x4_1 : List Int) (x5_1 : Int),v5 = .int .i64 x5_1 ∧ Aside0 (lexer_quoted.l0 kq a0 x4_1 x5_1 = some (r1,r2)) ∧ Aside0 (kq ≤ k) ∧ Aside0 (Kd.R (Kd.int .u8) 5 w' w.heap.size (fun _ => True) v4 x4_1) ∧ Aside0 (Below w.heap.size w w'))
 case atStart => exact ⟨(([] : List Int)),(1),(by first | rfl | (simp; done) | (simp [*]; done)),H',⟨Nat.le_refl _⟩,⟨by first | exact Kd.R_nil _ _ _ _ _ | exact Kd.N_nil _ _ _ _ _ | exact Kd.V_nil _ _ _ _ _ | exact Kd.Q_nil _ _ _ _ _ | exact Kd.S_nil _ _ _ _ _⟩,⟨by repeat (first | (with_reducible first | exact HB.out | apply below_alloc | apply pw_below_drewN | apply below_drew1 | apply bytes_below1) | exact HB.out)⟩⟩
 case round =>
  clear H'
  obtain ⟨x4_1,x5_1,rfl,HA,HK1,HO_4,HB⟩ := hrel
  cases gk with
  | zero => exact absurd HA.out (by simp [lexer_quoted.l0])
  | succ k1 =>
   have H := HA.out
   clear HA
   simp only [lexer_quoted.l0] at H
   by_cases c2 : x5_1 < (a0.size : Int)
   · rw [if_pos c2] at H
     have c2b0 : decide (x5_1 < (a0.size : Int)) = true := decide_eq_true c2
     clear c2
     by_cases c3 : 0 ≤ x5_1
     · rw [if_pos c3] at H
       have c3b0 : decide (0 ≤ x5_1) = true := decide_eq_true c3
       clear c3
       by_cases c5 : (bt a0 x5_1) = 34
       · rw [if_pos c5] at H
         have c5b0 : ((bt a0 x5_1) == 34) = true := beq_iff_eq.mpr c5
         have c5b1 : ((bt a0 x5_1) != 34) = false := bne_eq_false_iff_eq.mpr c5
         clear c5
         have HC6 := Aside0.mk H
         clear H
         have p4 : 0 ≤ (x5_1 : Int) := of_decide_eq_true (by first | (with_reducible assumption) | assumption)
         have q4 : x5_1 < (a0.size : Int) := of_decide_eq_true (by first | (with_reducible assumption) | assumption)
         have hx4 := bt_at a0 x5_1
         replace p4 := eq_true p4
         replace q4 := eq_true q4
         go_upto_region 8 with (fail)
         go_cut [29] (fun v29 wc => ∃ (kq : Nat) (x29_5 : Bool),v29 = .bool x29_5 ∧ Aside0 (lexer_quoted.j1 kq x4_1 x5_1 x29_5 = some (r1,r2)) ∧ Aside0 (kq ≤ k1) ∧ Aside0 (Kd.R (Kd.int .u8) 5 wc w.heap.size (fun _ => True) u4 x4_1) ∧ Aside0 (Below w.heap.size w wc))
         case first =>
          have H := HC6.out
          clear HC6
          by_cases c7 : (x4_1.length : Int) > 256
          · rw [if_pos c7] at H
            have c7b0 : decide (256 < (x4_1.length : Int)) = true := decide_eq_true c7
            have c7b1 : decide (256 < x4_1.length) = true := decide_eq_true (by omega)
            clear c7
            (first | rw [c7b0] | (simp only [i64_w,i32_w]; rw [c7b0]) | skip)
            have H' := Aside0.mk H
            clear H
            obtain ⟨Ao8,co8,eo8⟩ := Kd.R_slice HO_4.out
            subst eo8
            go_wp2
            go_meet
            case rel => exact ⟨_,(true),(by first | rfl | (simp; done) | (simp [*]; done)),H',⟨by have := HK1.out; first | omega | exact Nat.le_refl _⟩,⟨by (with_reducible repeat (first | apply Kd.R_alloc | apply R_bytes | apply Kd.R_drewN | apply Kd.R_drew)); exact HO_4.out⟩,⟨by repeat (first | (with_reducible first | exact HB.out | apply below_alloc | apply pw_below_drewN | apply below_drew1 | apply bytes_below1) | exact HB.out)⟩⟩
          · rw [if_neg c7] at H
            have c7b0 : decide (256 < (x4_1.length : Int)) = false := decide_eq_false c7
            have c7b1 : decide (256 < x4_1.length) = false := decide_eq_false (by omega)
            clear c7
            (first | rw [c7b0] | (simp only [i64_w,i32_w]; rw [c7b0]) | skip)
            replace H := Option.bind_eq_some_iff.mp H
            obtain ⟨t363,A90,H⟩ := H
            replace H : (lexer_quoted.j1 k1 x4_1 x5_1 (decide (t363 ≥ 0))) = some (r1,r2) := H
            have A9 := Aside0.mk A90
            clear A90
            have H' := Aside0.mk H
            clear H
            obtain ⟨Ao10,co10,eo10⟩ := Kd.R_slice HO_4.out
            subst eo10
            go_wp2_with (first | (go_at_call 26; (with_reducible refine (chars_Wrong.calls k1 _ _ x4_1 t363 _ ?side1 ?side2 ?side3 A9.out).mono ?_); (case side1 => repeat (first | exact (Kd.R_reads' HO_4.out).2.2 | (with_reducible refine Kd.C_alloc ?_ _) | (with_reducible refine C_bytes ?_ _ _) | (with_reducible refine Kd.C_drewN ?_ _) | (with_reducible refine Kd.C_drew ?_))); (case side2 => exact (Kd.R_reads' HO_4.out).2.1); (case side3 => exact Laid_below HLd.out (by repeat (first | (with_reducible first | exact HB.out | apply below_alloc | apply pw_below_drewN | apply below_drew1 | apply bytes_below1) | exact HB.out))); rintro e w11 ⟨rfl,hb⟩; have n0_ := Aside0.mk (Kd.R_below (by (with_reducible repeat (first | apply Kd.R_alloc | apply R_bytes | apply Kd.R_drewN | apply Kd.R_drew)); exact HO_4.out) hb); have n1_ := Aside0.mk (below_step (by repeat (first | (with_reducible first | exact HB.out | apply below_alloc | apply pw_below_drewN | apply below_drew1 | apply bytes_below1) | exact HB.out)) hb); clear HO_4; clear HB; have HO_4 := n0_; have HB := n1_; clear n0_ n1_; (try clear hb); (try clear hb2); (try clear hk); (try clear hi)))
            go_meet
            case rel => exact ⟨_,(decide (t363 ≥ 0)),(by first | rfl | (simp; done) | (simp [*]; done)),H',⟨by have := HK1.out; first | omega | exact Nat.le_refl _⟩,⟨by (with_reducible repeat (first | apply Kd.R_alloc | apply R_bytes | apply Kd.R_drewN | apply Kd.R_drew)); exact HO_4.out⟩,⟨by repeat (first | (with_reducible first | exact HB.out | apply below_alloc | apply pw_below_drewN | apply below_drew1 | apply bytes_below1) | exact HB.out)⟩⟩
         case rest =>
          clear HC6
          try clear c2
          try clear c2b0
          try clear p2
          try clear c3
          try clear c3b0
          try clear p4
          try clear q4
          try clear hx4
          try clear c5
          try clear c5b0
          try clear c5b1
          try clear c6
          try clear c7
          try clear c7b0
          try clear c7b1
          try clear p4
          try clear q4
          obtain ⟨kq,x29_5,rfl,HA,HJ5,HO_4,HB⟩ := hcut
          cases kq with
          | zero => exact absurd HA.out (by simp [lexer_quoted.j1])
          | succ kj5 =>
           have H := HA.out
           clear HA
           simp only [lexer_quoted.j1] at H
           by_cases c12 : x29_5 = true
           · subst c12
             have H1 : (some ((⟨#[]⟩ : ByteArray),0)) = some (r1,r2) := by rw [if_pos rfl] at H; exact H
             clear H
             have H := H1
             clear H1
             simp only [Option.some.injEq,Prod.mk.injEq] at H
             obtain ⟨rfl,rfl⟩ := H
             go_wp2
             go_ret2
             exact ⟨by first | rfl | (simp [errW_none,errW_some] <;> rfl) | (simp [*,errW_none,errW_some] <;> rfl),by repeat (first | (with_reducible first | exact HB.out | apply below_alloc | apply pw_below_drewN | apply below_drew1 | apply bytes_below1) | exact HB.out)⟩
           · replace c12 := Bool.eq_false_iff.mpr c12
             subst c12
             have H1 : (some (strOfNums x4_1,wrap64 (x5_1 + 1))) = some (r1,r2) := by rw [if_neg (show ¬ (false = true) by decide)] at H; exact H
             clear H
             have H := H1
             clear H1
             simp only [Option.some.injEq,Prod.mk.injEq] at H
             obtain ⟨rfl,rfl⟩ := H
             have hcv13 := own_string (P := Tryz.prog) Tryz.underlying24 Tryz.underlying5 Tryz.underlying9 (Kd.own_of_R HO_4.out)
             go_wp2
             go_ret2
             exact ⟨by first | rfl | (simp [errW_none,errW_some] <;> rfl) | (simp [*,errW_none,errW_some] <;> rfl),by repeat (first | (with_reducible first | exact HB.out | apply below_alloc | apply pw_below_drewN | apply below_drew1 | apply bytes_below1) | exact HB.out)⟩
       · rw [if_neg c5] at H
         have c5b0 : ((bt a0 x5_1) == 34) = false := beq_eq_false_iff_ne.mpr c5
         have c5b1 : ((bt a0 x5_1) != 34) = true := bne_iff_ne.mpr c5
         by_cases c14 : (bt a0 x5_1) = 92
         · rw [if_pos c14] at H
           have c14b0 : ((bt a0 x5_1) == 92) = true := beq_iff_eq.mpr c14
           have c14b1 : ((bt a0 x5_1) != 92) = false := bne_eq_false_iff_eq.mpr c14
           clear c14
           by_cases c15 : (wrap64 (x5_1 + 1)) = (a0.size : Int)
           · rw [if_pos c15] at H
             have c15b0 : ((wrap64 (x5_1 + 1)) == (a0.size : Int)) = true := beq_iff_eq.mpr c15
             have c15b1 : ((wrap64 (x5_1 + 1)) != (a0.size : Int)) = false := bne_eq_false_iff_eq.mpr c15
             clear c15
             simp only [Option.some.injEq,Prod.mk.injEq] at H
             obtain ⟨rfl,rfl⟩ := H
             have p4 : 0 ≤ (x5_1 : Int) := of_decide_eq_true (by first | (with_reducible assumption) | assumption)
             have q4 : x5_1 < (a0.size : Int) := of_decide_eq_true (by first | (with_reducible assumption) | assumption)
             have hx4 := bt_at a0 x5_1
             replace p4 := eq_true p4
             replace q4 := eq_true q4
             go_wp2
             go_ret2
             exact ⟨by first | rfl | (simp [errW_none,errW_some] <;> rfl) | (simp [*,errW_none,errW_some] <;> rfl),by repeat (first | (with_reducible first | exact HB.out | apply below_alloc | apply pw_below_drewN | apply below_drew1 | apply bytes_below1) | exact HB.out)⟩
           · rw [if_neg c15] at H
             have c15b0 : ((wrap64 (x5_1 + 1)) == (a0.size : Int)) = false := beq_eq_false_iff_ne.mpr c15
             have c15b1 : ((wrap64 (x5_1 + 1)) != (a0.size : Int)) = true := bne_iff_ne.mpr c15
             obtain ⟨ji16,hji16⟩ : ∃ j_ : Int,(wrap64 (x5_1 + 1)) = j_ := ⟨_,rfl⟩
             replace H : (if 0 ≤ (ji16) then (if (ji16) < (a0.size : Int) then ((lexer_is.f (bt a0 (ji16)) (⟨#[34,92]⟩ : ByteArray)).bind fun t356 => (if t356 = true then (if x4_1.length < 140737488355328 then (lexer_quoted.l0 k1 a0 (x4_1 ++ [bt a0 (ji16)]) (wrap64 ((ji16) + 1))) else (none)) else (some ((⟨#[]⟩ : ByteArray),0)))) else (none)) else (none)) = some (r1,r2) := by first | (rw [hji16] at H; exact H) | (simp only [hji16] at H ⊢; exact H)
             (try rw [hji16] at c15b0)
             (try rw [hji16] at c15b1)
             have hji16w : (IntKind.i64.wrap (x5_1 + 1)) = ji16 := (i64_w _).trans hji16
             by_cases c17 : 0 ≤ (ji16)
             · rw [if_pos c17] at H
               have c17b0 : decide (0 ≤ (ji16)) = true := decide_eq_true c17
               clear c17
               by_cases c18 : (ji16) < (a0.size : Int)
               · rw [if_pos c18] at H
                 have c18b0 : decide ((ji16) < (a0.size : Int)) = true := decide_eq_true c18
                 clear c18
                 replace H := Option.bind_eq_some_iff.mp H
                 obtain ⟨t356,A200,H⟩ := H
                 replace H : (if t356 = true then (if x4_1.length < 140737488355328 then (lexer_quoted.l0 k1 a0 (x4_1 ++ [bt a0 (ji16)]) (wrap64 ((ji16) + 1))) else (none)) else (some ((⟨#[]⟩ : ByteArray),0))) = some (r1,r2) := H
                 have A20 := Aside0.mk A200
                 clear A200
                 by_cases c21 : t356 = true
                 · subst c21
                   have H1 : (if x4_1.length < 140737488355328 then (lexer_quoted.l0 k1 a0 (x4_1 ++ [bt a0 (ji16)]) (wrap64 ((ji16) + 1))) else (none)) = some (r1,r2) := by rw [if_pos rfl] at H; exact H
                   clear H
                   have H := H1
                   clear H1
                   by_cases c23 : x4_1.length < 140737488355328
                   · rw [if_pos c23] at H
                     have LMc23 := Aside0.mk c23
                     clear c23
                     obtain ⟨y357,hy357⟩ : ∃ y_ : List Int,y_ = (x4_1 ++ [bt a0 (ji16)]) := ⟨_,rfl⟩
                     replace H : (lexer_quoted.l0 k1 a0 y357 (wrap64 ((ji16) + 1))) = some (r1,r2) := by first | (rw [hy357]; with_reducible exact H) | (have H2_ := (Option.bind_some _ _).symm.trans H; rw [hy357]; with_reducible exact H2_) | (have H2_ := (Option.bind_some _ _).symm.trans H; with_reducible exact H2_) | with_reducible exact H | (rw [hy357]; exact H) | exact H
                     have Ny357 := Aside0.mk hy357
                     clear hy357
                     have H' := Aside0.mk H
                     clear H
                     have p4 : 0 ≤ (x5_1 : Int) := of_decide_eq_true (by first | (with_reducible assumption) | assumption)
                     have q4 : x5_1 < (a0.size : Int) := of_decide_eq_true (by first | (with_reducible assumption) | assumption)
                     have hx4 := bt_at a0 x5_1
                     replace p4 := eq_true p4
                     replace q4 := eq_true q4
                     have p19 : 0 ≤ ((ji16) : Int) := of_decide_eq_true (by first | (with_reducible assumption) | assumption)
                     have q19 : (ji16) < (a0.size : Int) := of_decide_eq_true (by first | (with_reducible assumption) | assumption)
                     have hx19 := bt_at a0 (ji16)
                     replace p19 := eq_true p19
                     replace q19 := eq_true q19
                     go_wp2_with (first | (go_at_call 59; (with_reducible refine (lexer_is.calls (bt a0 (ji16)) (⟨#[34,92]⟩ : ByteArray) true _ A20.out).mono ?_); rintro e w' ⟨rfl,⟨nd,rfl⟩⟩; have p22 : 0 ≤ ((ji16) : Int) := of_decide_eq_true (by first | (with_reducible assumption) | assumption); have q22 : (ji16) < (a0.size : Int) := of_decide_eq_true (by first | (with_reducible assumption) | assumption); have hx22 := bt_at a0 (ji16); replace p22 := eq_true p22; replace q22 := eq_true q22) | ((with_reducible refine gate_builtin (b := .append) (xs := #[.tmp 47,.tmp 51]) rfl ?_); at_builtin; refine Kd.R_append (Kd.int .u8) (w0 := w) w.heap.size rfl (.tmp 47) (.tmp 51) 24 5 (.int .u8 0) 1 rfl Tryz.underlying24 info5 rfl (by decide) (by omega) u4 x4_1 (bt a0 (ji16)) [.int .u8 (bt a0 (ji16))] (fun _ => True) (fun _ => False) rfl rfl ?aP (fun _ hk => hk.elim) ?aF ?aO ?aB ?aS ?aL ?_; (case aP => exact rfl); (case aB => exact (by repeat (first | (with_reducible first | exact HB.out | apply below_alloc | apply pw_below_drewN | apply below_drew1 | apply bytes_below1) | exact HB.out))); (case aF => exact (fun _ _ => trivial)); (case aO => exact (by (with_reducible repeat (first | apply Kd.R_alloc | apply R_bytes | apply Kd.R_drewN | apply Kd.R_drew)); exact HO_4.out)); (case aS => exact (below_size (by repeat (first | (with_reducible first | exact HB.out | apply below_alloc | apply pw_below_drewN | apply below_drew1 | apply bytes_below1) | exact HB.out)))); (case aL => have := LMc23.out; omega); intro v358 w24 ho hb hg hat; rw [← Ny357.out] at ho; have n0_ := Aside0.mk (hb); have n1_ := Aside0.mk (ho); clear HB; clear HO_4; have HB := n0_; have HO359 := n1_; clear n0_ n1_; clear ho hb hg hat))
                     go_roundg k1
                     case measure => have := HK1.out; omega
                     case rel => exact ⟨(y357),(wrap64 ((ji16) + 1)),(by first | rfl | (simp; done) | (simp only [← hji16] <;> (first | rfl | simp)) | (simp [*]; done)),H',⟨by have := HK1.out; omega⟩,⟨by (with_reducible repeat (first | apply Kd.R_alloc | apply R_bytes | apply Kd.R_drewN | apply Kd.R_drew)); exact HO359.out⟩,⟨by repeat (first | (with_reducible first | exact HB.out | apply below_alloc | apply pw_below_drewN | apply below_drew1 | apply bytes_below1) | exact HB.out)⟩⟩
                   · rw [if_neg c23] at H
                     exact absurd H (by simp)
                 · replace c21 := Bool.eq_false_iff.mpr c21
                   subst c21
                   have H1 : (some ((⟨#[]⟩ : ByteArray),0)) = some (r1,r2) := by rw [if_neg (show ¬ (false = true) by decide)] at H; exact H
                   clear H
                   have H := H1
                   clear H1
                   simp only [Option.some.injEq,Prod.mk.injEq] at H
                   obtain ⟨rfl,rfl⟩ := H
                   have p4 : 0 ≤ (x5_1 : Int) := of_decide_eq_true (by first | (with_reducible assumption) | assumption)
                   have q4 : x5_1 < (a0.size : Int) := of_decide_eq_true (by first | (with_reducible assumption) | assumption)
                   have hx4 := bt_at a0 x5_1
                   replace p4 := eq_true p4
                   replace q4 := eq_true q4
                   have p19 : 0 ≤ ((ji16) : Int) := of_decide_eq_true (by first | (with_reducible assumption) | assumption)
                   have q19 : (ji16) < (a0.size : Int) := of_decide_eq_true (by first | (with_reducible assumption) | assumption)
                   have hx19 := bt_at a0 (ji16)
                   replace p19 := eq_true p19
                   replace q19 := eq_true q19
                   go_wp2_with (first | (go_at_call 59; (with_reducible refine (lexer_is.calls (bt a0 (ji16)) (⟨#[34,92]⟩ : ByteArray) false _ A20.out).mono ?_); rintro e w' ⟨rfl,⟨nd,rfl⟩⟩))
                   go_ret2
                   exact ⟨by first | rfl | (simp [errW_none,errW_some] <;> rfl) | (simp only [← hji16]; first | rfl | (simp [errW_none,errW_some] <;> rfl)) | (simp [*,errW_none,errW_some] <;> rfl),by repeat (first | (with_reducible first | exact HB.out | apply below_alloc | apply pw_below_drewN | apply below_drew1 | apply bytes_below1) | exact HB.out)⟩
               · rw [if_neg c18] at H
                 exact absurd H (by simp)
             · rw [if_neg c17] at H
               exact absurd H (by simp)
         · rw [if_neg c14] at H
           have c14b0 : ((bt a0 x5_1) == 92) = false := beq_eq_false_iff_ne.mpr c14
           have c14b1 : ((bt a0 x5_1) != 92) = true := bne_iff_ne.mpr c14
           by_cases c26 : x4_1.length < 140737488355328
           · rw [if_pos c26] at H
             have LMc26 := Aside0.mk c26
             clear c26
             obtain ⟨y360,hy360⟩ : ∃ y_ : List Int,y_ = (x4_1 ++ [bt a0 x5_1]) := ⟨_,rfl⟩
             replace H : (lexer_quoted.l0 k1 a0 y360 (wrap64 (x5_1 + 1))) = some (r1,r2) := by first | (rw [hy360]; with_reducible exact H) | (have H2_ := (Option.bind_some _ _).symm.trans H; rw [hy360]; with_reducible exact H2_) | (have H2_ := (Option.bind_some _ _).symm.trans H; with_reducible exact H2_) | with_reducible exact H | (rw [hy360]; exact H) | exact H
             have Ny360 := Aside0.mk hy360
             clear hy360
             have H' := Aside0.mk H
             clear H
             have p4 : 0 ≤ (x5_1 : Int) := of_decide_eq_true (by first | (with_reducible assumption) | assumption)
             have q4 : x5_1 < (a0.size : Int) := of_decide_eq_true (by first | (with_reducible assumption) | assumption)
             have hx4 := bt_at a0 x5_1
             replace p4 := eq_true p4
             replace q4 := eq_true q4
             have p25 : 0 ≤ (x5_1 : Int) := of_decide_eq_true (by first | (with_reducible assumption) | assumption)
             have q25 : x5_1 < (a0.size : Int) := of_decide_eq_true (by first | (with_reducible assumption) | assumption)
             have hx25 := bt_at a0 x5_1
             replace p25 := eq_true p25
             replace q25 := eq_true q25
             go_wp2_with (first | ((with_reducible refine gate_builtin (b := .append) (xs := #[.tmp 47,.tmp 51]) rfl ?_); at_builtin; refine Kd.R_append (Kd.int .u8) (w0 := w) w.heap.size rfl (.tmp 47) (.tmp 51) 24 5 (.int .u8 0) 1 rfl Tryz.underlying24 info5 rfl (by decide) (by omega) u4 x4_1 (bt a0 x5_1) [.int .u8 (bt a0 x5_1)] (fun _ => True) (fun _ => False) rfl rfl ?aP (fun _ hk => hk.elim) ?aF ?aO ?aB ?aS ?aL ?_; (case aP => exact rfl); (case aB => exact (by repeat (first | (with_reducible first | exact HB.out | apply below_alloc | apply pw_below_drewN | apply below_drew1 | apply bytes_below1) | exact HB.out))); (case aF => exact (fun _ _ => trivial)); (case aO => exact (by (with_reducible repeat (first | apply Kd.R_alloc | apply R_bytes | apply Kd.R_drewN | apply Kd.R_drew)); exact HO_4.out)); (case aS => exact (below_size (by repeat (first | (with_reducible first | exact HB.out | apply below_alloc | apply pw_below_drewN | apply below_drew1 | apply bytes_below1) | exact HB.out)))); (case aL => have := LMc26.out; omega); intro v361 w27 ho hb hg hat; rw [← Ny360.out] at ho; have n0_ := Aside0.mk (hb); have n1_ := Aside0.mk (ho); clear HB; clear HO_4; have HB := n0_; have HO362 := n1_; clear n0_ n1_; clear ho hb hg hat))
             go_roundg k1
             case measure => have := HK1.out; omega
             case rel => exact ⟨(y360),(wrap64 (x5_1 + 1)),(by first | rfl | (simp; done) | (simp [*]; done)),H',⟨by have := HK1.out; omega⟩,⟨by (with_reducible repeat (first | apply Kd.R_alloc | apply R_bytes | apply Kd.R_drewN | apply Kd.R_drew)); exact HO362.out⟩,⟨by repeat (first | (with_reducible first | exact HB.out | apply below_alloc | apply pw_below_drewN | apply below_drew1 | apply bytes_below1) | exact HB.out)⟩⟩
           · rw [if_neg c26] at H
             exact absurd H (by simp)
     · rw [if_neg c3] at H
       exact absurd H (by simp)
   · rw [if_neg c2] at H
     have c2b0 : decide (x5_1 < (a0.size : Int)) = false := decide_eq_false c2
     clear c2
     simp only [Option.some.injEq,Prod.mk.injEq] at H
     obtain ⟨rfl,rfl⟩ := H
     go_wp2
     go_ret2
     exact ⟨by first | rfl | (simp [errW_none,errW_some] <;> rfl) | (simp [*,errW_none,errW_some] <;> rfl),by repeat (first | (with_reducible first | exact HB.out | apply below_alloc | apply pw_below_drewN | apply below_drew1 | apply bytes_below1) | exact HB.out)⟩
end
end Go.Proofs.YtifgpigicgaadaaGreatDoor.Q
end
section
/- Texts between quotes. -/
set_option linter.unusedSimpArgs false
set_option linter.unusedVariables false
namespace Go.Proofs.YtifgpigicgaadaaGreatDoor.Quoted
open Go.RowKit Go.Proofs.YtifgpigicgaadaaGreatDoor.Q Go.Proofs.YtifgpigicgaadaaGreatDoorW.PrintWords Go.Proofs.YtifgpigicgaadaaGreatDoorW.PrintLast Go.Proofs.YtifgpigicgaadaaGreatDoorH Go.Proofs.YtifgpigicgaadaaGreatDoor.Chars Go.Proofs.YtifgpigicgaadaaGreatDoor.Values Go.Proofs.YtifgpigicgaadaaGreatDoor.Bytes Go.Proofs.YtifgpigicgaadaaGreatDoor.Num Go.Proofs.YtifgpigicgaadaaGreatDoor.Lex

/-- What stands up to the closing quote, without its escapes; and how many bytes that is, with the quote. -/
def scan : List Int → Option (List Int × Nat)
  | [] => none
  | [x] => if x = 34 then some ([], 1) else none
  | x :: c :: u =>
    if x = 34 then some ([], 1)
    else if x = 92 then (if c = 34 ∨ c = 92 then (scan u).map fun r => (c :: r.1, r.2 + 2) else none)
    else (scan (c :: u)).map fun r => (x :: r.1, r.2 + 1)
theorem scan_quote (t : List Int) : scan (34 :: t) = some ([], 1) := by cases t <;> simp [scan]
theorem scan_plain (x : Int) (t : List Int) (h1 : x ≠ 34) (h2 : x ≠ 92) : scan (x :: t) = (scan t).map fun r => (x :: r.1, r.2 + 1) := by
  cases t with
  | nil => simp [scan, h1]
  | cons c u => rw [scan, if_neg h1, if_neg h2]
theorem scan_esc (c : Int) (u : List Int) : scan (92 :: c :: u) = if c = 34 ∨ c = 92 then (scan u).map fun r => (c :: r.1, r.2 + 2) else none := by
  rw [scan, if_neg (by decide), if_pos rfl]
theorem scan_end : scan [92] = none := by simp [scan]
theorem scan_bytes : ∀ (n : Nat) (l : List Int), l.length = n → Bytes l → ∀ o m, scan l = some (o, m) → Bytes o ∧ 1 ≤ m ∧ m ≤ l.length ∧ o.length < m := by
  intro n
  induction n using Nat.strongRecOn with
  | ind n ih =>
    intro l hl hb o m h
    match l, hl, hb, h with
    | [], _, _, h => cases h
    | x :: t, hl, hb, h =>
      by_cases h1 : x = 34
      · subst h1; rw [scan_quote] at h; cases h
        exact ⟨fun x hx => absurd hx (by simp), by simp, by simp, by simp⟩
      · by_cases h2 : x = 92
        · subst h2
          match t, hl, hb, h with
          | [], _, _, h => rw [scan_end] at h; cases h
          | c :: u, hl, hb, h =>
            rw [scan_esc] at h
            split at h
            · obtain ⟨⟨o', m'⟩, hs, he⟩ := Option.map_eq_some_iff.1 h
              cases he
              have := ih u.length (by simp at hl; omega) u rfl (fun x hx => hb x (by simp [hx])) o' m' hs
              refine ⟨fun x hx => ?_, by omega, by simp; omega, by simp; omega⟩
              rcases List.mem_cons.1 hx with rfl | hx
              · exact hb _ (by simp)
              · exact this.1 x hx
            · cases h
        · rw [scan_plain x t h1 h2] at h
          obtain ⟨⟨o', m'⟩, hs, he⟩ := Option.map_eq_some_iff.1 h
          cases he
          have := ih t.length (by simp at hl; omega) t rfl (fun x hx => hb x (by simp [hx])) o' m' hs
          refine ⟨fun y hy => ?_, by omega, by simp; omega, by simp; omega⟩
          rcases List.mem_cons.1 hy with rfl | hy
          · exact hb _ (by simp)
          · exact this.1 y hy
theorem scan_skip : ∀ (n : Nat) (l : List Int), n ≤ l.length → (∀ j, j < n → l.getD j 0 ≠ 34 ∧ l.getD j 0 ≠ 92) → scan l = (scan (l.drop n)).map fun r => (l.take n ++ r.1, r.2 + n) := by
  intro n
  induction n with
  | zero => intro l _ _; simp
  | succ n ih =>
    intro l hl h
    match l, hl, h with
    | x :: t, hl, h =>
      have h0 := h 0 (by omega)
      have ht := ih t (by simpa using hl) (fun j hj => by have := h (j + 1) (by omega); simpa using this)
      rw [scan_plain x t (by simpa using h0.1) (by simpa using h0.2), ht, Option.map_map]
      simp only [List.drop_succ_cons, List.take_succ_cons, List.cons_append]
      rfl
theorem scan_same : ∀ (n : Nat) (l o : List Int) (m : Nat), scan l = some (o, m) → n ≤ o.length → (∀ j, j < n → o.getD j 0 ≠ 34 ∧ o.getD j 0 ≠ 92) → l.take n = o.take n := by
  intro n
  induction n with
  | zero => intro l o m _ _ _; simp
  | succ n ih =>
    intro l o m h hn hj
    match l, h with
    | [], h => cases h
    | x :: t, h =>
      by_cases h1 : x = 34
      · subst h1; rw [scan_quote] at h; cases h; simp at hn
      · by_cases h2 : x = 92
        · subst h2
          match t, h with
          | [], h => rw [scan_end] at h; cases h
          | c :: u, h =>
            rw [scan_esc] at h
            split at h
            · rename_i hc
              obtain ⟨⟨o', m'⟩, hs, he⟩ := Option.map_eq_some_iff.1 h
              cases he
              have := hj 0 (by omega)
              simp at this
              omega
            · cases h
        · rw [scan_plain x t h1 h2] at h
          obtain ⟨⟨o', m'⟩, hs, he⟩ := Option.map_eq_some_iff.1 h
          cases he
          rw [List.take_succ_cons, List.take_succ_cons, ih t o' m' hs (by simpa using hn) (fun j hj2 => by have := hj (j + 1) (by omega); simpa using this)]

/-! ## The program's -/
open Classical in
noncomputable def quoE (w : List Int) (e : Int) : ByteArray × Int := if 256 < w.length ∨ ¬ Lex.Good w then (⟨#[]⟩, 0) else (strOfNums w, e)
noncomputable def quoP (out : List Int) (i : Nat) (r : Option (List Int × Nat)) : ByteArray × Int :=
  match r with
  | none => (⟨#[]⟩, 0)
  | some (o, n) => quoE (out ++ o) ((i + n : Nat) : Int)
theorem quoP_map (out : List Int) (i : Nat) (r : Option (List Int × Nat)) (c : Int) (n : Nat) : quoP out i (r.map fun r => (c :: r.1, r.2 + n)) = quoP (out ++ [c]) (i + n) r := by
  cases r with
  | none => rfl
  | some r => simp only [Option.map_some, quoP, List.append_assoc, List.cons_append, List.nil_append, show i + (r.2 + n) = i + n + r.2 from by omega]
theorem quoted_at (s : ByteArray) (hs : (bytesOf s).length ≤ 1000) : ∀ (d i k : Nat) (out : List Int), i + d = (bytesOf s).length → Bytes out → out.length ≤ i →
    lexer_quoted.l0 (k + d + 400) s out (i : Int) = some (quoP out i (scan ((bytesOf s).drop i))) := by
  intro d
  induction d using Nat.strongRecOn with
  | ind d ih =>
    intro i k out hi hb ho
    by_cases hlt : i < (bytesOf s).length
    · have hbx := bytes_of s _ (List.getElem_mem hlt)
      have e2 : wrap64 ((i : Int) + 1) = ((i + 1 : Nat) : Int) := by rw [w64' _ (by omega) (by omega)]; omega
      have e3 : wrap64 (((i + 1 : Nat) : Int) + 1) = ((i + 2 : Nat) : Int) := by rw [w64' _ (by omega) (by omega)]; omega
      obtain ⟨d', rfl⟩ : ∃ d', d = d' + 1 := ⟨d - 1, by omega⟩
      rw [show k + (d' + 1) + 400 = (k + d' + 400) + 1 from by omega, lexer_quoted.l0, b_size, if_pos (by omega), if_pos (by omega), bt_at' hlt, e2, drop_cons hlt]
      by_cases h1 : (bytesOf s)[i] = 34
      · rw [if_pos h1, h1, scan_quote]
        have j : ∀ (b : Bool), lexer_quoted.j1 (k + d' + 400) out (i : Int) b = some (if b = true then (⟨#[]⟩, 0) else (strOfNums out, ((i + 1 : Nat) : Int))) := by
          intro b
          rw [show k + d' + 400 = (k + d' + 399) + 1 from rfl, lexer_quoted.j1, e2]
          cases b <;> rfl
        simp only [quoP, List.append_nil]
        unfold quoE
        by_cases h2 : (out.length : Int) > 256
        · rw [if_pos h2, j, if_pos rfl, if_pos (Or.inl (by omega))]
        · rw [if_neg h2, (wrong_spec out hb (by omega) _ (by omega)).1, Option.bind_some, j]
          have hg := wrong_good out hb (by omega)
          by_cases h3 : Lex.Good out
          · have := hg.2 h3
            rw [if_neg (by simp; omega), if_neg (fun x => x.elim (fun y => by omega) (fun y => y h3))]
          · have : ¬ wrong out < 0 := fun x => h3 (hg.1 x)
            rw [if_pos (by simp; omega), if_pos (Or.inr h3)]
      · rw [if_neg h1]
        by_cases h2 : (bytesOf s)[i] = 92
        · rw [if_pos h2, h2]
          by_cases h3 : i + 1 < (bytesOf s).length
          · have hbx2 := bytes_of s _ (List.getElem_mem h3)
            obtain ⟨d'', rfl⟩ : ∃ d'', d' = d'' + 1 := ⟨d' - 1, by omega⟩
            rw [if_neg (by omega), if_pos (by omega), if_pos (by omega), bt_at' h3, (sets_at _ hbx2).2.2.2, Option.bind_some, drop_cons h3, scan_esc, e3]
            by_cases h4 : (bytesOf s)[i + 1] = 34 ∨ (bytesOf s)[i + 1] = 92
            · rw [if_pos (by simpa using h4), if_pos h4, if_pos (by omega), quoP_map]
              have := ih d'' (by omega) (i + 2) (k + 1) (out ++ [(bytesOf s)[i + 1]]) (by omega) (fun x hx => by
                rcases List.mem_append.1 hx with hx | hx
                · exact hb x hx
                · simp at hx; omega) (by simp; omega)
              rw [show k + 1 + d'' + 400 = k + (d'' + 1) + 400 from by omega] at this
              exact this
            · rw [if_neg (by simpa using h4), if_neg h4]; rfl
          · rw [if_pos (by omega), List.drop_of_length_le (by omega : (bytesOf s).length ≤ i + 1), scan_end]; rfl
        · rw [if_neg h2, if_pos (by omega), scan_plain _ _ h1 h2, quoP_map]
          exact ih d' (by omega) (i + 1) k _ (by omega) (fun x hx => by
            rcases List.mem_append.1 hx with hx | hx
            · exact hb x hx
            · simp at hx; omega) (by simp; omega)
    · rw [show k + d + 400 = (k + d + 399) + 1 from rfl, lexer_quoted.l0, b_size, if_neg (by omega), List.drop_of_length_le (by omega)]; rfl

/-! ## The reference's -/
theorem good_ascii (x : Int) (t : List Int) (h : x < 128) (hx : xmlC x = true) : Lex.Good (x :: t) ↔ Lex.Good t := by
  rw [good_iff (by simp), dec_ascii x t h]
  simp [hx]
theorem ext_all (s : ByteArray) (i : Nat) : bytesOf (s.extract i s.size) = (bytesOf s).drop i := by
  rw [b_extract, List.take_of_length_le]
  rw [List.length_drop, bytesOf_length]; omega
def Told (x5 : ByteArray) (i : Nat) (sc : Option (List Int × Nat)) (r : Int × ByteArray × Int × Int × Bool) : Prop :=
  (∀ o n, sc = some (o, n) → Lex.Good o → r = (3, x5 ++ strOfNums o, 0, ((i + n : Nat) : Int), decide (((x5.size + o.length : Nat) : Int) ≤ 256))) ∧
  ((∀ o n, sc = some (o, n) → ¬ Lex.Good o) → r.2.2.2.2 = false)
theorem str_size (l : List Int) : (strOfNums l).size = l.length := strOfNums_size l
theorem str_append {l m : List Int} (hl : Bytes l) (hm : Bytes m) : strOfNums (l ++ m) = strOfNums l ++ strOfNums m := by
  apply b_inj
  rw [b_append, b_str hl, b_str hm, b_str]
  intro x hx
  rcases List.mem_append.1 hx with hx | hx
  · exact hl x hx
  · exact hm x hx
theorem app_assoc (a b c : ByteArray) : a ++ b ++ c = a ++ (b ++ c) := by
  apply b_inj; simp only [b_append, List.append_assoc]
theorem ext_str (s : ByteArray) (i j : Nat) : s.extract i j = strOfNums (((bytesOf s).drop i).take (j - i)) := by
  apply b_inj
  rw [b_extract, b_str]
  exact ((bytes_of s).drop i).take _
theorem nil_append (s : ByteArray) : (⟨#[]⟩ : ByteArray) ++ s = s := by apply b_inj; rw [b_append]; rfl
/-- The rest told makes the whole told: of 'p' bytes written and 'q' read. -/
theorem Told.front {x5 : ByteArray} {i : Nat} {sc : Option (List Int × Nat)} {r : Int × ByteArray × Int × Int × Bool} (p : List Int) (q : Nat) (hp : Bytes p) (hsc : ∀ o n, sc = some (o, n) → Bytes o) (hg : ∀ o, Lex.Good (p ++ o) ↔ Lex.Good o)
    (h : Told (x5 ++ strOfNums p) (i + q) sc r) : Told x5 i (sc.map fun r => (p ++ r.1, r.2 + q)) r := by
  constructor
  · intro o n ho hgo
    obtain ⟨⟨o', n'⟩, hs, he⟩ := Option.map_eq_some_iff.1 ho
    cases he
    rw [h.1 o' n' hs ((hg o').1 hgo), str_append hp (hsc o' n' hs), app_assoc]
    simp only [Prod.mk.injEq, true_and]
    refine ⟨by omega, ?_⟩
    rw [ByteArray.size_append, str_size, List.length_append, decide_eq_decide]; omega
  · intro hn
    refine h.2 fun o n hs hgo => ?_
    exact hn (p ++ o) (n + q) (by rw [hs]; rfl) ((hg o).2 hgo)
theorem Told.fail {x5 : ByteArray} {i : Nat} {sc : Option (List Int × Nat)} (h : ∀ o n, sc = some (o, n) → ¬ Lex.Good o) : Told x5 i sc (0, ⟨#[]⟩, 0, 0, false) :=
  ⟨fun o n hs hg => absurd hg (h o n hs), fun _ => rfl⟩
theorem good_head (x : Int) (t o : List Int) (m : Nat) (hb : Bytes (x :: t)) (h1 : x ≠ 34) (h2 : x ≠ 92) (h : scan (x :: t) = some (o, m)) (g : Lex.Good o) : dec (x :: t) = dec o ∧ (dec o).2 ≠ 0 ∧ xmlC (dec o).1 = true := by
  have hO := scan_bytes _ _ rfl hb o m h
  have h' := h
  rw [scan_plain x t h1 h2] at h'
  obtain ⟨⟨o', m'⟩, _, he⟩ := Option.map_eq_some_iff.1 h'
  have ho : o = x :: o' := by cases he; rfl
  have hne : o ≠ [] := by rw [ho]; simp
  have hg := (good_iff hne).1 g
  have hD := dec_two hO.1
  refine ⟨dec_prefix _ _ hO.1 hg.1 (scan_same _ _ _ m h (by omega) fun j hj => ?_), hg.1, hg.2.1⟩
  cases j with
  | zero => rw [ho]; exact ⟨h1, h2⟩
  | succ j => have := dec_cont o hO.1 (j + 1) (by omega) (by omega); omega
theorem good_front (L o : List Int) (hb : Bytes L) (hz : (dec L).2 ≠ 0) (hx : xmlC (dec L).1 = true) : Lex.Good (L.take (dec L).2.toNat ++ o) ↔ Lex.Good o := by
  have hD := dec_two hb
  have hl : (L.take (dec L).2.toNat).length = (dec L).2.toNat := by rw [List.length_take]; omega
  have e : dec (L.take (dec L).2.toNat ++ o) = dec L := dec_prefix _ _ hb hz (by rw [List.take_append_of_le_length (by omega), List.take_of_length_le (by omega)])
  have hne : L.take (dec L).2.toNat ++ o ≠ [] := fun h => by
    have := congrArg List.length h
    rw [List.length_append, hl, List.length_nil] at this
    omega
  rw [good_iff hne, e, List.drop_append_of_le_length (by omega), List.drop_of_length_le (by omega)]
  exact ⟨fun h => h.2.2, fun h => ⟨hz, hx, h⟩⟩
set_option maxHeartbeats 1000000 in
theorem text_at (s : ByteArray) (hs : (bytesOf s).length ≤ 1000) : ∀ (d i k : Nat) (x5 : ByteArray), i + d = (bytesOf s).length → x5.size ≤ i →
    ∃ r, dossierref08_text.l0 (k + d + 60) s x5 (i : Int) = some r ∧ Told x5 i (scan ((bytesOf s).drop i)) r := by
  intro d
  induction d using Nat.strongRecOn with
  | ind d ih =>
    intro i k x5 hi ho
    by_cases hlt : i < (bytesOf s).length
    · have hbx := bytes_of s _ (List.getElem_mem hlt)
      have e2 : wrap64 ((i : Int) + 1) = ((i + 1 : Nat) : Int) := by rw [w64' _ (by omega) (by omega)]; omega
      have e3 : wrap64 ((i : Int) + 2) = ((i + 2 : Nat) : Int) := by rw [w64' _ (by omega) (by omega)]; omega
      obtain ⟨d', rfl⟩ : ∃ d', d = d' + 1 := ⟨d - 1, by omega⟩
      have hss := b_size s
      rw [show k + (d' + 1) + 60 = (k + d' + 60) + 1 from by omega, dossierref08_text.l0, if_pos (by omega), if_pos (by omega), bt_at' hlt, e2, e3]
      by_cases h1 : (bytesOf s)[i] = 34
      · rw [if_pos h1, drop_cons hlt, h1, scan_quote]
        refine ⟨_, rfl, fun o n h g => ?_, fun h => absurd .nil (h [] 1 rfl)⟩
        cases h
        have : x5 ++ strOfNums [] = x5 := by apply b_inj; rw [b_append]; exact List.append_nil _
        rw [this]; rfl
      · rw [if_neg h1]
        by_cases h2 : (bytesOf s)[i] = 92
        · rw [if_pos h2]
          by_cases h3 : i + 1 < (bytesOf s).length
          · have hbx2 := bytes_of s _ (List.getElem_mem h3)
            obtain ⟨d'', rfl⟩ : ∃ d'', d' = d'' + 1 := ⟨d' - 1, by omega⟩
            rw [if_neg (by omega), if_pos (by omega), if_pos (by omega), bt_at' h3, drop_cons hlt, h2, drop_cons h3, scan_esc]
            have hx : s.extract (((i + 1 : Nat) : Int)).toNat (((i + 2 : Nat) : Int)).toNat = strOfNums [(bytesOf s)[i + 1]] := by
              rw [ext_str, Int.toNat_natCast, Int.toNat_natCast, drop_cons h3, show i + 2 - (i + 1) = 1 from by omega]; rfl
            have hsz : (strOfNums [(bytesOf s)[i + 1]]).size = 1 := rfl
            obtain ⟨r, hr, ht⟩ := ih d'' (by omega) (i + 2) (k + 1) (x5 ++ strOfNums [(bytesOf s)[i + 1]]) (by omega) (by rw [ByteArray.size_append, hsz]; omega)
            rw [show k + 1 + d'' + 60 = k + (d'' + 1) + 60 from by omega] at hr
            have hcase : (bytesOf s)[i + 1] = 34 ∨ (bytesOf s)[i + 1] = 92 → Told x5 i ((scan ((bytesOf s).drop (i + 1 + 1))).map fun r => ((bytesOf s)[i + 1] :: r.1, r.2 + 2)) r := fun hc =>
              Told.front [(bytesOf s)[i + 1]] 2 (fun x hx => by simp at hx; omega) (fun o n h => (scan_bytes _ _ rfl ((bytes_of s).drop _) o n h).1)
                (fun o => good_ascii _ o (by omega) (by rcases hc with h | h <;> rw [h] <;> decide)) ht
            by_cases h4 : (bytesOf s)[i + 1] = 34
            · refine ⟨r, ?_, ?_⟩
              · rw [if_pos h4, if_pos (by omega), if_pos (by omega), hx, hsz, if_pos (by omega)]; exact hr
              · rw [if_pos (Or.inl h4)]; exact hcase (Or.inl h4)
            · by_cases h5 : (bytesOf s)[i + 1] = 92
              · refine ⟨r, ?_, ?_⟩
                · rw [if_neg h4, if_pos h5, if_pos (by omega), if_pos (by omega), hx, hsz, if_pos (by omega)]; exact hr
                · rw [if_pos (Or.inr h5)]; exact hcase (Or.inr h5)
              · refine ⟨_, by rw [if_neg h4, if_neg h5], ?_⟩
                rw [if_neg (fun x => x.elim h4 h5)]
                exact Told.fail fun o n h => by cases h
          · refine ⟨_, by rw [if_pos (by omega)], ?_⟩
            rw [drop_cons hlt, h2, List.drop_of_length_le (by omega : (bytesOf s).length ≤ i + 1), scan_end]
            exact Told.fail fun o n h => by cases h
        · rw [if_neg h2, if_pos (by omega)]
          have hb := (bytes_of s).drop i
          have hD := dec_two hb
          have hdl : ((bytesOf s).drop i).length = (bytesOf s).length - i := List.length_drop
          have hex : bytesOf (s.extract ((i : Int)).toNat s.size) = (bytesOf s).drop i := by rw [Int.toNat_natCast, ext_all]
          have hexs : (s.extract ((i : Int)).toNat s.size).size < 140737488355328 := by rw [b_size, hex]; omega
          rw [if_pos hexs, hex, show k + d' + 60 = (k + d' + 50) + 10 from rfl, ref_Decode_spec _ _ hb, Option.bind_some]
          have gh := fun o m => good_head (bytesOf s)[i] ((bytesOf s).drop (i + 1)) o m (by rw [← drop_cons hlt]; exact hb) h1 h2
          rw [← drop_cons hlt] at gh
          by_cases hz : (dec ((bytesOf s).drop i)).2 = 0
          · refine ⟨_, by rw [if_pos hz], Told.fail fun o n h g => ?_⟩
            have := gh o n h g
            rw [← this.1] at this
            exact this.2.1 hz
          · rw [if_neg hz, show k + d' + 50 + 10 = (k + d' + 40) + 20 from rfl, ref_OfXML_spec, Option.bind_some]
            by_cases hx : xmlC (dec ((bytesOf s).drop i)).1 = true
            · have ew : wrap64 ((i : Int) + (dec ((bytesOf s).drop i)).2) = ((i + (dec ((bytesOf s).drop i)).2.toNat : Nat) : Int) := by rw [w64' _ (by omega) (by omega)]; omega
              generalize hn : (dec ((bytesOf s).drop i)).2.toNat = n at ew
              have hxx : s.extract ((i : Int)).toNat (((i + n : Nat) : Int)).toNat = strOfNums (((bytesOf s).drop i).take n) := by
                rw [ext_str, Int.toNat_natCast, Int.toNat_natCast, show i + n - i = n from by omega]
              have hsz : (strOfNums (((bytesOf s).drop i).take n)).size = n := by rw [str_size, List.length_take]; omega
              obtain ⟨r, hr, ht⟩ := ih (d' + 1 - n) (by omega) (i + n) (k + n - 1) (x5 ++ strOfNums (((bytesOf s).drop i).take n)) (by omega) (by rw [ByteArray.size_append, hsz]; omega)
              rw [show k + n - 1 + (d' + 1 - n) + 60 = k + d' + 40 + 20 from by omega] at hr
              refine ⟨r, ?_, ?_⟩
              · rw [if_pos hx, ew, if_pos (by omega), if_pos (by omega), hxx, hsz, if_pos (by omega)]; exact hr
              · have hsk := scan_skip n ((bytesOf s).drop i) (by omega) fun j hj => by
                  cases j with
                  | zero => rw [drop_cons hlt]; exact ⟨h1, h2⟩
                  | succ j => have := dec_cont _ hb (j + 1) (by omega) (by omega); omega
                rw [hsk, List.drop_drop]
                exact Told.front _ n (hb.take n) (fun o m h => (scan_bytes _ _ rfl ((bytes_of s).drop _) o m h).1) (fun o => by rw [← hn]; exact good_front _ o hb hz hx) ht
            · refine ⟨_, by rw [if_neg hx], Told.fail fun o n h g => ?_⟩
              have := gh o n h g
              rw [← this.1] at this
              exact hx this.2.2
    · rw [show k + d + 60 = (k + d + 59) + 1 from rfl, dossierref08_text.l0, b_size, if_neg (by omega), List.drop_of_length_le (by omega)]
      exact ⟨_, rfl, Told.fail fun o n h => by cases h⟩
end Go.Proofs.YtifgpigicgaadaaGreatDoor.Quoted
end
section
namespace Go.Proofs.YtifgpigicgaadaaGreatDoor.Q
open Go.RowKit Go.Proofs.YtifgpigicgaadaaGreatDoorH Go.Proofs.YtifgpigicgaadaaGreatDoorW.PrintWords Go.Proofs.YtifgpigicgaadaaGreatDoorW.PrintLast Go.Proofs.YtifgpigicgaadaaGreatDoorW.PrintMore
attribute [local go_sem] max2_int min2_int max_two min_two max_three min_three max_four min_four
set_option linter.unusedVariables false
set_option linter.unusedSimpArgs false
section
/-! ### strings_TrimLeft: function 40 -/
/-- At a cutset of ASCII bytes that is not too long (nothing at another one). -/
def strings_TrimLeft.f (a0 : ByteArray) (a1 : ByteArray) : Option ByteArray := if a1.data.toList.all (fun b => decide (b.toNat < 128)) = true ∧ a1.size < 4294967281 then some ⟨(Lib.trimLeftS a0.data.toList a1.data.toList).toArray⟩ else none
theorem strings_TrimLeft.calls (a0 : ByteArray) (a1 : ByteArray) (r : ByteArray) (w : World) (h : strings_TrimLeft.f a0 a1 = some r) :
 Calls Tryz.prog 40 #[.string a0,.string a1] w fun e w' => e = .returned (.string r) ∧ Below w.heap.size w w' := by
 unfold strings_TrimLeft.f at h
 by_cases hc : a1.data.toList.all (fun b => decide (b.toNat < 128)) = true ∧ a1.size < 4294967281
 · rw [if_pos hc] at h
   obtain rfl := Option.some.inj h
   refine Any.strings_TrimLeft_laid Tryz.layTrimLeft (by kernel_rfl) a0 a1 w hc.2 fun j b hb => ?_
   have := List.all_eq_true.1 hc.1 b (List.mem_of_getElem? hb)
   simpa using this
 · rw [if_neg hc] at h; cases h
end
section
/-! ### lexer_sign: function 63 -/
def lexer_sign.l0 : Nat → ByteArray → Int → Option (ByteArray)
 | 0,_,_ => none
 | k + 1,x0,x3 => if x3 > 0 then (if 0 ≤ x3 then (if x3 ≤ (x0.size : Int) then (if (x0.extract 0 (x3 : Int).toNat).toList = ([60,61] : List UInt8) then (some (x0.extract 0 (x3 : Int).toNat)) else (if (x0.extract 0 (x3 : Int).toNat).toList = ([62,61] : List UInt8) then (some (x0.extract 0 (x3 : Int).toNat)) else (if (x0.extract 0 (x3 : Int).toNat).toList = ([33,61] : List UInt8) then (some (x0.extract 0 (x3 : Int).toNat)) else (if (x0.extract 0 (x3 : Int).toNat).toList = ([40] : List UInt8) then (some (x0.extract 0 (x3 : Int).toNat)) else (if (x0.extract 0 (x3 : Int).toNat).toList = ([41] : List UInt8) then (some (x0.extract 0 (x3 : Int).toNat)) else (if (x0.extract 0 (x3 : Int).toNat).toList = ([46] : List UInt8) then (some (x0.extract 0 (x3 : Int).toNat)) else (if (x0.extract 0 (x3 : Int).toNat).toList = ([44] : List UInt8) then (some (x0.extract 0 (x3 : Int).toNat)) else (if (x0.extract 0 (x3 : Int).toNat).toList = ([43] : List UInt8) then (some (x0.extract 0 (x3 : Int).toNat)) else (if (x0.extract 0 (x3 : Int).toNat).toList = ([45] : List UInt8) then (some (x0.extract 0 (x3 : Int).toNat)) else (if (x0.extract 0 (x3 : Int).toNat).toList = ([42] : List UInt8) then (some (x0.extract 0 (x3 : Int).toNat)) else (if (x0.extract 0 (x3 : Int).toNat).toList = ([47] : List UInt8) then (some (x0.extract 0 (x3 : Int).toNat)) else (if (x0.extract 0 (x3 : Int).toNat).toList = ([37] : List UInt8) then (some (x0.extract 0 (x3 : Int).toNat)) else (if (x0.extract 0 (x3 : Int).toNat).toList = ([60] : List UInt8) then (some (x0.extract 0 (x3 : Int).toNat)) else (if (x0.extract 0 (x3 : Int).toNat).toList = ([62] : List UInt8) then (some (x0.extract 0 (x3 : Int).toNat)) else (if (x0.extract 0 (x3 : Int).toNat).toList = ([61] : List UInt8) then (some (x0.extract 0 (x3 : Int).toNat)) else (lexer_sign.l0 k x0 (wrap64 (x3 - 1)))))))))))))))))) else (none)) else (none)) else (some (⟨#[]⟩ : ByteArray))
def lexer_sign.f (k : Nat) (a0 : ByteArray) : Option (ByteArray) := lexer_sign.l0 k a0 (mn 2 (a0.size : Int))
theorem lexer_sign.mono_l : ∀ k,(∀ y0 y1,LeO (lexer_sign.l0 k y0 y1) (lexer_sign.l0 (k + 1) y0 y1))
 | 0 => fun _ _ r h => by simp [lexer_sign.l0] at h
 | k + 1 => by
  have ih0 := lexer_sign.mono_l k
  · intro y0 y1
    unfold lexer_sign.l0
    repeat' first
    | (with_reducible exact ih0 _ _)
    | (with_reducible exact LeO.refl _)
    | (with_reducible exact LeO.none _)
    | (with_reducible refine LeO.ite ?_ ?_)
    | (with_reducible refine LeO.bind ?_ (fun _ => ?_))
    | exact ih0 _ _
    | exact LeO.none _
    | refine LeO.ite ?_ ?_
    | refine LeO.bind ?_ (fun _ => ?_)
theorem lexer_sign.mono : ∀ a0 k,LeO (lexer_sign.f k a0) (lexer_sign.f (k + 1) a0) := by
 intro a0 k
 have ih0 := lexer_sign.mono_l k
 unfold lexer_sign.f
 repeat' first
  | (with_reducible exact ih0 _ _)
  | (with_reducible exact LeO.refl _)
  | (with_reducible exact LeO.none _)
  | (with_reducible refine LeO.ite ?_ ?_)
  | (with_reducible refine LeO.bind ?_ (fun _ => ?_))
  | exact ih0 _ _
  | exact LeO.none _
  | refine LeO.ite ?_ ?_
  | refine LeO.bind ?_ (fun _ => ?_)
set_option maxHeartbeats 8000000 in
set_option maxRecDepth 100000 in
theorem lexer_sign.calls (k : Nat) (a0 : ByteArray) (r : ByteArray) (w : World) (h : lexer_sign.f k a0 = some r) :
 Calls Tryz.prog 63 #[.string a0] w fun e w' => e = .returned (.string r) ∧ Below w.heap.size w w' := by
 have HB := Aside0.mk (Below.refl w.heap.size w)
 have H : (lexer_sign.l0 k a0 (mn 2 (a0.size : Int))) = some r := h
 clear h
 obtain ⟨ji2,hji2⟩ : ∃ j_ : Int,(mn 2 (a0.size : Int)) = j_ := ⟨_,rfl⟩
 replace H : (lexer_sign.l0 k a0 ji2) = some r := by first | (rw [hji2] at H; exact H) | (simp only [hji2] at H ⊢; exact H)
 (try (have hji2h : ji2 ≤ 2 := by (rw [← hji2]; unfold mn; (repeat' split) <;> omega)))
 (try (have hji2g : ji2 ≤ 64 := by omega))
 (try (have hji2l : 0 ≤ ji2 := by (rw [← hji2]; unfold mn; (repeat' split) <;> omega)))
 (try (have hji2m : 0 ≤ ji2 := by omega))
 have hji2_ : (if (a0.size : Int) < 2 then (a0.size : Int) else 2) = ji2 := hji2
 have H' := Aside0.mk H
 clear H
 go_enter Tryz.func63,Tryz.ntmps63
 go_wp2
 go_loopg [3] k (fun kq v3 w' => ∃ (x3_1 : Int),v3 = .int .i64 x3_1 ∧ Aside0 (lexer_sign.l0 kq a0 x3_1 = some r) ∧ Aside0 (kq ≤ k) ∧ Aside0 (Below w.heap.size w w'))
 case atStart => exact ⟨(ji2),(by first | rfl | (simp; done) | (simp only [← hji2] <;> (first | rfl | simp)) | (simp [*]; done)),H',⟨Nat.le_refl _⟩,⟨by repeat (first | (with_reducible first | exact HB.out | apply below_alloc | apply pw_below_drewN | apply below_drew1 | apply bytes_below1) | exact HB.out)⟩⟩
 case round =>
  clear H'
  try clear p2
  obtain ⟨x3_1,rfl,HA,HK1,HB⟩ := hrel
  cases gk with
  | zero => exact absurd HA.out (by simp [lexer_sign.l0])
  | succ k1 =>
   have H := HA.out
   clear HA
   simp only [lexer_sign.l0] at H
   by_cases c3 : x3_1 > 0
   · rw [if_pos c3] at H
     have c3b0 : decide (0 < x3_1) = true := decide_eq_true c3
     clear c3
     by_cases c4 : 0 ≤ x3_1
     · rw [if_pos c4] at H
       have c4b0 := eq_true c4
       have c4b1 : decide (0 ≤ x3_1) = true := decide_eq_true c4
       clear c4
       by_cases c5 : x3_1 ≤ (a0.size : Int)
       · rw [if_pos c5] at H
         have c5b0 := eq_true c5
         have c5b1 : decide (x3_1 ≤ (a0.size : Int)) = true := decide_eq_true c5
         clear c5
         by_cases c6 : (a0.extract 0 (x3_1 : Int).toNat).toList = ([60,61] : List UInt8)
         · rw [if_pos c6] at H
           have c6b0 : ((a0.extract 0 (x3_1 : Int).toNat).toList == ([60,61] : List UInt8)) = true := beq_iff_eq.mpr c6
           have c6b1 : ((a0.extract 0 (x3_1 : Int).toNat).toList != ([60,61] : List UInt8)) = false := bne_eq_false_iff_eq.mpr c6
           clear c6
           have c7b0 := eq_true (of_decide_eq_true (by first | (with_reducible assumption) | assumption) : 0 ≤ x3_1)
           have c8b0 := eq_true (of_decide_eq_true (by first | (with_reducible assumption) | assumption) : x3_1 ≤ (a0.size : Int))
           obtain rfl := Option.some.inj H
           go_wp2
           go_ret
           exact ⟨by first | rfl | (simp [errW_none,errW_some] <;> rfl) | (simp only [← hji2]; first | rfl | (simp [errW_none,errW_some] <;> rfl)) | (simp [*,errW_none,errW_some] <;> rfl),by repeat (first | (with_reducible first | exact HB.out | apply below_alloc | apply pw_below_drewN | apply below_drew1 | apply bytes_below1) | exact HB.out)⟩
         · rw [if_neg c6] at H
           have c6b0 : ((a0.extract 0 (x3_1 : Int).toNat).toList == ([60,61] : List UInt8)) = false := beq_eq_false_iff_ne.mpr c6
           have c6b1 : ((a0.extract 0 (x3_1 : Int).toNat).toList != ([60,61] : List UInt8)) = true := bne_iff_ne.mpr c6
           by_cases c9 : (a0.extract 0 (x3_1 : Int).toNat).toList = ([62,61] : List UInt8)
           · rw [if_pos c9] at H
             have c9b0 : ((a0.extract 0 (x3_1 : Int).toNat).toList == ([62,61] : List UInt8)) = true := beq_iff_eq.mpr c9
             have c9b1 : ((a0.extract 0 (x3_1 : Int).toNat).toList != ([62,61] : List UInt8)) = false := bne_eq_false_iff_eq.mpr c9
             clear c9
             have c10b0 := eq_true (of_decide_eq_true (by first | (with_reducible assumption) | assumption) : 0 ≤ x3_1)
             have c11b0 := eq_true (of_decide_eq_true (by first | (with_reducible assumption) | assumption) : x3_1 ≤ (a0.size : Int))
             obtain rfl := Option.some.inj H
             go_wp2
             go_ret
             exact ⟨by first | rfl | (simp [errW_none,errW_some] <;> rfl) | (simp only [← hji2]; first | rfl | (simp [errW_none,errW_some] <;> rfl)) | (simp [*,errW_none,errW_some] <;> rfl),by repeat (first | (with_reducible first | exact HB.out | apply below_alloc | apply pw_below_drewN | apply below_drew1 | apply bytes_below1) | exact HB.out)⟩
           · rw [if_neg c9] at H
             have c9b0 : ((a0.extract 0 (x3_1 : Int).toNat).toList == ([62,61] : List UInt8)) = false := beq_eq_false_iff_ne.mpr c9
             have c9b1 : ((a0.extract 0 (x3_1 : Int).toNat).toList != ([62,61] : List UInt8)) = true := bne_iff_ne.mpr c9
             by_cases c12 : (a0.extract 0 (x3_1 : Int).toNat).toList = ([33,61] : List UInt8)
             · rw [if_pos c12] at H
               have c12b0 : ((a0.extract 0 (x3_1 : Int).toNat).toList == ([33,61] : List UInt8)) = true := beq_iff_eq.mpr c12
               have c12b1 : ((a0.extract 0 (x3_1 : Int).toNat).toList != ([33,61] : List UInt8)) = false := bne_eq_false_iff_eq.mpr c12
               clear c12
               have c13b0 := eq_true (of_decide_eq_true (by first | (with_reducible assumption) | assumption) : 0 ≤ x3_1)
               have c14b0 := eq_true (of_decide_eq_true (by first | (with_reducible assumption) | assumption) : x3_1 ≤ (a0.size : Int))
               obtain rfl := Option.some.inj H
               go_wp2
               go_ret
               exact ⟨by first | rfl | (simp [errW_none,errW_some] <;> rfl) | (simp only [← hji2]; first | rfl | (simp [errW_none,errW_some] <;> rfl)) | (simp [*,errW_none,errW_some] <;> rfl),by repeat (first | (with_reducible first | exact HB.out | apply below_alloc | apply pw_below_drewN | apply below_drew1 | apply bytes_below1) | exact HB.out)⟩
             · rw [if_neg c12] at H
               have c12b0 : ((a0.extract 0 (x3_1 : Int).toNat).toList == ([33,61] : List UInt8)) = false := beq_eq_false_iff_ne.mpr c12
               have c12b1 : ((a0.extract 0 (x3_1 : Int).toNat).toList != ([33,61] : List UInt8)) = true := bne_iff_ne.mpr c12
               by_cases c15 : (a0.extract 0 (x3_1 : Int).toNat).toList = ([40] : List UInt8)
               · rw [if_pos c15] at H
                 have c15b0 : ((a0.extract 0 (x3_1 : Int).toNat).toList == ([40] : List UInt8)) = true := beq_iff_eq.mpr c15
                 have c15b1 : ((a0.extract 0 (x3_1 : Int).toNat).toList != ([40] : List UInt8)) = false := bne_eq_false_iff_eq.mpr c15
                 clear c15
                 have c16b0 := eq_true (of_decide_eq_true (by first | (with_reducible assumption) | assumption) : 0 ≤ x3_1)
                 have c17b0 := eq_true (of_decide_eq_true (by first | (with_reducible assumption) | assumption) : x3_1 ≤ (a0.size : Int))
                 obtain rfl := Option.some.inj H
                 go_wp2
                 go_ret
                 exact ⟨by first | rfl | (simp [errW_none,errW_some] <;> rfl) | (simp only [← hji2]; first | rfl | (simp [errW_none,errW_some] <;> rfl)) | (simp [*,errW_none,errW_some] <;> rfl),by repeat (first | (with_reducible first | exact HB.out | apply below_alloc | apply pw_below_drewN | apply below_drew1 | apply bytes_below1) | exact HB.out)⟩
               · rw [if_neg c15] at H
                 have c15b0 : ((a0.extract 0 (x3_1 : Int).toNat).toList == ([40] : List UInt8)) = false := beq_eq_false_iff_ne.mpr c15
                 have c15b1 : ((a0.extract 0 (x3_1 : Int).toNat).toList != ([40] : List UInt8)) = true := bne_iff_ne.mpr c15
                 by_cases c18 : (a0.extract 0 (x3_1 : Int).toNat).toList = ([41] : List UInt8)
                 · rw [if_pos c18] at H
                   have c18b0 : ((a0.extract 0 (x3_1 : Int).toNat).toList == ([41] : List UInt8)) = true := beq_iff_eq.mpr c18
                   have c18b1 : ((a0.extract 0 (x3_1 : Int).toNat).toList != ([41] : List UInt8)) = false := bne_eq_false_iff_eq.mpr c18
                   clear c18
                   have c19b0 := eq_true (of_decide_eq_true (by first | (with_reducible assumption) | assumption) : 0 ≤ x3_1)
                   have c20b0 := eq_true (of_decide_eq_true (by first | (with_reducible assumption) | assumption) : x3_1 ≤ (a0.size : Int))
                   obtain rfl := Option.some.inj H
                   go_wp2
                   go_ret
                   exact ⟨by first | rfl | (simp [errW_none,errW_some] <;> rfl) | (simp only [← hji2]; first | rfl | (simp [errW_none,errW_some] <;> rfl)) | (simp [*,errW_none,errW_some] <;> rfl),by repeat (first | (with_reducible first | exact HB.out | apply below_alloc | apply pw_below_drewN | apply below_drew1 | apply bytes_below1) | exact HB.out)⟩
                 · rw [if_neg c18] at H
                   have c18b0 : ((a0.extract 0 (x3_1 : Int).toNat).toList == ([41] : List UInt8)) = false := beq_eq_false_iff_ne.mpr c18
                   have c18b1 : ((a0.extract 0 (x3_1 : Int).toNat).toList != ([41] : List UInt8)) = true := bne_iff_ne.mpr c18
                   by_cases c21 : (a0.extract 0 (x3_1 : Int).toNat).toList = ([46] : List UInt8)
                   · rw [if_pos c21] at H
                     have c21b0 : ((a0.extract 0 (x3_1 : Int).toNat).toList == ([46] : List UInt8)) = true := beq_iff_eq.mpr c21
                     have c21b1 : ((a0.extract 0 (x3_1 : Int).toNat).toList != ([46] : List UInt8)) = false := bne_eq_false_iff_eq.mpr c21
                     clear c21
                     have c22b0 := eq_true (of_decide_eq_true (by first | (with_reducible assumption) | assumption) : 0 ≤ x3_1)
                     have c23b0 := eq_true (of_decide_eq_true (by first | (with_reducible assumption) | assumption) : x3_1 ≤ (a0.size : Int))
                     obtain rfl := Option.some.inj H
                     go_wp2
                     go_ret
                     exact ⟨by first | rfl | (simp [errW_none,errW_some] <;> rfl) | (simp only [← hji2]; first | rfl | (simp [errW_none,errW_some] <;> rfl)) | (simp [*,errW_none,errW_some] <;> rfl),by repeat (first | (with_reducible first | exact HB.out | apply below_alloc | apply pw_below_drewN | apply below_drew1 | apply bytes_below1) | exact HB.out)⟩
                   · rw [if_neg c21] at H
                     have c21b0 : ((a0.extract 0 (x3_1 : Int).toNat).toList == ([46] : List UInt8)) = false := beq_eq_false_iff_ne.mpr c21
                     have c21b1 : ((a0.extract 0 (x3_1 : Int).toNat).toList != ([46] : List UInt8)) = true := bne_iff_ne.mpr c21
                     by_cases c24 : (a0.extract 0 (x3_1 : Int).toNat).toList = ([44] : List UInt8)
                     · rw [if_pos c24] at H
                       have c24b0 : ((a0.extract 0 (x3_1 : Int).toNat).toList == ([44] : List UInt8)) = true := beq_iff_eq.mpr c24
                       have c24b1 : ((a0.extract 0 (x3_1 : Int).toNat).toList != ([44] : List UInt8)) = false := bne_eq_false_iff_eq.mpr c24
                       clear c24
                       have c25b0 := eq_true (of_decide_eq_true (by first | (with_reducible assumption) | assumption) : 0 ≤ x3_1)
                       have c26b0 := eq_true (of_decide_eq_true (by first | (with_reducible assumption) | assumption) : x3_1 ≤ (a0.size : Int))
                       obtain rfl := Option.some.inj H
                       go_wp2
                       go_ret
                       exact ⟨by first | rfl | (simp [errW_none,errW_some] <;> rfl) | (simp only [← hji2]; first | rfl | (simp [errW_none,errW_some] <;> rfl)) | (simp [*,errW_none,errW_some] <;> rfl),by repeat (first | (with_reducible first | exact HB.out | apply below_alloc | apply pw_below_drewN | apply below_drew1 | apply bytes_below1) | exact HB.out)⟩
                     · rw [if_neg c24] at H
                       have c24b0 : ((a0.extract 0 (x3_1 : Int).toNat).toList == ([44] : List UInt8)) = false := beq_eq_false_iff_ne.mpr c24
                       have c24b1 : ((a0.extract 0 (x3_1 : Int).toNat).toList != ([44] : List UInt8)) = true := bne_iff_ne.mpr c24
                       by_cases c27 : (a0.extract 0 (x3_1 : Int).toNat).toList = ([43] : List UInt8)
                       · rw [if_pos c27] at H
                         have c27b0 : ((a0.extract 0 (x3_1 : Int).toNat).toList == ([43] : List UInt8)) = true := beq_iff_eq.mpr c27
                         have c27b1 : ((a0.extract 0 (x3_1 : Int).toNat).toList != ([43] : List UInt8)) = false := bne_eq_false_iff_eq.mpr c27
                         clear c27
                         have c28b0 := eq_true (of_decide_eq_true (by first | (with_reducible assumption) | assumption) : 0 ≤ x3_1)
                         have c29b0 := eq_true (of_decide_eq_true (by first | (with_reducible assumption) | assumption) : x3_1 ≤ (a0.size : Int))
                         obtain rfl := Option.some.inj H
                         go_wp2
                         go_ret
                         exact ⟨by first | rfl | (simp [errW_none,errW_some] <;> rfl) | (simp only [← hji2]; first | rfl | (simp [errW_none,errW_some] <;> rfl)) | (simp [*,errW_none,errW_some] <;> rfl),by repeat (first | (with_reducible first | exact HB.out | apply below_alloc | apply pw_below_drewN | apply below_drew1 | apply bytes_below1) | exact HB.out)⟩
                       · rw [if_neg c27] at H
                         have c27b0 : ((a0.extract 0 (x3_1 : Int).toNat).toList == ([43] : List UInt8)) = false := beq_eq_false_iff_ne.mpr c27
                         have c27b1 : ((a0.extract 0 (x3_1 : Int).toNat).toList != ([43] : List UInt8)) = true := bne_iff_ne.mpr c27
                         by_cases c30 : (a0.extract 0 (x3_1 : Int).toNat).toList = ([45] : List UInt8)
                         · rw [if_pos c30] at H
                           have c30b0 : ((a0.extract 0 (x3_1 : Int).toNat).toList == ([45] : List UInt8)) = true := beq_iff_eq.mpr c30
                           have c30b1 : ((a0.extract 0 (x3_1 : Int).toNat).toList != ([45] : List UInt8)) = false := bne_eq_false_iff_eq.mpr c30
                           clear c30
                           have c31b0 := eq_true (of_decide_eq_true (by first | (with_reducible assumption) | assumption) : 0 ≤ x3_1)
                           have c32b0 := eq_true (of_decide_eq_true (by first | (with_reducible assumption) | assumption) : x3_1 ≤ (a0.size : Int))
                           obtain rfl := Option.some.inj H
                           go_wp2
                           go_ret
                           exact ⟨by first | rfl | (simp [errW_none,errW_some] <;> rfl) | (simp only [← hji2]; first | rfl | (simp [errW_none,errW_some] <;> rfl)) | (simp [*,errW_none,errW_some] <;> rfl),by repeat (first | (with_reducible first | exact HB.out | apply below_alloc | apply pw_below_drewN | apply below_drew1 | apply bytes_below1) | exact HB.out)⟩
                         · rw [if_neg c30] at H
                           have c30b0 : ((a0.extract 0 (x3_1 : Int).toNat).toList == ([45] : List UInt8)) = false := beq_eq_false_iff_ne.mpr c30
                           have c30b1 : ((a0.extract 0 (x3_1 : Int).toNat).toList != ([45] : List UInt8)) = true := bne_iff_ne.mpr c30
                           by_cases c33 : (a0.extract 0 (x3_1 : Int).toNat).toList = ([42] : List UInt8)
                           · rw [if_pos c33] at H
                             have c33b0 : ((a0.extract 0 (x3_1 : Int).toNat).toList == ([42] : List UInt8)) = true := beq_iff_eq.mpr c33
                             have c33b1 : ((a0.extract 0 (x3_1 : Int).toNat).toList != ([42] : List UInt8)) = false := bne_eq_false_iff_eq.mpr c33
                             clear c33
                             have c34b0 := eq_true (of_decide_eq_true (by first | (with_reducible assumption) | assumption) : 0 ≤ x3_1)
                             have c35b0 := eq_true (of_decide_eq_true (by first | (with_reducible assumption) | assumption) : x3_1 ≤ (a0.size : Int))
                             obtain rfl := Option.some.inj H
                             go_wp2
                             go_ret
                             exact ⟨by first | rfl | (simp [errW_none,errW_some] <;> rfl) | (simp only [← hji2]; first | rfl | (simp [errW_none,errW_some] <;> rfl)) | (simp [*,errW_none,errW_some] <;> rfl),by repeat (first | (with_reducible first | exact HB.out | apply below_alloc | apply pw_below_drewN | apply below_drew1 | apply bytes_below1) | exact HB.out)⟩
                           · rw [if_neg c33] at H
                             have c33b0 : ((a0.extract 0 (x3_1 : Int).toNat).toList == ([42] : List UInt8)) = false := beq_eq_false_iff_ne.mpr c33
                             have c33b1 : ((a0.extract 0 (x3_1 : Int).toNat).toList != ([42] : List UInt8)) = true := bne_iff_ne.mpr c33
                             by_cases c36 : (a0.extract 0 (x3_1 : Int).toNat).toList = ([47] : List UInt8)
                             · rw [if_pos c36] at H
                               have c36b0 : ((a0.extract 0 (x3_1 : Int).toNat).toList == ([47] : List UInt8)) = true := beq_iff_eq.mpr c36
                               have c36b1 : ((a0.extract 0 (x3_1 : Int).toNat).toList != ([47] : List UInt8)) = false := bne_eq_false_iff_eq.mpr c36
                               clear c36
                               have c37b0 := eq_true (of_decide_eq_true (by first | (with_reducible assumption) | assumption) : 0 ≤ x3_1)
                               have c38b0 := eq_true (of_decide_eq_true (by first | (with_reducible assumption) | assumption) : x3_1 ≤ (a0.size : Int))
                               obtain rfl := Option.some.inj H
                               go_wp2
                               go_ret
                               exact ⟨by first | rfl | (simp [errW_none,errW_some] <;> rfl) | (simp only [← hji2]; first | rfl | (simp [errW_none,errW_some] <;> rfl)) | (simp [*,errW_none,errW_some] <;> rfl),by repeat (first | (with_reducible first | exact HB.out | apply below_alloc | apply pw_below_drewN | apply below_drew1 | apply bytes_below1) | exact HB.out)⟩
                             · rw [if_neg c36] at H
                               have c36b0 : ((a0.extract 0 (x3_1 : Int).toNat).toList == ([47] : List UInt8)) = false := beq_eq_false_iff_ne.mpr c36
                               have c36b1 : ((a0.extract 0 (x3_1 : Int).toNat).toList != ([47] : List UInt8)) = true := bne_iff_ne.mpr c36
                               by_cases c39 : (a0.extract 0 (x3_1 : Int).toNat).toList = ([37] : List UInt8)
                               · rw [if_pos c39] at H
                                 have c39b0 : ((a0.extract 0 (x3_1 : Int).toNat).toList == ([37] : List UInt8)) = true := beq_iff_eq.mpr c39
                                 have c39b1 : ((a0.extract 0 (x3_1 : Int).toNat).toList != ([37] : List UInt8)) = false := bne_eq_false_iff_eq.mpr c39
                                 clear c39
                                 have c40b0 := eq_true (of_decide_eq_true (by first | (with_reducible assumption) | assumption) : 0 ≤ x3_1)
                                 have c41b0 := eq_true (of_decide_eq_true (by first | (with_reducible assumption) | assumption) : x3_1 ≤ (a0.size : Int))
                                 obtain rfl := Option.some.inj H
                                 go_wp2
                                 go_ret
                                 exact ⟨by first | rfl | (simp [errW_none,errW_some] <;> rfl) | (simp only [← hji2]; first | rfl | (simp [errW_none,errW_some] <;> rfl)) | (simp [*,errW_none,errW_some] <;> rfl),by repeat (first | (with_reducible first | exact HB.out | apply below_alloc | apply pw_below_drewN | apply below_drew1 | apply bytes_below1) | exact HB.out)⟩
                               · rw [if_neg c39] at H
                                 have c39b0 : ((a0.extract 0 (x3_1 : Int).toNat).toList == ([37] : List UInt8)) = false := beq_eq_false_iff_ne.mpr c39
                                 have c39b1 : ((a0.extract 0 (x3_1 : Int).toNat).toList != ([37] : List UInt8)) = true := bne_iff_ne.mpr c39
                                 by_cases c42 : (a0.extract 0 (x3_1 : Int).toNat).toList = ([60] : List UInt8)
                                 · rw [if_pos c42] at H
                                   have c42b0 : ((a0.extract 0 (x3_1 : Int).toNat).toList == ([60] : List UInt8)) = true := beq_iff_eq.mpr c42
                                   have c42b1 : ((a0.extract 0 (x3_1 : Int).toNat).toList != ([60] : List UInt8)) = false := bne_eq_false_iff_eq.mpr c42
                                   clear c42
                                   have c43b0 := eq_true (of_decide_eq_true (by first | (with_reducible assumption) | assumption) : 0 ≤ x3_1)
                                   have c44b0 := eq_true (of_decide_eq_true (by first | (with_reducible assumption) | assumption) : x3_1 ≤ (a0.size : Int))
                                   obtain rfl := Option.some.inj H
                                   go_wp2
                                   go_ret
                                   exact ⟨by first | rfl | (simp [errW_none,errW_some] <;> rfl) | (simp only [← hji2]; first | rfl | (simp [errW_none,errW_some] <;> rfl)) | (simp [*,errW_none,errW_some] <;> rfl),by repeat (first | (with_reducible first | exact HB.out | apply below_alloc | apply pw_below_drewN | apply below_drew1 | apply bytes_below1) | exact HB.out)⟩
                                 · rw [if_neg c42] at H
                                   have c42b0 : ((a0.extract 0 (x3_1 : Int).toNat).toList == ([60] : List UInt8)) = false := beq_eq_false_iff_ne.mpr c42
                                   have c42b1 : ((a0.extract 0 (x3_1 : Int).toNat).toList != ([60] : List UInt8)) = true := bne_iff_ne.mpr c42
                                   by_cases c45 : (a0.extract 0 (x3_1 : Int).toNat).toList = ([62] : List UInt8)
                                   · rw [if_pos c45] at H
                                     have c45b0 : ((a0.extract 0 (x3_1 : Int).toNat).toList == ([62] : List UInt8)) = true := beq_iff_eq.mpr c45
                                     have c45b1 : ((a0.extract 0 (x3_1 : Int).toNat).toList != ([62] : List UInt8)) = false := bne_eq_false_iff_eq.mpr c45
                                     clear c45
                                     have c46b0 := eq_true (of_decide_eq_true (by first | (with_reducible assumption) | assumption) : 0 ≤ x3_1)
                                     have c47b0 := eq_true (of_decide_eq_true (by first | (with_reducible assumption) | assumption) : x3_1 ≤ (a0.size : Int))
                                     obtain rfl := Option.some.inj H
                                     go_wp2
                                     go_ret
                                     exact ⟨by first | rfl | (simp [errW_none,errW_some] <;> rfl) | (simp only [← hji2]; first | rfl | (simp [errW_none,errW_some] <;> rfl)) | (simp [*,errW_none,errW_some] <;> rfl),by repeat (first | (with_reducible first | exact HB.out | apply below_alloc | apply pw_below_drewN | apply below_drew1 | apply bytes_below1) | exact HB.out)⟩
                                   · rw [if_neg c45] at H
                                     have c45b0 : ((a0.extract 0 (x3_1 : Int).toNat).toList == ([62] : List UInt8)) = false := beq_eq_false_iff_ne.mpr c45
                                     have c45b1 : ((a0.extract 0 (x3_1 : Int).toNat).toList != ([62] : List UInt8)) = true := bne_iff_ne.mpr c45
                                     by_cases c48 : (a0.extract 0 (x3_1 : Int).toNat).toList = ([61] : List UInt8)
                                     · rw [if_pos c48] at H
                                       have c48b0 : ((a0.extract 0 (x3_1 : Int).toNat).toList == ([61] : List UInt8)) = true := beq_iff_eq.mpr c48
                                       have c48b1 : ((a0.extract 0 (x3_1 : Int).toNat).toList != ([61] : List UInt8)) = false := bne_eq_false_iff_eq.mpr c48
                                       clear c48
                                       have c49b0 := eq_true (of_decide_eq_true (by first | (with_reducible assumption) | assumption) : 0 ≤ x3_1)
                                       have c50b0 := eq_true (of_decide_eq_true (by first | (with_reducible assumption) | assumption) : x3_1 ≤ (a0.size : Int))
                                       obtain rfl := Option.some.inj H
                                       go_wp2
                                       go_ret
                                       exact ⟨by first | rfl | (simp [errW_none,errW_some] <;> rfl) | (simp only [← hji2]; first | rfl | (simp [errW_none,errW_some] <;> rfl)) | (simp [*,errW_none,errW_some] <;> rfl),by repeat (first | (with_reducible first | exact HB.out | apply below_alloc | apply pw_below_drewN | apply below_drew1 | apply bytes_below1) | exact HB.out)⟩
                                     · rw [if_neg c48] at H
                                       have c48b0 : ((a0.extract 0 (x3_1 : Int).toNat).toList == ([61] : List UInt8)) = false := beq_eq_false_iff_ne.mpr c48
                                       have c48b1 : ((a0.extract 0 (x3_1 : Int).toNat).toList != ([61] : List UInt8)) = true := bne_iff_ne.mpr c48
                                       have H' := Aside0.mk H
                                       clear H
                                       go_wp2
                                       go_roundg k1
                                       case measure => have := HK1.out; omega
                                       case rel => exact ⟨(wrap64 (x3_1 - 1)),(by first | rfl | (simp; done) | (simp [*]; done)),H',⟨by have := HK1.out; omega⟩,⟨by repeat (first | (with_reducible first | exact HB.out | apply below_alloc | apply pw_below_drewN | apply below_drew1 | apply bytes_below1) | exact HB.out)⟩⟩
       · rw [if_neg c5] at H
         exact absurd H (by simp)
     · rw [if_neg c4] at H
       exact absurd H (by simp)
   · rw [if_neg c3] at H
     have c3b0 : decide (0 < x3_1) = false := decide_eq_false c3
     clear c3
     obtain rfl := Option.some.inj H
     go_wp2
     go_ret
     exact ⟨by first | rfl | (simp [errW_none,errW_some] <;> rfl) | (simp only [← hji2]; first | rfl | (simp [errW_none,errW_some] <;> rfl)) | (simp [*,errW_none,errW_some] <;> rfl),by repeat (first | (with_reducible first | exact HB.out | apply below_alloc | apply pw_below_drewN | apply below_drew1 | apply bytes_below1) | exact HB.out)⟩
end
end Go.Proofs.YtifgpigicgaadaaGreatDoor.Q
end
