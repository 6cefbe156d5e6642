import Derived.Test.YtifgpigicgaadaaGreatDoorBLexerBlanks6
/- The words of a text, spelt, are read as the same words. -/
set_option linter.unusedSimpArgs false
set_option linter.unusedVariables false
namespace Go.Proofs.YtifgpigicgaadaaGreatDoor.Back
open Go.RowKit Go.Proofs.YtifgpigicgaadaaGreatDoor.Q Go.Proofs.YtifgpigicgaadaaGreatDoorW.PrintWords Go.Proofs.YtifgpigicgaadaaGreatDoorW.PrintLast Go.Proofs.YtifgpigicgaadaaGreatDoorH Go.Proofs.YtifgpigicgaadaaGreatDoor.Chars Go.Proofs.YtifgpigicgaadaaGreatDoor.Values Go.Proofs.YtifgpigicgaadaaGreatDoor.Bytes Go.Proofs.YtifgpigicgaadaaGreatDoor.Num Go.Proofs.YtifgpigicgaadaaGreatDoor.Lex Go.Proofs.YtifgpigicgaadaaGreatDoor.Quoted Go.Proofs.YtifgpigicgaadaaGreatDoor.Words Go.Proofs.YtifgpigicgaadaaGreatDoor.Hand

abbrev Wd := S43
def stopW : Wd := ⟨0, ⟨#[]⟩, 0⟩
/-- Bytes that are the words ws, with blanks ahead of each. -/
inductive Lexes : List Int → List Wd → Prop
  | nil (l : List Int) : l.dropWhile blankV = [] → Lexes l []
  | cons (l m : List Int) (w : Wd) (n : Nat) (ws : List Wd) : l.dropWhile blankV = m → m ≠ [] → wordV m = some (w, n) → Lexes (m.drop n) ws → Lexes l (w :: ws)
theorem Lexes.blank {x : Int} {l : List Int} {ws : List Wd} (hx : blankV x = true) (h : Lexes l ws) : Lexes (x :: l) ws := by
  have e : (x :: l).dropWhile blankV = l.dropWhile blankV := by rw [List.dropWhile_cons, if_pos hx]
  cases h with
  | nil _ h => exact .nil _ (e.trans h)
  | cons _ m w n ws h h0 hw ht => exact .cons _ m w n ws (e.trans h) h0 hw ht
theorem drop_blank {l m : List Int} (h : l.dropWhile blankV = m) : m.dropWhile blankV = m := by
  subst h
  induction l with
  | nil => rfl
  | cons x t ih =>
    rw [List.dropWhile_cons]
    by_cases hx : blankV x = true
    · rw [if_pos hx]; exact ih
    · rw [if_neg hx, List.dropWhile_cons, if_neg hx]
theorem drop_suffix (p : Int → Bool) : ∀ l : List Int, ∃ q, l = q ++ l.dropWhile p
  | [] => ⟨[], rfl⟩
  | x :: t => by
    rw [List.dropWhile_cons]
    obtain ⟨q, hq⟩ := drop_suffix p t
    split
    · exact ⟨x :: q, by rw [List.cons_append, ← hq]⟩
    · exact ⟨[], rfl⟩
theorem Lexes.one {l : List Int} {ws vs : List Wd} (h : Lexes l ws) : Lexes l vs → ws = vs := by
  induction h generalizing vs with
  | nil l h =>
    intro g
    cases g with
    | nil => rfl
    | cons _ m w n ws e h0 => exact absurd (e.symm.trans h) h0
  | cons l m w n ws e h0 hw ht ih =>
    intro g
    cases g with
    | nil _ h => exact absurd (e.symm.trans h) h0
    | cons _ m' w' n' ws' e' h0' hw' ht' =>
      have hm : m = m' := e.symm.trans e'
      subst hm
      rw [hw] at hw'
      cases hw'
      rw [ih ht']
/-- The program's words are those. -/
theorem prog_at (s : ByteArray) (C : Nat) (hC : 3001 ≤ C) : ∀ (d k : Nat) (acc : List Wd) (rest : ByteArray) (l : List Int), bytesOf rest = l.dropWhile blankV → (bytesOf rest).length ≤ d → d ≤ 400 → acc.length + d ≤ 1000 → d + C ≤ k →
    ∃ r, lexer_Words.l0 k s acc rest = some r ∧ ((∃ ws, Lexes l ws ∧ r = (acc ++ ws ++ [stopW], 0, 0) ∧ ws.length ≤ d) ∨ (r.2.2 ≠ 0 ∧ ∀ ws, ¬ Lexes l ws)) := by
  intro d
  induction d using Nat.strongRecOn with
  | ind d ih =>
    intro k acc rest l hl hd hd4 hacc hk
    obtain ⟨m, rfl⟩ : ∃ m, k = m + 1 := ⟨k - 1, by omega⟩
    rw [lexer_Words.l0]
    cases hr : bytesOf rest with
    | nil =>
      rw [hr] at hl
      rw [if_pos (by rw [toList_iff, hr]; rfl), if_pos (by omega)]
      exact ⟨_, rfl, .inl ⟨[], .nil _ hl.symm, by rw [List.append_nil]; rfl, by simp⟩⟩
    | cons a t =>
      rw [if_neg (by rw [toList_iff, hr]; exact List.cons_ne_nil _ _)]
      rw [hr] at hl
      have hlen : (bytesOf rest).length = t.length + 1 := by rw [hr]; rfl
      obtain ⟨r1, hr1, hsay⟩ := word_spec rest a t hr (by omega) m (by omega)
      rw [hr1, Option.bind_some]
      rw [hr] at hsay
      cases hw : wordV (a :: t) with
      | none =>
        rw [if_pos (hsay.2 hw)]
        refine ⟨_, rfl, .inr ⟨(show (20 : Int) ≠ 0 from by decide), fun ws g => ?_⟩⟩
        cases g with
        | nil _ h => rw [← hl] at h; cases h
        | cons _ m' w' n' ws' e' h0' hw' ht' =>
          rw [← hl] at e'
          subst e'
          rw [hw] at hw'; cases hw'
      | some v =>
        obtain ⟨w, n⟩ := v
        have q1 := hsay.1 w n hw
        have hn := wordV_len (a :: t) (by rw [← hr]; exact bytes_of rest) (List.cons_ne_nil _ _) w n hw
        have hz := b_size rest
        have hn2 : n ≤ t.length + 1 := by simpa using hn.2
        subst q1
        simp only
        rw [if_neg (by omega), if_pos (by omega), if_pos (by omega), if_pos (by omega), Int.toNat_natCast]
        obtain ⟨r3, hr3, hb3⟩ := trim_spec (rest.extract n rest.size)
        rw [ext_all, hr] at hb3
        rw [hr3, Option.bind_some]
        have hl3 : (bytesOf r3).length ≤ d - n := by
          obtain ⟨q, hq⟩ := drop_suffix blankV ((a :: t).drop n)
          have := congrArg List.length hq
          rw [← hb3, List.length_append, List.length_drop, List.length_cons] at this
          omega
        obtain ⟨r, hres, hor⟩ := ih (d - n) (by omega) m (acc ++ [(⟨w.f0, w.f1, w.f2⟩ : Wd)]) r3 ((a :: t).drop n) hb3 hl3 (by omega) (by rw [List.length_append, List.length_singleton]; omega) (by omega)
        refine ⟨r, hres, ?_⟩
        rcases hor with ⟨ws, h1, h2, h3⟩ | ⟨h1, h2⟩
        · refine .inl ⟨w :: ws, .cons _ _ w n ws hl.symm (List.cons_ne_nil _ _) hw h1, ?_, by rw [List.length_cons]; omega⟩
          rw [h2]; simp
        · refine .inr ⟨h1, fun vs g => ?_⟩
          cases g with
          | nil _ h => rw [← hl] at h; cases h
          | cons _ m' w' n' ws' e' h0' hw' ht' =>
            rw [← hl] at e'
            subst e'
            rw [hw] at hw'; cases hw'
            exact h2 _ ht'
theorem prog_words (s : ByteArray) (k : Nat) (hk : 4000 ≤ k) : ∃ r, lexer_Words.f k s = some r ∧
    ((400 < s.size ∧ r.2.2 = 4) ∨ (s.size ≤ 400 ∧ ∃ ws, Lexes (bytesOf s) ws ∧ r = (ws ++ [stopW], 0, 0) ∧ ws.length ≤ 400) ∨ (s.size ≤ 400 ∧ r.2.2 ≠ 0 ∧ ∀ ws, ¬ Lexes (bytesOf s) ws)) := by
  have hz := b_size s
  unfold lexer_Words.f
  by_cases h : 400 < s.size
  · rw [if_pos (by omega)]
    exact ⟨_, rfl, .inl ⟨h, rfl⟩⟩
  · rw [if_neg (by omega)]
    obtain ⟨r, hr, hb⟩ := trim_spec s
    have hl : (bytesOf r).length ≤ 400 := by
      obtain ⟨q, hq⟩ := drop_suffix blankV (bytesOf s)
      have := congrArg List.length hq
      rw [← hb, List.length_append] at this
      omega
    rw [hr, Option.bind_some]
    obtain ⟨x, hx, hor⟩ := prog_at s 3001 (Nat.le_refl _) 400 k [] r (bytesOf s) hb hl (Nat.le_refl _) (by simp) (by omega)
    refine ⟨x, hx, .inr ?_⟩
    rcases hor with ⟨ws, h1, h2, h3⟩ | ⟨h1, h2⟩
    · exact .inl ⟨by omega, ws, h1, by simpa using h2, h3⟩
    · exact .inr ⟨by omega, h1, h2⟩

/-! ## A word's text -/
def spellB (w : Wd) : List Int := if w.f0 = 2 then textOf w.f2 else if w.f0 = 3 then 34 :: (esc (bytesOf w.f1) ++ [34]) else bytesOf w.f1
def joinL : List (List Int) → List Int
  | [] => []
  | [x] => x
  | x :: y :: r => x ++ 32 :: joinL (y :: r)
/-- What stands behind a word: nothing, or a blank. -/
def Tail (T : List Int) : Prop := ∀ x t, T = x :: t → blankV x = true
theorem blank_no {x : Int} (h : blankV x = true) : nameP x = false ∧ digitV x = false ∧ letterV x = false := by
  have hx : x = 32 ∨ x = 9 ∨ x = 10 ∨ x = 13 := by
    unfold blankV at h; simpa [or_assoc] using h
  rcases hx with rfl | rfl | rfl | rfl <;> exact ⟨rfl, rfl, rfl⟩
theorem while_tail (p : Int → Bool) (l T : List Int) (hl : ∀ x ∈ l, p x = true) (hT : ∀ x t, T = x :: t → p x = false) : (l ++ T).takeWhile p = l := by
  induction l with
  | nil =>
    cases T with
    | nil => rfl
    | cons x t => rw [List.nil_append, List.takeWhile_cons, if_neg (by rw [hT x t rfl]; decide)]
  | cons a l ih =>
    rw [List.cons_append, List.takeWhile_cons, if_pos (hl a (by simp)), ih (fun x hx => hl x (by simp [hx]))]
theorem while_mem (p : Int → Bool) (l : List Int) : ∀ x ∈ l.takeWhile p, p x = true := by
  induction l with
  | nil => intro x hx; cases hx
  | cons a t ih =>
    rw [List.takeWhile_cons]
    split
    · intro x hx
      rcases List.mem_cons.1 hx with rfl | hx
      · assumption
      · exact ih x hx
    · intro x hx; cases hx
theorem scan_back : ∀ (o T : List Int), scan (esc o ++ 34 :: T) = some (o, (esc o).length + 1) := by
  intro o T
  induction o with
  | nil => exact scan_quote T
  | cons x o ih =>
    have e : esc (x :: o) = escB x ++ esc o := rfl
    rw [e, List.append_assoc, List.length_append]
    unfold escB
    by_cases h1 : x = 34
    · rw [if_pos h1, h1]
      show scan (92 :: 34 :: (esc o ++ 34 :: T)) = _
      rw [scan_esc, if_pos (.inl rfl), ih]
      simp; omega
    · rw [if_neg h1]
      by_cases h2 : x = 92
      · rw [if_pos h2, h2]
        show scan (92 :: 92 :: (esc o ++ 34 :: T)) = _
        rw [scan_esc, if_pos (.inr rfl), ih]
        simp; omega
      · rw [if_neg h2]
        show scan (x :: (esc o ++ 34 :: T)) = _
        rw [scan_plain x _ h1 h2, ih]
        simp; omega
theorem val_pos : ∀ (l : List Int) (a : Int), Digits l → 1 ≤ a → a ≤ l.foldl (fun a x => 10 * a + (x - 48)) a := by
  intro l
  induction l with
  | nil => intro a _ _; exact Int.le_refl _
  | cons z l ih =>
    intro a hd h
    rw [List.foldl_cons]
    have := hd z (by simp)
    have := ih (10 * a + (z - 48)) (fun w hw => hd w (by simp [hw])) (by omega)
    omega
/-- A number's digits, as it is told. -/
theorem dec_back : ∀ (f : Nat) (l : List Int), l ≠ [] → Digits l → (l.getD 0 0 = 48 → l.length = 1) → l.length ≤ f → dec10 f (val l).natAbs = l := by
  intro f
  induction f with
  | zero => intro l h0 _ _ hf; exact absurd (List.length_eq_zero_iff.1 (by omega)) h0
  | succ f ih =>
    intro l h0 hd hz hf
    rcases List.eq_nil_or_concat l with rfl | ⟨m, x, rfl⟩
    · exact absurd rfl h0
    · rw [List.concat_eq_append] at *
      have hx := hd x (by simp)
      rw [dec10, val_snoc]
      cases m with
      | nil =>
        have hv : val [] = 0 := rfl
        rw [hv, if_pos (by omega), List.nil_append, List.nil_append]
        congr 1; omega
      | cons y t =>
        have hdm : Digits (y :: t) := hd.left
        have hy := hdm y (by simp)
        have hy48 : y ≠ 48 := fun h => by have := hz (by rw [h]; rfl); simp at this
        have hv : 1 ≤ val (y :: t) := by
          have := val_pos t (10 * 0 + (y - 48)) (fun w hw => hdm w (by simp [hw])) (by omega)
          have e : val (y :: t) = t.foldl (fun a x => 10 * a + (x - 48)) (10 * 0 + (y - 48)) := rfl
          omega
        have hlen : (y :: t).length ≤ f := by simp at hf ⊢; omega
        have hr := ih (y :: t) (by simp) hdm (fun h => absurd h hy48) hlen
        rw [if_neg (by omega), show (10 * val (y :: t) + (x - 48)).natAbs / 10 = (val (y :: t)).natAbs from by omega, hr]
        congr 2; omega
/-- What holds of a word that was read, whatever stands behind its text. -/
structure Good1 (w : Wd) : Prop where
  len : (spellB w).length ≤ 1000
  ne : spellB w ≠ []
  head : ∀ x t, spellB w = x :: t → blankV x = false
  back : ∀ T, Tail T → wordV (spellB w ++ T) = some (w, (spellB w).length)
  kind : w.f0 = 1 ∨ w.f0 = 4 ∨ w.f0 = 2 ∨ w.f0 = 3
  range : -9223372036854775808 ≤ w.f2 ∧ w.f2 ≤ 9223372036854775807
  size : w.f1.size ≤ 1000
  bytes : Bytes (spellB w)
theorem good_name (m : List Int) (hb : Bytes m) (hl : m.length ≤ 400) (h : letterV (m.getD 0 0) = true) : Good1 ⟨1, strOfNums (m.takeWhile nameP), 0⟩ := by
  cases m with
  | nil => exact absurd h (by decide)
  | cons a t =>
    rw [List.getD_cons_zero] at h
    have hn : nameP a = true := by unfold nameP; rw [h]; rfl
    have hp : (a :: t).takeWhile nameP = a :: t.takeWhile nameP := List.takeWhile_cons_of_pos hn
    have hle := while_len nameP (a :: t)
    have hbb : bytesOf (strOfNums ((a :: t).takeWhile nameP)) = (a :: t).takeWhile nameP := b_str (fun x hx => hb x ((List.takeWhile_sublist _).subset hx))
    have hs : spellB ⟨1, strOfNums ((a :: t).takeWhile nameP), 0⟩ = (a :: t).takeWhile nameP := by
      unfold spellB
      rw [if_neg (show ¬ (1 : Int) = 2 by decide), if_neg (show ¬ (1 : Int) = 3 by decide)]
      exact hbb
    refine ⟨by rw [hs]; omega, by rw [hs, hp]; simp, ?_, ?_, .inl rfl, by simp, ?_, by rw [hs]; exact fun x hx => hb x ((List.takeWhile_sublist _).subset hx)⟩
    · intro x u hx
      rw [hs, hp] at hx
      obtain ⟨rfl, _⟩ := List.cons.inj hx
      by_cases hbl : blankV a = true
      · rw [(blank_no hbl).2.2] at h; cases h
      · simpa using hbl
    · intro T hT
      rw [hs]
      have hw := while_tail nameP ((a :: t).takeWhile nameP) T (while_mem nameP (a :: t)) (fun x u e => (blank_no (hT x u e)).1)
      unfold wordV
      rw [hw, if_pos]
      rw [hp]; exact h
    · show (strOfNums _).size ≤ 1000
      rw [str_size]; omega
theorem good_digits (m : List Int) (hl : m.length ≤ 400) (h : digitV (m.getD 0 0) = true) (hn : (numV (m.takeWhile digitV)).2 = 0) : Good1 ⟨2, ⟨#[]⟩, (numV (m.takeWhile digitV)).1⟩ := by
  cases m with
  | nil => exact absurd h (by decide)
  | cons a t =>
    rw [List.getD_cons_zero] at h
    have hp : (a :: t).takeWhile digitV = a :: t.takeWhile digitV := List.takeWhile_cons_of_pos h
    have hd := while_digits (a :: t)
    have hmem := while_mem digitV (a :: t)
    generalize (a :: t).takeWhile digitV = p at *
    have hpn : p ≠ [] := by rw [hp]; simp
    have hnum : ¬ (p.getD 0 0 = 48 ∧ 1 < p.length) ∧ p.length ≤ 19 ∧ val p ≤ 9223372036854775807 ∧ numV p = (val p, 0) := by
      unfold numV at hn ⊢
      by_cases h1 : p.getD 0 0 = 48 ∧ 1 < p.length
      · rw [if_pos h1] at hn; cases hn
      · rw [if_neg h1] at hn ⊢
        by_cases h2 : 19 < p.length
        · rw [if_pos h2] at hn; cases hn
        · rw [if_neg h2] at hn ⊢
          unfold endV at hn ⊢
          by_cases h3 : val p > 9223372036854775807
          · rw [if_pos h3] at hn; cases hn
          · rw [if_neg h3]
            exact ⟨h1, by omega, by omega, rfl⟩
    obtain ⟨h1, h2, h3, h4⟩ := hnum
    have hlp : 0 < p.length := List.length_pos_iff.2 hpn
    have hv := val_range p.length p rfl hd
    have hs : spellB ⟨2, ⟨#[]⟩, (numV p).1⟩ = p := by
      unfold spellB textOf
      rw [if_pos rfl, h4]
      show (if val p < 0 then [45] else []) ++ dec10 20 (val p).natAbs = p
      rw [if_neg (by omega), List.nil_append]
      exact dec_back 20 p hpn hd (fun x => by have := fun y => h1 ⟨x, y⟩; omega) (by omega)
    refine ⟨by rw [hs]; omega, by rw [hs]; exact hpn, ?_, ?_, .inr (.inr (.inl rfl)), ?_, Nat.zero_le _, by rw [hs]; exact fun x hx => by have := hd x hx; omega⟩
    · intro x u hx
      rw [hs, hp] at hx
      obtain ⟨rfl, _⟩ := List.cons.inj hx
      by_cases hbl : blankV a = true
      · rw [(blank_no hbl).2.1] at h; cases h
      · simpa using hbl
    · intro T hT
      rw [hs]
      have hw := while_tail digitV p T hmem (fun x u e => (blank_no (hT x u e)).2.1)
      have hg : (p ++ T).getD 0 0 = a := by rw [hp]; rfl
      have hnl : ¬ letterV a = true := by
        intro x; unfold letterV at x; unfold digitV at h; simp at x h; omega
      unfold wordV
      rw [hw, hg, if_neg hnl, if_pos h, if_pos (by rw [h4])]
    · show -9223372036854775808 ≤ (numV p).1 ∧ (numV p).1 ≤ 9223372036854775807
      rw [h4]; exact ⟨by omega, h3⟩
theorem esc_le (o : List Int) : (esc o).length ≤ 2 * o.length := by
  induction o with
  | nil => simp [esc]
  | cons x o ih =>
    have e : esc (x :: o) = escB x ++ esc o := rfl
    have : (escB x).length ≤ 2 := by unfold escB; split <;> (try split) <;> simp
    rw [e, List.length_append, List.length_cons]; omega
theorem esc_bytes {o : List Int} (h : Bytes o) : Bytes (esc o) := by
  intro x hx
  unfold esc at hx
  obtain ⟨y, hy, hxy⟩ := List.mem_flatMap.1 hx
  have := h y hy
  unfold escB at hxy
  split at hxy
  · have : x = 92 ∨ x = 34 := by simpa using hxy
    omega
  · split at hxy
    · have : x = 92 := by simpa using hxy
      omega
    · have : x = y := by simpa using hxy
      omega
theorem good_text (o : List Int) (hb : Bytes o) (hl : o.length ≤ 256) (hg : Lex.Good o) : Good1 ⟨3, strOfNums o, 0⟩ := by
  have hs : spellB ⟨3, strOfNums o, 0⟩ = 34 :: (esc o ++ [34]) := by
    unfold spellB
    rw [if_neg (show ¬ (3 : Int) = 2 by decide), if_pos rfl]
    show 34 :: (esc (bytesOf (strOfNums o)) ++ [34]) = _
    rw [b_str hb]
  have hle := esc_le o
  refine ⟨by rw [hs]; simp; omega, by rw [hs]; simp, ?_, ?_, .inr (.inr (.inr rfl)), by simp, ?_, ?_⟩
  · intro x u hx
    rw [hs] at hx
    obtain ⟨rfl, _⟩ := List.cons.inj hx
    rfl
  · intro T _
    rw [hs]
    have e : 34 :: (esc o ++ [34]) ++ T = 34 :: (esc o ++ 34 :: T) := by simp
    unfold wordV
    rw [e, List.getD_cons_zero, if_neg (by decide), if_neg (by decide), if_pos rfl, List.drop_succ_cons, List.drop_zero, scan_back]
    unfold textV
    simp only
    rw [if_neg (fun x => x.elim (fun y => by omega) (fun y => y hg))]
    simp
  · show (strOfNums _).size ≤ 1000
    rw [str_size]; omega
  · rw [hs]
    intro x hx
    have : x = 34 ∨ x ∈ esc o := by simpa [or_comm, or_left_comm] using hx
    rcases this with rfl | h
    · omega
    · exact esc_bytes hb x h
theorem good_sign (m : List Int) (hb : Bytes m) (h : m ≠ []) (h0 : signV m ≠ 0) : Good1 ⟨4, strOfNums (m.take (signV m)), 0⟩ := by
  have main : ∀ p : List Int, Bytes p → p ≠ [] → p.length ≤ 2 → (∀ T, Tail T → wordV (p ++ T) = some (⟨4, strOfNums p, 0⟩, p.length)) → (∀ x t, p = x :: t → blankV x = false) → Good1 ⟨4, strOfNums p, 0⟩ := by
    intro p hpb hp hp2 hw hh
    have hs : spellB ⟨4, strOfNums p, 0⟩ = p := by
      unfold spellB
      rw [if_neg (show ¬ (4 : Int) = 2 by decide), if_neg (show ¬ (4 : Int) = 3 by decide)]
      exact b_str hpb
    refine ⟨by rw [hs]; omega, by rw [hs]; exact hp, by rw [hs]; exact hh, ?_, .inr (.inl rfl), by simp, ?_, by rw [hs]; exact hpb⟩
    · intro T hT; rw [hs]; exact hw T hT
    · show (strOfNums _).size ≤ 1000
      rw [str_size]; omega
  cases m with
  | nil => exact absurd rfl h
  | cons a t =>
    by_cases h2 : TWO.contains ((a :: t).take 2) = true
    · have e : signV (a :: t) = 2 := by unfold signV; rw [if_pos h2]
      rw [e]
      cases t with
      | nil => simp [TWO] at h2
      | cons b u =>
        rw [List.take_succ_cons, List.take_succ_cons, List.take_zero] at h2 ⊢
        have hab : (a = 60 ∧ b = 61) ∨ (a = 62 ∧ b = 61) ∨ (a = 33 ∧ b = 61) := by simpa [TWO] using h2
        refine main [a, b] (fun x hx => hb x (by simp at hx ⊢; rcases hx with h | h <;> simp [h])) (by simp) (by simp) ?_ ?_
        · intro T _
          rcases hab with ⟨rfl, rfl⟩ | ⟨rfl, rfl⟩ | ⟨rfl, rfl⟩ <;> rfl
        · intro x u hx
          obtain ⟨rfl, _⟩ := List.cons.inj hx
          rcases hab with ⟨rfl, _⟩ | ⟨rfl, _⟩ | ⟨rfl, _⟩ <;> rfl
    · have h1 : ONE.contains a = true := by
        by_cases h1 : ONE.contains a = true
        · exact h1
        · exact absurd (by unfold signV; rw [if_neg h2, List.getD_cons_zero, if_neg h1]) h0
      have e : signV (a :: t) = 1 := by unfold signV; rw [if_neg h2, List.getD_cons_zero, if_pos h1]
      rw [e, List.take_succ_cons, List.take_zero]
      have ha := (one_iff a).1 h1
      refine main [a] (fun x hx => hb x (by simp at hx; simp [hx])) (by simp) (by simp) ?_ ?_
      · intro T hT
        have h3 : ¬ TWO.contains ((a :: T).take 2) = true := by
          cases T with
          | nil => simp [TWO]
          | cons x u =>
            have hx : x = 32 ∨ x = 9 ∨ x = 10 ∨ x = 13 := by have := hT x u rfl; unfold blankV at this; simpa [or_assoc] using this
            rcases hx with rfl | rfl | rfl | rfl <;> simp [TWO]
        have hs1 : signV (a :: T) = 1 := by unfold signV; rw [if_neg h3, List.getD_cons_zero, if_pos h1]
        have hf : letterV a = false ∧ digitV a = false ∧ a ≠ 34 := by
          rcases ha with rfl | rfl | rfl | rfl | rfl | rfl | rfl | rfl | rfl | rfl | rfl | rfl <;> exact ⟨rfl, rfl, by decide⟩
        unfold wordV
        rw [List.singleton_append, List.getD_cons_zero, hs1, if_neg (by rw [hf.1]; decide), if_neg (by rw [hf.2.1]; decide), if_neg hf.2.2, if_neg (by decide)]
        rfl
      · intro x u hx
        obtain ⟨rfl, _⟩ := List.cons.inj hx
        rcases ha with rfl | rfl | rfl | rfl | rfl | rfl | rfl | rfl | rfl | rfl | rfl | rfl <;> rfl
theorem good_word (m : List Int) (hb : Bytes m) (h : m ≠ []) (hl : m.length ≤ 400) (w : Wd) (n : Nat) (hw : wordV m = some (w, n)) : Good1 w := by
  unfold wordV at hw
  by_cases h1 : letterV (m.getD 0 0) = true
  · rw [if_pos h1] at hw; cases hw; exact good_name m hb hl h1
  · rw [if_neg h1] at hw
    by_cases h2 : digitV (m.getD 0 0) = true
    · rw [if_pos h2] at hw
      by_cases h3 : (numV (m.takeWhile digitV)).2 = 0
      · rw [if_pos h3] at hw; cases hw; exact good_digits m hl h2 h3
      · rw [if_neg h3] at hw; cases hw
    · rw [if_neg h2] at hw
      by_cases h3 : m.getD 0 0 = 34
      · rw [if_pos h3] at hw
        cases hs : scan (m.drop 1) with
        | none => rw [hs] at hw; cases hw
        | some r =>
          obtain ⟨o, q⟩ := r
          rw [hs] at hw
          unfold textV at hw
          simp only at hw
          have hso := scan_bytes _ _ rfl (hb.drop 1) o q hs
          by_cases h4 : 256 < o.length ∨ ¬ Lex.Good o
          · rw [if_pos h4] at hw; cases hw
          · rw [if_neg h4] at hw; cases hw
            have h5 : o.length ≤ 256 := by
              by_cases hx : 256 < o.length
              · exact absurd (.inl hx) h4
              · omega
            have h6 : Lex.Good o := by
              by_cases hx : Lex.Good o
              · exact hx
              · exact absurd (.inr hx) h4
            exact good_text o hso.1 h5 h6
      · rw [if_neg h3] at hw
        by_cases h4 : signV m = 0
        · rw [if_pos h4] at hw; cases hw
        · rw [if_neg h4] at hw; cases hw; exact good_sign m hb h h4
theorem lexes_good {l : List Int} {ws : List Wd} (h : Lexes l ws) (hb : Bytes l) (hl : l.length ≤ 400) : ∀ w ∈ ws, Good1 w := by
  induction h with
  | nil l _ => intro w hw; cases hw
  | cons l m w n ws e h0 hw ht ih =>
    obtain ⟨q, hq⟩ := drop_suffix blankV l
    rw [e] at hq
    have hmb : Bytes m := fun x hx => hb x (by rw [hq]; simp [hx])
    have hml : m.length ≤ 400 := by rw [hq, List.length_append] at hl; omega
    intro v hv
    rcases List.mem_cons.1 hv with rfl | hv
    · exact good_word m hmb h0 hml v n hw
    · exact ih (hmb.drop n) (by rw [List.length_drop]; omega) v hv

/-! ## Spelt words are read -/
theorem lexes_blanks (T : List Int) (hT : ∀ x ∈ T, blankV x = true) : Lexes T [] := by
  induction T with
  | nil => exact .nil _ rfl
  | cons x t ih => exact (ih fun y hy => hT y (by simp [hy])).blank (hT x (by simp))
theorem lexes_join (T : List Int) (hT : ∀ x ∈ T, blankV x = true) : ∀ ws : List Wd, (∀ w ∈ ws, Good1 w) → Lexes (joinL (ws.map spellB) ++ T) ws := by
  have head : ∀ (w : Wd) (R : List Int), Good1 w → Tail R → ∀ vs, Lexes R vs → Lexes (spellB w ++ R) (w :: vs) := by
    intro w R g hR vs hv
    refine .cons _ (spellB w ++ R) w (spellB w).length vs ?_ ?_ (g.back R hR) ?_
    · obtain ⟨x, t, hx⟩ := List.exists_cons_of_ne_nil g.ne
      rw [hx, List.cons_append, List.dropWhile_cons, if_neg (by rw [g.head x t hx]; decide)]
    · intro e; exact g.ne (List.append_eq_nil_iff.1 e).1
    · rw [List.drop_left]; exact hv
  intro ws
  induction ws with
  | nil => intro _; exact lexes_blanks T hT
  | cons w ws ih =>
    intro hg
    cases ws with
    | nil => exact head w T (hg w (by simp)) (fun x t e => hT x (by rw [e]; simp)) [] (lexes_blanks T hT)
    | cons v vs =>
      have hi := ih fun u hu => hg u (by simp [hu])
      have e : joinL ((w :: v :: vs).map spellB) ++ T = spellB w ++ (32 :: (joinL ((v :: vs).map spellB) ++ T)) := by
        show (spellB w ++ 32 :: joinL (spellB v :: vs.map spellB)) ++ T = _
        rw [List.append_assoc, List.cons_append]; rfl
      rw [e]
      exact head w _ (hg w (by simp)) (fun x t e => by obtain ⟨rfl, _⟩ := List.cons.inj e; rfl) _ (hi.blank rfl)
theorem joinL_len : ∀ ws : List (List Int), (∀ x ∈ ws, x.length ≤ 1000) → (joinL ws).length ≤ 1001 * ws.length
  | [], _ => by simp [joinL]
  | [x], h => by have := h x (by simp); simp [joinL]; omega
  | x :: y :: r, h => by
    have := h x (by simp)
    have ih := joinL_len (y :: r) (fun z hz => h z (by simp [hz]))
    rw [joinL, List.length_append, List.length_cons]
    simp only [List.length_cons] at ih ⊢
    omega

/-! ## Spelling -/
def spellS (w : Wd) : ByteArray := strOfNums (spellB w)
theorem str_cat (l m : List Int) : strOfNums (l ++ m) = strOfNums l ++ strOfNums m := by
  apply ByteArray.ext
  rw [ByteArray.data_append]
  unfold strOfNums
  apply Array.toList_inj.1
  simp
theorem str_b (s : ByteArray) : strOfNums (bytesOf s) = s := b_inj (b_str (bytes_of s))
theorem quote_is (s : ByteArray) : quoteV s = strOfNums (34 :: (esc (bytesOf s) ++ [34])) := by
  have e : 34 :: (esc (bytesOf s) ++ [34]) = [34] ++ esc (bytesOf s) ++ [34] := by simp
  rw [e, str_cat, str_cat]; rfl
theorem rd_left (ws : List Wd) (i : Nat) (h : i < ws.length) : rd_T43 (ws ++ [stopW]) (i : Int) = ws[i] := by
  unfold rd_T43
  rw [Int.toNat_natCast, List.getD_eq_getElem?_getD, List.getElem?_append_left h, List.getElem?_eq_getElem h]; rfl
theorem rd_end (ws : List Wd) : rd_T43 (ws ++ [stopW]) (ws.length : Int) = stopW := by
  unfold rd_T43
  rw [Int.toNat_natCast, List.getD_eq_getElem?_getD, List.getElem?_append_right (Nat.le_refl _), Nat.sub_self]; rfl
theorem drop_consW {l : List Wd} {i : Nat} (h : i < l.length) : l.drop i = l[i] :: l.drop (i + 1) := List.drop_eq_getElem_cons h
theorem spell_at (ws : List Wd) (hg : ∀ w ∈ ws, Good1 w) (hl : ws.length ≤ 400) : ∀ (d i k : Nat) (acc : List ByteArray), i + d = ws.length → acc.length ≤ i →
    lexer_Spell.l0 (k + 2 * d + 3) acc (ws ++ [stopW]) ((ws.length + 1 : Nat) : Int) (i : Int) = (strings_Join.f (acc ++ (ws.drop i).map spellS) ⟨#[32]⟩).bind fun t => some t := by
  have hL : (ws ++ [stopW]).length = ws.length + 1 := by simp
  intro d
  induction d with
  | zero =>
    intro i k acc hi ha
    have hi' : i = ws.length := by omega
    subst hi'
    have e2 : wrap64 ((ws.length : Int) + 1) = ((ws.length + 1 : Nat) : Int) := by rw [w64' _ (by omega) (by omega)]; omega
    rw [show k + 2 * 0 + 3 = (k + 2) + 1 from rfl, lexer_Spell.l0, if_pos (by omega), if_pos (by omega), if_pos (by rw [hL]; omega), rd_end, if_neg (show ¬ stopW.f0 = 1 by decide), lexer_Spell.j1, if_neg (show ¬ (stopW.f0 == 4) = true by decide), if_neg (show ¬ stopW.f0 = 2 by decide), if_neg (show ¬ stopW.f0 = 3 by decide), e2, lexer_Spell.l0, if_neg (by omega), List.drop_of_length_le (Nat.le_refl _), List.map_nil, List.append_nil]
  | succ d ih =>
    intro i k acc hi ha
    have hlt : i < ws.length := by omega
    have e2 : wrap64 ((i : Int) + 1) = ((i + 1 : Nat) : Int) := by rw [w64' _ (by omega) (by omega)]; omega
    have g := hg ws[i] (List.getElem_mem hlt)
    have hd := drop_consW hlt
    have go : ∀ x : ByteArray, x = spellS ws[i] → lexer_Spell.l0 (k + 2 * d + 3) (acc ++ [x]) (ws ++ [stopW]) ((ws.length + 1 : Nat) : Int) ((i + 1 : Nat) : Int) = (strings_Join.f (acc ++ (ws.drop i).map spellS) ⟨#[32]⟩).bind fun t => some t := by
      intro x hx
      rw [ih (i + 1) k _ (by omega) (by rw [List.length_append, List.length_singleton]; omega), hd, List.map_cons, hx, List.append_assoc]; rfl
    rw [show k + 2 * (d + 1) + 3 = (k + 2 * d + 3) + 1 + 1 from by omega, lexer_Spell.l0, if_pos (by omega), if_pos (by omega), if_pos (by rw [hL]; omega), rd_left ws i hlt]
    have hn : (acc.length < 8796093022208) := by omega
    have hplain : ws[i].f0 ≠ 2 → ws[i].f0 ≠ 3 → ws[i].f1 = spellS ws[i] := by
      intro h2 h3
      unfold spellS spellB
      rw [if_neg h2, if_neg h3, str_b]
    rcases g.kind with h | h | h | h
    · rw [if_pos h, lexer_Spell.j1, if_pos (by rw [h]; decide), if_pos hn, e2]
      exact go _ (hplain (by rw [h]; decide) (by rw [h]; decide))
    · rw [if_neg (by rw [h]; decide), lexer_Spell.j1, if_pos (by rw [h]; decide), if_pos hn, e2]
      exact go _ (hplain (by rw [h]; decide) (by rw [h]; decide))
    · rw [if_neg (by rw [h]; decide), lexer_Spell.j1, if_neg (by rw [h]; decide), if_pos h, chars_Text.f, if_pos g.range, Option.bind_some, if_pos hn, e2]
      exact go _ (by unfold spellS spellB; rw [if_pos h])
    · rw [if_neg (by rw [h]; decide), lexer_Spell.j1, if_neg (by rw [h]; decide), if_neg (by rw [h]; decide), if_pos h, value_Text.f, Option.bind_some, value_Print.f, if_neg (show ¬ (3 : Int) = 1 by decide), if_neg (show ¬ (3 : Int) = 2 by decide), if_pos rfl, if_pos (by have := g.size; show ws[i].f1.size ≤ _; omega), Option.bind_some, if_pos hn, e2]
      exact go _ (by unfold spellS spellB; rw [if_neg (by rw [h]; decide), if_pos h, ← quote_is])
theorem join_bytes : ∀ xs : List ByteArray, bytesOf ⟨(Lib.join (xs.map (·.data.toList)) [32]).toArray⟩ = joinL (xs.map bytesOf)
  | [] => rfl
  | [x] => by
    rw [List.map_cons, List.map_nil, Lib.join_one]; rfl
  | x :: y :: r => by
    have ih := join_bytes (y :: r)
    have e : Lib.join ((x :: y :: r).map (·.data.toList)) [32] = x.data.toList ++ 32 :: Lib.join ((y :: r).map (·.data.toList)) [32] := by
      simp [Lib.join_cons, Lib.joinTail]
    have e2 : bytesOf ⟨(Lib.join ((x :: y :: r).map (·.data.toList)) [32]).toArray⟩ = bytesOf x ++ 32 :: bytesOf ⟨(Lib.join ((y :: r).map (·.data.toList)) [32]).toArray⟩ := by
      rw [e]
      unfold bytesOf
      simp
    rw [e2, ih]; rfl
theorem spell_spec (ws : List Wd) (hg : ∀ w ∈ ws, Good1 w) (hl : ws.length ≤ 400) (k : Nat) (hk : 1000 ≤ k) : ∃ t, lexer_Spell.f k (ws ++ [stopW]) = some t ∧ bytesOf t = joinL (ws.map spellB) := by
  have h := spell_at ws hg hl ws.length 0 (k - 2 * ws.length - 3) [] (Nat.zero_add _) (Nat.le_refl _)
  rw [show k - 2 * ws.length - 3 + 2 * ws.length + 3 = k from by omega, List.nil_append, List.drop_zero] at h
  have hb := join_bytes (ws.map spellS)
  have hm : (ws.map spellS).map bytesOf = ws.map spellB := by
    rw [List.map_map]
    exact List.map_congr_left fun w hw => b_str (hg w hw).bytes
  rw [hm] at hb
  have hlen := joinL_len (ws.map spellB) (fun x hx => by obtain ⟨w, hw, rfl⟩ := List.mem_map.1 hx; exact (hg w hw).len)
  rw [← hb, bytesOf_length, List.length_map] at hlen
  have hs : (⟨(Lib.join ((ws.map spellS).map (·.data.toList)) [32]).toArray⟩ : ByteArray).size = (Lib.join ((ws.map spellS).map (·.data.toList)) [32]).length := by
    show (Lib.join ((ws.map spellS).map (·.data.toList)) [32]).toArray.size = _
    simp
  refine ⟨_, ?_, hb⟩
  unfold lexer_Spell.f
  rw [List.length_append, List.length_singleton]
  refine h.trans ?_
  unfold strings_Join.f
  have hc : (ws.map spellS).length ≤ 140737488355328 ∧ (Lib.join ((ws.map spellS).map (·.data.toList)) (⟨#[32]⟩ : ByteArray).data.toList).length ≤ 140737488355328 := by
    refine ⟨by rw [List.length_map]; omega, ?_⟩
    show (Lib.join ((ws.map spellS).map (·.data.toList)) [32]).length ≤ _
    rw [← hs]; omega
  rw [if_pos hc, Option.bind_some]
end Go.Proofs.YtifgpigicgaadaaGreatDoor.Back
