/- Several texts in one, in their order. -/
import Derived.Test.YtifgpigicgaadaaGreatDoorBLexerBlanks2
import Derived.Test.YtifgpigicgaadaaGreatDoorBLexerBlanks3
import Derived.Test.YtifgpigicgaadaaGreatDoorBLexerBlanks4
section
/- Texts between quotes. -/
set_option linter.unusedSimpArgs false
set_option linter.unusedVariables false
namespace Go.Proofs.YtifgpigicgaadaaGreatDoor.Quoted
open Go.RowKit Go.Proofs.YtifgpigicgaadaaGreatDoor.Q Go.Proofs.YtifgpigicgaadaaGreatDoorW.PrintWords Go.Proofs.YtifgpigicgaadaaGreatDoorW.PrintLast Go.Proofs.YtifgpigicgaadaaGreatDoorH Go.Proofs.YtifgpigicgaadaaGreatDoor.Chars Go.Proofs.YtifgpigicgaadaaGreatDoor.Values Go.Proofs.YtifgpigicgaadaaGreatDoor.Bytes Go.Proofs.YtifgpigicgaadaaGreatDoor.Num Go.Proofs.YtifgpigicgaadaaGreatDoor.Lex

/-- What stands up to the closing quote, without its escapes; and how many bytes that is, with the quote. -/
def scan : List Int → Option (List Int × Nat)
  | [] => none
  | [x] => if x = 34 then some ([], 1) else none
  | x :: c :: u =>
    if x = 34 then some ([], 1)
    else if x = 92 then (if c = 34 ∨ c = 92 then (scan u).map fun r => (c :: r.1, r.2 + 2) else none)
    else (scan (c :: u)).map fun r => (x :: r.1, r.2 + 1)
theorem scan_quote (t : List Int) : scan (34 :: t) = some ([], 1) := by cases t <;> simp [scan]
theorem scan_plain (x : Int) (t : List Int) (h1 : x ≠ 34) (h2 : x ≠ 92) : scan (x :: t) = (scan t).map fun r => (x :: r.1, r.2 + 1) := by
  cases t with
  | nil => simp [scan, h1]
  | cons c u => rw [scan, if_neg h1, if_neg h2]
theorem scan_esc (c : Int) (u : List Int) : scan (92 :: c :: u) = if c = 34 ∨ c = 92 then (scan u).map fun r => (c :: r.1, r.2 + 2) else none := by
  rw [scan, if_neg (by decide), if_pos rfl]
theorem scan_end : scan [92] = none := by simp [scan]
theorem scan_bytes : ∀ (n : Nat) (l : List Int), l.length = n → Bytes l → ∀ o m, scan l = some (o, m) → Bytes o ∧ 1 ≤ m ∧ m ≤ l.length ∧ o.length < m := by
  intro n
  induction n using Nat.strongRecOn with
  | ind n ih =>
    intro l hl hb o m h
    match l, hl, hb, h with
    | [], _, _, h => cases h
    | x :: t, hl, hb, h =>
      by_cases h1 : x = 34
      · subst h1; rw [scan_quote] at h; cases h
        exact ⟨fun x hx => absurd hx (by simp), by simp, by simp, by simp⟩
      · by_cases h2 : x = 92
        · subst h2
          match t, hl, hb, h with
          | [], _, _, h => rw [scan_end] at h; cases h
          | c :: u, hl, hb, h =>
            rw [scan_esc] at h
            split at h
            · obtain ⟨⟨o', m'⟩, hs, he⟩ := Option.map_eq_some_iff.1 h
              cases he
              have := ih u.length (by simp at hl; omega) u rfl (fun x hx => hb x (by simp [hx])) o' m' hs
              refine ⟨fun x hx => ?_, by omega, by simp; omega, by simp; omega⟩
              rcases List.mem_cons.1 hx with rfl | hx
              · exact hb _ (by simp)
              · exact this.1 x hx
            · cases h
        · rw [scan_plain x t h1 h2] at h
          obtain ⟨⟨o', m'⟩, hs, he⟩ := Option.map_eq_some_iff.1 h
          cases he
          have := ih t.length (by simp at hl; omega) t rfl (fun x hx => hb x (by simp [hx])) o' m' hs
          refine ⟨fun y hy => ?_, by omega, by simp; omega, by simp; omega⟩
          rcases List.mem_cons.1 hy with rfl | hy
          · exact hb _ (by simp)
          · exact this.1 y hy
theorem scan_skip : ∀ (n : Nat) (l : List Int), n ≤ l.length → (∀ j, j < n → l.getD j 0 ≠ 34 ∧ l.getD j 0 ≠ 92) → scan l = (scan (l.drop n)).map fun r => (l.take n ++ r.1, r.2 + n) := by
  intro n
  induction n with
  | zero => intro l _ _; simp
  | succ n ih =>
    intro l hl h
    match l, hl, h with
    | x :: t, hl, h =>
      have h0 := h 0 (by omega)
      have ht := ih t (by simpa using hl) (fun j hj => by have := h (j + 1) (by omega); simpa using this)
      rw [scan_plain x t (by simpa using h0.1) (by simpa using h0.2), ht, Option.map_map]
      simp only [List.drop_succ_cons, List.take_succ_cons, List.cons_append]
      rfl
theorem scan_same : ∀ (n : Nat) (l o : List Int) (m : Nat), scan l = some (o, m) → n ≤ o.length → (∀ j, j < n → o.getD j 0 ≠ 34 ∧ o.getD j 0 ≠ 92) → l.take n = o.take n := by
  intro n
  induction n with
  | zero => intro l o m _ _ _; simp
  | succ n ih =>
    intro l o m h hn hj
    match l, h with
    | [], h => cases h
    | x :: t, h =>
      by_cases h1 : x = 34
      · subst h1; rw [scan_quote] at h; cases h; simp at hn
      · by_cases h2 : x = 92
        · subst h2
          match t, h with
          | [], h => rw [scan_end] at h; cases h
          | c :: u, h =>
            rw [scan_esc] at h
            split at h
            · rename_i hc
              obtain ⟨⟨o', m'⟩, hs, he⟩ := Option.map_eq_some_iff.1 h
              cases he
              have := hj 0 (by omega)
              simp at this
              omega
            · cases h
        · rw [scan_plain x t h1 h2] at h
          obtain ⟨⟨o', m'⟩, hs, he⟩ := Option.map_eq_some_iff.1 h
          cases he
          rw [List.take_succ_cons, List.take_succ_cons, ih t o' m' hs (by simpa using hn) (fun j hj2 => by have := hj (j + 1) (by omega); simpa using this)]

/-! ## The program's -/
open Classical in
noncomputable def quoE (w : List Int) (e : Int) : ByteArray × Int := if 256 < w.length ∨ ¬ Lex.Good w then (⟨#[]⟩, 0) else (strOfNums w, e)
noncomputable def quoP (out : List Int) (i : Nat) (r : Option (List Int × Nat)) : ByteArray × Int :=
  match r with
  | none => (⟨#[]⟩, 0)
  | some (o, n) => quoE (out ++ o) ((i + n : Nat) : Int)
theorem quoP_map (out : List Int) (i : Nat) (r : Option (List Int × Nat)) (c : Int) (n : Nat) : quoP out i (r.map fun r => (c :: r.1, r.2 + n)) = quoP (out ++ [c]) (i + n) r := by
  cases r with
  | none => rfl
  | some r => simp only [Option.map_some, quoP, List.append_assoc, List.cons_append, List.nil_append, show i + (r.2 + n) = i + n + r.2 from by omega]
theorem quoted_at (s : ByteArray) (hs : (bytesOf s).length ≤ 1000) : ∀ (d i k : Nat) (out : List Int), i + d = (bytesOf s).length → Bytes out → out.length ≤ i →
    lexer_quoted.l0 (k + d + 400) s out (i : Int) = some (quoP out i (scan ((bytesOf s).drop i))) := by
  intro d
  induction d using Nat.strongRecOn with
  | ind d ih =>
    intro i k out hi hb ho
    by_cases hlt : i < (bytesOf s).length
    · have hbx := bytes_of s _ (List.getElem_mem hlt)
      have e2 : wrap64 ((i : Int) + 1) = ((i + 1 : Nat) : Int) := by rw [w64' _ (by omega) (by omega)]; omega
      have e3 : wrap64 (((i + 1 : Nat) : Int) + 1) = ((i + 2 : Nat) : Int) := by rw [w64' _ (by omega) (by omega)]; omega
      obtain ⟨d', rfl⟩ : ∃ d', d = d' + 1 := ⟨d - 1, by omega⟩
      rw [show k + (d' + 1) + 400 = (k + d' + 400) + 1 from by omega, lexer_quoted.l0, b_size, if_pos (by omega), if_pos (by omega), bt_at' hlt, e2, drop_cons hlt]
      by_cases h1 : (bytesOf s)[i] = 34
      · rw [if_pos h1, h1, scan_quote]
        have j : ∀ (b : Bool), lexer_quoted.j1 (k + d' + 400) out (i : Int) b = some (if b = true then (⟨#[]⟩, 0) else (strOfNums out, ((i + 1 : Nat) : Int))) := by
          intro b
          rw [show k + d' + 400 = (k + d' + 399) + 1 from rfl, lexer_quoted.j1, e2]
          cases b <;> rfl
        simp only [quoP, List.append_nil]
        unfold quoE
        by_cases h2 : (out.length : Int) > 256
        · rw [if_pos h2, j, if_pos rfl, if_pos (Or.inl (by omega))]
        · rw [if_neg h2, (wrong_spec out hb (by omega) _ (by omega)).1, Option.bind_some, j]
          have hg := wrong_good out hb (by omega)
          by_cases h3 : Lex.Good out
          · have := hg.2 h3
            rw [if_neg (by simp; omega), if_neg (fun x => x.elim (fun y => by omega) (fun y => y h3))]
          · have : ¬ wrong out < 0 := fun x => h3 (hg.1 x)
            rw [if_pos (by simp; omega), if_pos (Or.inr h3)]
      · rw [if_neg h1]
        by_cases h2 : (bytesOf s)[i] = 92
        · rw [if_pos h2, h2]
          by_cases h3 : i + 1 < (bytesOf s).length
          · have hbx2 := bytes_of s _ (List.getElem_mem h3)
            obtain ⟨d'', rfl⟩ : ∃ d'', d' = d'' + 1 := ⟨d' - 1, by omega⟩
            rw [if_neg (by omega), if_pos (by omega), if_pos (by omega), bt_at' h3, (sets_at _ hbx2).2.2.2, Option.bind_some, drop_cons h3, scan_esc, e3]
            by_cases h4 : (bytesOf s)[i + 1] = 34 ∨ (bytesOf s)[i + 1] = 92
            · rw [if_pos (by simpa using h4), if_pos h4, if_pos (by omega), quoP_map]
              have := ih d'' (by omega) (i + 2) (k + 1) (out ++ [(bytesOf s)[i + 1]]) (by omega) (fun x hx => by
                rcases List.mem_append.1 hx with hx | hx
                · exact hb x hx
                · simp at hx; omega) (by simp; omega)
              rw [show k + 1 + d'' + 400 = k + (d'' + 1) + 400 from by omega] at this
              exact this
            · rw [if_neg (by simpa using h4), if_neg h4]; rfl
          · rw [if_pos (by omega), List.drop_of_length_le (by omega : (bytesOf s).length ≤ i + 1), scan_end]; rfl
        · rw [if_neg h2, if_pos (by omega), scan_plain _ _ h1 h2, quoP_map]
          exact ih d' (by omega) (i + 1) k _ (by omega) (fun x hx => by
            rcases List.mem_append.1 hx with hx | hx
            · exact hb x hx
            · simp at hx; omega) (by simp; omega)
    · rw [show k + d + 400 = (k + d + 399) + 1 from rfl, lexer_quoted.l0, b_size, if_neg (by omega), List.drop_of_length_le (by omega)]; rfl

/-! ## The reference's -/
theorem good_ascii (x : Int) (t : List Int) (h : x < 128) (hx : xmlC x = true) : Lex.Good (x :: t) ↔ Lex.Good t := by
  rw [good_iff (by simp), dec_ascii x t h]
  simp [hx]
theorem ext_all (s : ByteArray) (i : Nat) : bytesOf (s.extract i s.size) = (bytesOf s).drop i := by
  rw [b_extract, List.take_of_length_le]
  rw [List.length_drop, bytesOf_length]; omega
def Told (x5 : ByteArray) (i : Nat) (sc : Option (List Int × Nat)) (r : Int × ByteArray × Int × Int × Bool) : Prop :=
  (∀ o n, sc = some (o, n) → Lex.Good o → r = (3, x5 ++ strOfNums o, 0, ((i + n : Nat) : Int), decide (((x5.size + o.length : Nat) : Int) ≤ 256))) ∧
  ((∀ o n, sc = some (o, n) → ¬ Lex.Good o) → r.2.2.2.2 = false)
theorem str_size (l : List Int) : (strOfNums l).size = l.length := strOfNums_size l
theorem str_append {l m : List Int} (hl : Bytes l) (hm : Bytes m) : strOfNums (l ++ m) = strOfNums l ++ strOfNums m := by
  apply b_inj
  rw [b_append, b_str hl, b_str hm, b_str]
  intro x hx
  rcases List.mem_append.1 hx with hx | hx
  · exact hl x hx
  · exact hm x hx
theorem app_assoc (a b c : ByteArray) : a ++ b ++ c = a ++ (b ++ c) := by
  apply b_inj; simp only [b_append, List.append_assoc]
theorem ext_str (s : ByteArray) (i j : Nat) : s.extract i j = strOfNums (((bytesOf s).drop i).take (j - i)) := by
  apply b_inj
  rw [b_extract, b_str]
  exact ((bytes_of s).drop i).take _
theorem nil_append (s : ByteArray) : (⟨#[]⟩ : ByteArray) ++ s = s := by apply b_inj; rw [b_append]; rfl
/-- The rest told makes the whole told: of 'p' bytes written and 'q' read. -/
theorem Told.front {x5 : ByteArray} {i : Nat} {sc : Option (List Int × Nat)} {r : Int × ByteArray × Int × Int × Bool} (p : List Int) (q : Nat) (hp : Bytes p) (hsc : ∀ o n, sc = some (o, n) → Bytes o) (hg : ∀ o, Lex.Good (p ++ o) ↔ Lex.Good o)
    (h : Told (x5 ++ strOfNums p) (i + q) sc r) : Told x5 i (sc.map fun r => (p ++ r.1, r.2 + q)) r := by
  constructor
  · intro o n ho hgo
    obtain ⟨⟨o', n'⟩, hs, he⟩ := Option.map_eq_some_iff.1 ho
    cases he
    rw [h.1 o' n' hs ((hg o').1 hgo), str_append hp (hsc o' n' hs), app_assoc]
    simp only [Prod.mk.injEq, true_and]
    refine ⟨by omega, ?_⟩
    rw [ByteArray.size_append, str_size, List.length_append, decide_eq_decide]; omega
  · intro hn
    refine h.2 fun o n hs hgo => ?_
    exact hn (p ++ o) (n + q) (by rw [hs]; rfl) ((hg o).2 hgo)
theorem Told.fail {x5 : ByteArray} {i : Nat} {sc : Option (List Int × Nat)} (h : ∀ o n, sc = some (o, n) → ¬ Lex.Good o) : Told x5 i sc (0, ⟨#[]⟩, 0, 0, false) :=
  ⟨fun o n hs hg => absurd hg (h o n hs), fun _ => rfl⟩
theorem good_head (x : Int) (t o : List Int) (m : Nat) (hb : Bytes (x :: t)) (h1 : x ≠ 34) (h2 : x ≠ 92) (h : scan (x :: t) = some (o, m)) (g : Lex.Good o) : dec (x :: t) = dec o ∧ (dec o).2 ≠ 0 ∧ xmlC (dec o).1 = true := by
  have hO := scan_bytes _ _ rfl hb o m h
  have h' := h
  rw [scan_plain x t h1 h2] at h'
  obtain ⟨⟨o', m'⟩, _, he⟩ := Option.map_eq_some_iff.1 h'
  have ho : o = x :: o' := by cases he; rfl
  have hne : o ≠ [] := by rw [ho]; simp
  have hg := (good_iff hne).1 g
  have hD := dec_two hO.1
  refine ⟨dec_prefix _ _ hO.1 hg.1 (scan_same _ _ _ m h (by omega) fun j hj => ?_), hg.1, hg.2.1⟩
  cases j with
  | zero => rw [ho]; exact ⟨h1, h2⟩
  | succ j => have := dec_cont o hO.1 (j + 1) (by omega) (by omega); omega
theorem good_front (L o : List Int) (hb : Bytes L) (hz : (dec L).2 ≠ 0) (hx : xmlC (dec L).1 = true) : Lex.Good (L.take (dec L).2.toNat ++ o) ↔ Lex.Good o := by
  have hD := dec_two hb
  have hl : (L.take (dec L).2.toNat).length = (dec L).2.toNat := by rw [List.length_take]; omega
  have e : dec (L.take (dec L).2.toNat ++ o) = dec L := dec_prefix _ _ hb hz (by rw [List.take_append_of_le_length (by omega), List.take_of_length_le (by omega)])
  have hne : L.take (dec L).2.toNat ++ o ≠ [] := fun h => by
    have := congrArg List.length h
    rw [List.length_append, hl, List.length_nil] at this
    omega
  rw [good_iff hne, e, List.drop_append_of_le_length (by omega), List.drop_of_length_le (by omega)]
  exact ⟨fun h => h.2.2, fun h => ⟨hz, hx, h⟩⟩
set_option maxHeartbeats 1000000 in
theorem text_at (s : ByteArray) (hs : (bytesOf s).length ≤ 1000) : ∀ (d i k : Nat) (x5 : ByteArray), i + d = (bytesOf s).length → x5.size ≤ i →
    ∃ r, dossierref08_text.l0 (k + d + 60) s x5 (i : Int) = some r ∧ Told x5 i (scan ((bytesOf s).drop i)) r := by
  intro d
  induction d using Nat.strongRecOn with
  | ind d ih =>
    intro i k x5 hi ho
    by_cases hlt : i < (bytesOf s).length
    · have hbx := bytes_of s _ (List.getElem_mem hlt)
      have e2 : wrap64 ((i : Int) + 1) = ((i + 1 : Nat) : Int) := by rw [w64' _ (by omega) (by omega)]; omega
      have e3 : wrap64 ((i : Int) + 2) = ((i + 2 : Nat) : Int) := by rw [w64' _ (by omega) (by omega)]; omega
      obtain ⟨d', rfl⟩ : ∃ d', d = d' + 1 := ⟨d - 1, by omega⟩
      have hss := b_size s
      rw [show k + (d' + 1) + 60 = (k + d' + 60) + 1 from by omega, dossierref08_text.l0, if_pos (by omega), if_pos (by omega), bt_at' hlt, e2, e3]
      by_cases h1 : (bytesOf s)[i] = 34
      · rw [if_pos h1, drop_cons hlt, h1, scan_quote]
        refine ⟨_, rfl, fun o n h g => ?_, fun h => absurd .nil (h [] 1 rfl)⟩
        cases h
        have : x5 ++ strOfNums [] = x5 := by apply b_inj; rw [b_append]; exact List.append_nil _
        rw [this]; rfl
      · rw [if_neg h1]
        by_cases h2 : (bytesOf s)[i] = 92
        · rw [if_pos h2]
          by_cases h3 : i + 1 < (bytesOf s).length
          · have hbx2 := bytes_of s _ (List.getElem_mem h3)
            obtain ⟨d'', rfl⟩ : ∃ d'', d' = d'' + 1 := ⟨d' - 1, by omega⟩
            rw [if_neg (by omega), if_pos (by omega), if_pos (by omega), bt_at' h3, drop_cons hlt, h2, drop_cons h3, scan_esc]
            have hx : s.extract (((i + 1 : Nat) : Int)).toNat (((i + 2 : Nat) : Int)).toNat = strOfNums [(bytesOf s)[i + 1]] := by
              rw [ext_str, Int.toNat_natCast, Int.toNat_natCast, drop_cons h3, show i + 2 - (i + 1) = 1 from by omega]; rfl
            have hsz : (strOfNums [(bytesOf s)[i + 1]]).size = 1 := rfl
            obtain ⟨r, hr, ht⟩ := ih d'' (by omega) (i + 2) (k + 1) (x5 ++ strOfNums [(bytesOf s)[i + 1]]) (by omega) (by rw [ByteArray.size_append, hsz]; omega)
            rw [show k + 1 + d'' + 60 = k + (d'' + 1) + 60 from by omega] at hr
            have hcase : (bytesOf s)[i + 1] = 34 ∨ (bytesOf s)[i + 1] = 92 → Told x5 i ((scan ((bytesOf s).drop (i + 1 + 1))).map fun r => ((bytesOf s)[i + 1] :: r.1, r.2 + 2)) r := fun hc =>
              Told.front [(bytesOf s)[i + 1]] 2 (fun x hx => by simp at hx; omega) (fun o n h => (scan_bytes _ _ rfl ((bytes_of s).drop _) o n h).1)
                (fun o => good_ascii _ o (by omega) (by rcases hc with h | h <;> rw [h] <;> decide)) ht
            by_cases h4 : (bytesOf s)[i + 1] = 34
            · refine ⟨r, ?_, ?_⟩
              · rw [if_pos h4, if_pos (by omega), if_pos (by omega), hx, hsz, if_pos (by omega)]; exact hr
              · rw [if_pos (Or.inl h4)]; exact hcase (Or.inl h4)
            · by_cases h5 : (bytesOf s)[i + 1] = 92
              · refine ⟨r, ?_, ?_⟩
                · rw [if_neg h4, if_pos h5, if_pos (by omega), if_pos (by omega), hx, hsz, if_pos (by omega)]; exact hr
                · rw [if_pos (Or.inr h5)]; exact hcase (Or.inr h5)
              · refine ⟨_, by rw [if_neg h4, if_neg h5], ?_⟩
                rw [if_neg (fun x => x.elim h4 h5)]
                exact Told.fail fun o n h => by cases h
          · refine ⟨_, by rw [if_pos (by omega)], ?_⟩
            rw [drop_cons hlt, h2, List.drop_of_length_le (by omega : (bytesOf s).length ≤ i + 1), scan_end]
            exact Told.fail fun o n h => by cases h
        · rw [if_neg h2, if_pos (by omega)]
          have hb := (bytes_of s).drop i
          have hD := dec_two hb
          have hdl : ((bytesOf s).drop i).length = (bytesOf s).length - i := List.length_drop
          have hex : bytesOf (s.extract ((i : Int)).toNat s.size) = (bytesOf s).drop i := by rw [Int.toNat_natCast, ext_all]
          have hexs : (s.extract ((i : Int)).toNat s.size).size < 140737488355328 := by rw [b_size, hex]; omega
          rw [if_pos hexs, hex, show k + d' + 60 = (k + d' + 50) + 10 from rfl, ref_Decode_spec _ _ hb, Option.bind_some]
          have gh := fun o m => good_head (bytesOf s)[i] ((bytesOf s).drop (i + 1)) o m (by rw [← drop_cons hlt]; exact hb) h1 h2
          rw [← drop_cons hlt] at gh
          by_cases hz : (dec ((bytesOf s).drop i)).2 = 0
          · refine ⟨_, by rw [if_pos hz], Told.fail fun o n h g => ?_⟩
            have := gh o n h g
            rw [← this.1] at this
            exact this.2.1 hz
          · rw [if_neg hz, show k + d' + 50 + 10 = (k + d' + 40) + 20 from rfl, ref_OfXML_spec, Option.bind_some]
            by_cases hx : xmlC (dec ((bytesOf s).drop i)).1 = true
            · have ew : wrap64 ((i : Int) + (dec ((bytesOf s).drop i)).2) = ((i + (dec ((bytesOf s).drop i)).2.toNat : Nat) : Int) := by rw [w64' _ (by omega) (by omega)]; omega
              generalize hn : (dec ((bytesOf s).drop i)).2.toNat = n at ew
              have hxx : s.extract ((i : Int)).toNat (((i + n : Nat) : Int)).toNat = strOfNums (((bytesOf s).drop i).take n) := by
                rw [ext_str, Int.toNat_natCast, Int.toNat_natCast, show i + n - i = n from by omega]
              have hsz : (strOfNums (((bytesOf s).drop i).take n)).size = n := by rw [str_size, List.length_take]; omega
              obtain ⟨r, hr, ht⟩ := ih (d' + 1 - n) (by omega) (i + n) (k + n - 1) (x5 ++ strOfNums (((bytesOf s).drop i).take n)) (by omega) (by rw [ByteArray.size_append, hsz]; omega)
              rw [show k + n - 1 + (d' + 1 - n) + 60 = k + d' + 40 + 20 from by omega] at hr
              refine ⟨r, ?_, ?_⟩
              · rw [if_pos hx, ew, if_pos (by omega), if_pos (by omega), hxx, hsz, if_pos (by omega)]; exact hr
              · have hsk := scan_skip n ((bytesOf s).drop i) (by omega) fun j hj => by
                  cases j with
                  | zero => rw [drop_cons hlt]; exact ⟨h1, h2⟩
                  | succ j => have := dec_cont _ hb (j + 1) (by omega) (by omega); omega
                rw [hsk, List.drop_drop]
                exact Told.front _ n (hb.take n) (fun o m h => (scan_bytes _ _ rfl ((bytes_of s).drop _) o m h).1) (fun o => by rw [← hn]; exact good_front _ o hb hz hx) ht
            · refine ⟨_, by rw [if_neg hx], Told.fail fun o n h g => ?_⟩
              have := gh o n h g
              rw [← this.1] at this
              exact hx this.2.2
    · rw [show k + d + 60 = (k + d + 59) + 1 from rfl, dossierref08_text.l0, b_size, if_neg (by omega), List.drop_of_length_le (by omega)]
      exact ⟨_, rfl, Told.fail fun o n h => by cases h⟩
end Go.Proofs.YtifgpigicgaadaaGreatDoor.Quoted
end
section
namespace Go.Proofs.YtifgpigicgaadaaGreatDoor.Q
open Go.RowKit Go.Proofs.YtifgpigicgaadaaGreatDoorH Go.Proofs.YtifgpigicgaadaaGreatDoorW.PrintWords Go.Proofs.YtifgpigicgaadaaGreatDoorW.PrintLast Go.Proofs.YtifgpigicgaadaaGreatDoorW.PrintMore
attribute [local go_sem] max2_int min2_int max_two min_two max_three min_three max_four min_four
set_option linter.unusedVariables false
set_option linter.unusedSimpArgs false
section
/-! ### strings_TrimLeft: function 40 -/
/-- At a cutset of ASCII bytes that is not too long (nothing at another one). -/
def strings_TrimLeft.f (a0 : ByteArray) (a1 : ByteArray) : Option ByteArray := if a1.data.toList.all (fun b => decide (b.toNat < 128)) = true ∧ a1.size < 4294967281 then some ⟨(Lib.trimLeftS a0.data.toList a1.data.toList).toArray⟩ else none
theorem strings_TrimLeft.calls (a0 : ByteArray) (a1 : ByteArray) (r : ByteArray) (w : World) (h : strings_TrimLeft.f a0 a1 = some r) :
 Calls Tryz.prog 40 #[.string a0,.string a1] w fun e w' => e = .returned (.string r) ∧ Below w.heap.size w w' := by
 unfold strings_TrimLeft.f at h
 by_cases hc : a1.data.toList.all (fun b => decide (b.toNat < 128)) = true ∧ a1.size < 4294967281
 · rw [if_pos hc] at h
   obtain rfl := Option.some.inj h
   refine Any.strings_TrimLeft_laid Tryz.layTrimLeft (by kernel_rfl) a0 a1 w hc.2 fun j b hb => ?_
   have := List.all_eq_true.1 hc.1 b (List.mem_of_getElem? hb)
   simpa using this
 · rw [if_neg hc] at h; cases h
end
section
/-! ### lexer_sign: function 63 -/
def lexer_sign.l0 : Nat → ByteArray → Int → Option (ByteArray)
 | 0,_,_ => none
 | k + 1,x0,x3 => if x3 > 0 then (if 0 ≤ x3 then (if x3 ≤ (x0.size : Int) then (if (x0.extract 0 (x3 : Int).toNat).toList = ([60,61] : List UInt8) then (some (x0.extract 0 (x3 : Int).toNat)) else (if (x0.extract 0 (x3 : Int).toNat).toList = ([62,61] : List UInt8) then (some (x0.extract 0 (x3 : Int).toNat)) else (if (x0.extract 0 (x3 : Int).toNat).toList = ([33,61] : List UInt8) then (some (x0.extract 0 (x3 : Int).toNat)) else (if (x0.extract 0 (x3 : Int).toNat).toList = ([40] : List UInt8) then (some (x0.extract 0 (x3 : Int).toNat)) else (if (x0.extract 0 (x3 : Int).toNat).toList = ([41] : List UInt8) then (some (x0.extract 0 (x3 : Int).toNat)) else (if (x0.extract 0 (x3 : Int).toNat).toList = ([46] : List UInt8) then (some (x0.extract 0 (x3 : Int).toNat)) else (if (x0.extract 0 (x3 : Int).toNat).toList = ([44] : List UInt8) then (some (x0.extract 0 (x3 : Int).toNat)) else (if (x0.extract 0 (x3 : Int).toNat).toList = ([43] : List UInt8) then (some (x0.extract 0 (x3 : Int).toNat)) else (if (x0.extract 0 (x3 : Int).toNat).toList = ([45] : List UInt8) then (some (x0.extract 0 (x3 : Int).toNat)) else (if (x0.extract 0 (x3 : Int).toNat).toList = ([42] : List UInt8) then (some (x0.extract 0 (x3 : Int).toNat)) else (if (x0.extract 0 (x3 : Int).toNat).toList = ([47] : List UInt8) then (some (x0.extract 0 (x3 : Int).toNat)) else (if (x0.extract 0 (x3 : Int).toNat).toList = ([37] : List UInt8) then (some (x0.extract 0 (x3 : Int).toNat)) else (if (x0.extract 0 (x3 : Int).toNat).toList = ([60] : List UInt8) then (some (x0.extract 0 (x3 : Int).toNat)) else (if (x0.extract 0 (x3 : Int).toNat).toList = ([62] : List UInt8) then (some (x0.extract 0 (x3 : Int).toNat)) else (if (x0.extract 0 (x3 : Int).toNat).toList = ([61] : List UInt8) then (some (x0.extract 0 (x3 : Int).toNat)) else (lexer_sign.l0 k x0 (wrap64 (x3 - 1)))))))))))))))))) else (none)) else (none)) else (some (⟨#[]⟩ : ByteArray))
def lexer_sign.f (k : Nat) (a0 : ByteArray) : Option (ByteArray) := lexer_sign.l0 k a0 (mn 2 (a0.size : Int))
theorem lexer_sign.mono_l : ∀ k,(∀ y0 y1,LeO (lexer_sign.l0 k y0 y1) (lexer_sign.l0 (k + 1) y0 y1))
 | 0 => fun _ _ r h => by simp [lexer_sign.l0] at h
 | k + 1 => by
  have ih0 := lexer_sign.mono_l k
  · intro y0 y1
    unfold lexer_sign.l0
    repeat' first
    | (with_reducible exact ih0 _ _)
    | (with_reducible exact LeO.refl _)
    | (with_reducible exact LeO.none _)
    | (with_reducible refine LeO.ite ?_ ?_)
    | (with_reducible refine LeO.bind ?_ (fun _ => ?_))
    | exact ih0 _ _
    | exact LeO.none _
    | refine LeO.ite ?_ ?_
    | refine LeO.bind ?_ (fun _ => ?_)
theorem lexer_sign.mono : ∀ a0 k,LeO (lexer_sign.f k a0) (lexer_sign.f (k + 1) a0) := by
 intro a0 k
 have ih0 := lexer_sign.mono_l k
 unfold lexer_sign.f
 repeat' first
  | (with_reducible exact ih0 _ _)
  | (with_reducible exact LeO.refl _)
  | (with_reducible exact LeO.none _)
  | (with_reducible refine LeO.ite ?_ ?_)
  | (with_reducible refine LeO.bind ?_ (fun _ => ?_))
  | exact ih0 _ _
  | exact LeO.none _
  | refine LeO.ite ?_ ?_
  | refine LeO.bind ?_ (fun _ => ?_)
set_option maxHeartbeats 8000000 in
set_option maxRecDepth 100000 in
theorem lexer_sign.calls (k : Nat) (a0 : ByteArray) (r : ByteArray) (w : World) (h : lexer_sign.f k a0 = some r) :
 Calls Tryz.prog 63 #[.string a0] w fun e w' => e = .returned (.string r) ∧ Below w.heap.size w w' := by
 have HB := Aside0.mk (Below.refl w.heap.size w)
 have H : (lexer_sign.l0 k a0 (mn 2 (a0.size : Int))) = some r := h
 clear h
 obtain ⟨ji2,hji2⟩ : ∃ j_ : Int,(mn 2 (a0.size : Int)) = j_ := ⟨_,rfl⟩
 replace H : (lexer_sign.l0 k a0 ji2) = some r := by first | (rw [hji2] at H; exact H) | (simp only [hji2] at H ⊢; exact H)
 (try (have hji2h : ji2 ≤ 2 := by (rw [← hji2]; unfold mn; (repeat' split) <;> omega)))
 (try (have hji2g : ji2 ≤ 64 := by omega))
 (try (have hji2l : 0 ≤ ji2 := by (rw [← hji2]; unfold mn; (repeat' split) <;> omega)))
 (try (have hji2m : 0 ≤ ji2 := by omega))
 have hji2_ : (if (a0.size : Int) < 2 then (a0.size : Int) else 2) = ji2 := hji2
 have H' := Aside0.mk H
 clear H
 go_enter Tryz.func63,Tryz.ntmps63
 go_wp2
 go_loopg [3] k (fun kq v3 w' => ∃ (x3_1 : Int),v3 = .int .i64 x3_1 ∧ Aside0 (lexer_sign.l0 kq a0 x3_1 = some r) ∧ Aside0 (kq ≤ k) ∧ Aside0 (Below w.heap.size w w'))
 case atStart => exact ⟨(ji2),(by first | rfl | (simp; done) | (simp only [← hji2] <;> (first | rfl | simp)) | (simp [*]; done)),H',⟨Nat.le_refl _⟩,⟨by repeat (first | (with_reducible first | exact HB.out | apply below_alloc | apply pw_below_drewN | apply below_drew1 | apply bytes_below1) | exact HB.out)⟩⟩
 case round =>
  clear H'
  try clear p2
  obtain ⟨x3_1,rfl,HA,HK1,HB⟩ := hrel
  cases gk with
  | zero => exact absurd HA.out (by simp [lexer_sign.l0])
  | succ k1 =>
   have H := HA.out
   clear HA
   simp only [lexer_sign.l0] at H
   by_cases c3 : x3_1 > 0
   · rw [if_pos c3] at H
     have c3b0 : decide (0 < x3_1) = true := decide_eq_true c3
     clear c3
     by_cases c4 : 0 ≤ x3_1
     · rw [if_pos c4] at H
       have c4b0 := eq_true c4
       have c4b1 : decide (0 ≤ x3_1) = true := decide_eq_true c4
       clear c4
       by_cases c5 : x3_1 ≤ (a0.size : Int)
       · rw [if_pos c5] at H
         have c5b0 := eq_true c5
         have c5b1 : decide (x3_1 ≤ (a0.size : Int)) = true := decide_eq_true c5
         clear c5
         by_cases c6 : (a0.extract 0 (x3_1 : Int).toNat).toList = ([60,61] : List UInt8)
         · rw [if_pos c6] at H
           have c6b0 : ((a0.extract 0 (x3_1 : Int).toNat).toList == ([60,61] : List UInt8)) = true := beq_iff_eq.mpr c6
           have c6b1 : ((a0.extract 0 (x3_1 : Int).toNat).toList != ([60,61] : List UInt8)) = false := bne_eq_false_iff_eq.mpr c6
           clear c6
           have c7b0 := eq_true (of_decide_eq_true (by first | (with_reducible assumption) | assumption) : 0 ≤ x3_1)
           have c8b0 := eq_true (of_decide_eq_true (by first | (with_reducible assumption) | assumption) : x3_1 ≤ (a0.size : Int))
           obtain rfl := Option.some.inj H
           go_wp2
           go_ret
           exact ⟨by first | rfl | (simp [errW_none,errW_some] <;> rfl) | (simp only [← hji2]; first | rfl | (simp [errW_none,errW_some] <;> rfl)) | (simp [*,errW_none,errW_some] <;> rfl),by repeat (first | (with_reducible first | exact HB.out | apply below_alloc | apply pw_below_drewN | apply below_drew1 | apply bytes_below1) | exact HB.out)⟩
         · rw [if_neg c6] at H
           have c6b0 : ((a0.extract 0 (x3_1 : Int).toNat).toList == ([60,61] : List UInt8)) = false := beq_eq_false_iff_ne.mpr c6
           have c6b1 : ((a0.extract 0 (x3_1 : Int).toNat).toList != ([60,61] : List UInt8)) = true := bne_iff_ne.mpr c6
           by_cases c9 : (a0.extract 0 (x3_1 : Int).toNat).toList = ([62,61] : List UInt8)
           · rw [if_pos c9] at H
             have c9b0 : ((a0.extract 0 (x3_1 : Int).toNat).toList == ([62,61] : List UInt8)) = true := beq_iff_eq.mpr c9
             have c9b1 : ((a0.extract 0 (x3_1 : Int).toNat).toList != ([62,61] : List UInt8)) = false := bne_eq_false_iff_eq.mpr c9
             clear c9
             have c10b0 := eq_true (of_decide_eq_true (by first | (with_reducible assumption) | assumption) : 0 ≤ x3_1)
             have c11b0 := eq_true (of_decide_eq_true (by first | (with_reducible assumption) | assumption) : x3_1 ≤ (a0.size : Int))
             obtain rfl := Option.some.inj H
             go_wp2
             go_ret
             exact ⟨by first | rfl | (simp [errW_none,errW_some] <;> rfl) | (simp only [← hji2]; first | rfl | (simp [errW_none,errW_some] <;> rfl)) | (simp [*,errW_none,errW_some] <;> rfl),by repeat (first | (with_reducible first | exact HB.out | apply below_alloc | apply pw_below_drewN | apply below_drew1 | apply bytes_below1) | exact HB.out)⟩
           · rw [if_neg c9] at H
             have c9b0 : ((a0.extract 0 (x3_1 : Int).toNat).toList == ([62,61] : List UInt8)) = false := beq_eq_false_iff_ne.mpr c9
             have c9b1 : ((a0.extract 0 (x3_1 : Int).toNat).toList != ([62,61] : List UInt8)) = true := bne_iff_ne.mpr c9
             by_cases c12 : (a0.extract 0 (x3_1 : Int).toNat).toList = ([33,61] : List UInt8)
             · rw [if_pos c12] at H
               have c12b0 : ((a0.extract 0 (x3_1 : Int).toNat).toList == ([33,61] : List UInt8)) = true := beq_iff_eq.mpr c12
               have c12b1 : ((a0.extract 0 (x3_1 : Int).toNat).toList != ([33,61] : List UInt8)) = false := bne_eq_false_iff_eq.mpr c12
               clear c12
               have c13b0 := eq_true (of_decide_eq_true (by first | (with_reducible assumption) | assumption) : 0 ≤ x3_1)
               have c14b0 := eq_true (of_decide_eq_true (by first | (with_reducible assumption) | assumption) : x3_1 ≤ (a0.size : Int))
               obtain rfl := Option.some.inj H
               go_wp2
               go_ret
               exact ⟨by first | rfl | (simp [errW_none,errW_some] <;> rfl) | (simp only [← hji2]; first | rfl | (simp [errW_none,errW_some] <;> rfl)) | (simp [*,errW_none,errW_some] <;> rfl),by repeat (first | (with_reducible first | exact HB.out | apply below_alloc | apply pw_below_drewN | apply below_drew1 | apply bytes_below1) | exact HB.out)⟩
             · rw [if_neg c12] at H
               have c12b0 : ((a0.extract 0 (x3_1 : Int).toNat).toList == ([33,61] : List UInt8)) = false := beq_eq_false_iff_ne.mpr c12
               have c12b1 : ((a0.extract 0 (x3_1 : Int).toNat).toList != ([33,61] : List UInt8)) = true := bne_iff_ne.mpr c12
               by_cases c15 : (a0.extract 0 (x3_1 : Int).toNat).toList = ([40] : List UInt8)
               · rw [if_pos c15] at H
                 have c15b0 : ((a0.extract 0 (x3_1 : Int).toNat).toList == ([40] : List UInt8)) = true := beq_iff_eq.mpr c15
                 have c15b1 : ((a0.extract 0 (x3_1 : Int).toNat).toList != ([40] : List UInt8)) = false := bne_eq_false_iff_eq.mpr c15
                 clear c15
                 have c16b0 := eq_true (of_decide_eq_true (by first | (with_reducible assumption) | assumption) : 0 ≤ x3_1)
                 have c17b0 := eq_true (of_decide_eq_true (by first | (with_reducible assumption) | assumption) : x3_1 ≤ (a0.size : Int))
                 obtain rfl := Option.some.inj H
                 go_wp2
                 go_ret
                 exact ⟨by first | rfl | (simp [errW_none,errW_some] <;> rfl) | (simp only [← hji2]; first | rfl | (simp [errW_none,errW_some] <;> rfl)) | (simp [*,errW_none,errW_some] <;> rfl),by repeat (first | (with_reducible first | exact HB.out | apply below_alloc | apply pw_below_drewN | apply below_drew1 | apply bytes_below1) | exact HB.out)⟩
               · rw [if_neg c15] at H
                 have c15b0 : ((a0.extract 0 (x3_1 : Int).toNat).toList == ([40] : List UInt8)) = false := beq_eq_false_iff_ne.mpr c15
                 have c15b1 : ((a0.extract 0 (x3_1 : Int).toNat).toList != ([40] : List UInt8)) = true := bne_iff_ne.mpr c15
                 by_cases c18 : (a0.extract 0 (x3_1 : Int).toNat).toList = ([41] : List UInt8)
                 · rw [if_pos c18] at H
                   have c18b0 : ((a0.extract 0 (x3_1 : Int).toNat).toList == ([41] : List UInt8)) = true := beq_iff_eq.mpr c18
                   have c18b1 : ((a0.extract 0 (x3_1 : Int).toNat).toList != ([41] : List UInt8)) = false := bne_eq_false_iff_eq.mpr c18
                   clear c18
                   have c19b0 := eq_true (of_decide_eq_true (by first | (with_reducible assumption) | assumption) : 0 ≤ x3_1)
                   have c20b0 := eq_true (of_decide_eq_true (by first | (with_reducible assumption) | assumption) : x3_1 ≤ (a0.size : Int))
                   obtain rfl := Option.some.inj H
                   go_wp2
                   go_ret
                   exact ⟨by first | rfl | (simp [errW_none,errW_some] <;> rfl) | (simp only [← hji2]; first | rfl | (simp [errW_none,errW_some] <;> rfl)) | (simp [*,errW_none,errW_some] <;> rfl),by repeat (first | (with_reducible first | exact HB.out | apply below_alloc | apply pw_below_drewN | apply below_drew1 | apply bytes_below1) | exact HB.out)⟩
                 · rw [if_neg c18] at H
                   have c18b0 : ((a0.extract 0 (x3_1 : Int).toNat).toList == ([41] : List UInt8)) = false := beq_eq_false_iff_ne.mpr c18
                   have c18b1 : ((a0.extract 0 (x3_1 : Int).toNat).toList != ([41] : List UInt8)) = true := bne_iff_ne.mpr c18
                   by_cases c21 : (a0.extract 0 (x3_1 : Int).toNat).toList = ([46] : List UInt8)
                   · rw [if_pos c21] at H
                     have c21b0 : ((a0.extract 0 (x3_1 : Int).toNat).toList == ([46] : List UInt8)) = true := beq_iff_eq.mpr c21
                     have c21b1 : ((a0.extract 0 (x3_1 : Int).toNat).toList != ([46] : List UInt8)) = false := bne_eq_false_iff_eq.mpr c21
                     clear c21
                     have c22b0 := eq_true (of_decide_eq_true (by first | (with_reducible assumption) | assumption) : 0 ≤ x3_1)
                     have c23b0 := eq_true (of_decide_eq_true (by first | (with_reducible assumption) | assumption) : x3_1 ≤ (a0.size : Int))
                     obtain rfl := Option.some.inj H
                     go_wp2
                     go_ret
                     exact ⟨by first | rfl | (simp [errW_none,errW_some] <;> rfl) | (simp only [← hji2]; first | rfl | (simp [errW_none,errW_some] <;> rfl)) | (simp [*,errW_none,errW_some] <;> rfl),by repeat (first | (with_reducible first | exact HB.out | apply below_alloc | apply pw_below_drewN | apply below_drew1 | apply bytes_below1) | exact HB.out)⟩
                   · rw [if_neg c21] at H
                     have c21b0 : ((a0.extract 0 (x3_1 : Int).toNat).toList == ([46] : List UInt8)) = false := beq_eq_false_iff_ne.mpr c21
                     have c21b1 : ((a0.extract 0 (x3_1 : Int).toNat).toList != ([46] : List UInt8)) = true := bne_iff_ne.mpr c21
                     by_cases c24 : (a0.extract 0 (x3_1 : Int).toNat).toList = ([44] : List UInt8)
                     · rw [if_pos c24] at H
                       have c24b0 : ((a0.extract 0 (x3_1 : Int).toNat).toList == ([44] : List UInt8)) = true := beq_iff_eq.mpr c24
                       have c24b1 : ((a0.extract 0 (x3_1 : Int).toNat).toList != ([44] : List UInt8)) = false := bne_eq_false_iff_eq.mpr c24
                       clear c24
                       have c25b0 := eq_true (of_decide_eq_true (by first | (with_reducible assumption) | assumption) : 0 ≤ x3_1)
                       have c26b0 := eq_true (of_decide_eq_true (by first | (with_reducible assumption) | assumption) : x3_1 ≤ (a0.size : Int))
                       obtain rfl := Option.some.inj H
                       go_wp2
                       go_ret
                       exact ⟨by first | rfl | (simp [errW_none,errW_some] <;> rfl) | (simp only [← hji2]; first | rfl | (simp [errW_none,errW_some] <;> rfl)) | (simp [*,errW_none,errW_some] <;> rfl),by repeat (first | (with_reducible first | exact HB.out | apply below_alloc | apply pw_below_drewN | apply below_drew1 | apply bytes_below1) | exact HB.out)⟩
                     · rw [if_neg c24] at H
                       have c24b0 : ((a0.extract 0 (x3_1 : Int).toNat).toList == ([44] : List UInt8)) = false := beq_eq_false_iff_ne.mpr c24
                       have c24b1 : ((a0.extract 0 (x3_1 : Int).toNat).toList != ([44] : List UInt8)) = true := bne_iff_ne.mpr c24
                       by_cases c27 : (a0.extract 0 (x3_1 : Int).toNat).toList = ([43] : List UInt8)
                       · rw [if_pos c27] at H
                         have c27b0 : ((a0.extract 0 (x3_1 : Int).toNat).toList == ([43] : List UInt8)) = true := beq_iff_eq.mpr c27
                         have c27b1 : ((a0.extract 0 (x3_1 : Int).toNat).toList != ([43] : List UInt8)) = false := bne_eq_false_iff_eq.mpr c27
                         clear c27
                         have c28b0 := eq_true (of_decide_eq_true (by first | (with_reducible assumption) | assumption) : 0 ≤ x3_1)
                         have c29b0 := eq_true (of_decide_eq_true (by first | (with_reducible assumption) | assumption) : x3_1 ≤ (a0.size : Int))
                         obtain rfl := Option.some.inj H
                         go_wp2
                         go_ret
                         exact ⟨by first | rfl | (simp [errW_none,errW_some] <;> rfl) | (simp only [← hji2]; first | rfl | (simp [errW_none,errW_some] <;> rfl)) | (simp [*,errW_none,errW_some] <;> rfl),by repeat (first | (with_reducible first | exact HB.out | apply below_alloc | apply pw_below_drewN | apply below_drew1 | apply bytes_below1) | exact HB.out)⟩
                       · rw [if_neg c27] at H
                         have c27b0 : ((a0.extract 0 (x3_1 : Int).toNat).toList == ([43] : List UInt8)) = false := beq_eq_false_iff_ne.mpr c27
                         have c27b1 : ((a0.extract 0 (x3_1 : Int).toNat).toList != ([43] : List UInt8)) = true := bne_iff_ne.mpr c27
                         by_cases c30 : (a0.extract 0 (x3_1 : Int).toNat).toList = ([45] : List UInt8)
                         · rw [if_pos c30] at H
                           have c30b0 : ((a0.extract 0 (x3_1 : Int).toNat).toList == ([45] : List UInt8)) = true := beq_iff_eq.mpr c30
                           have c30b1 : ((a0.extract 0 (x3_1 : Int).toNat).toList != ([45] : List UInt8)) = false := bne_eq_false_iff_eq.mpr c30
                           clear c30
                           have c31b0 := eq_true (of_decide_eq_true (by first | (with_reducible assumption) | assumption) : 0 ≤ x3_1)
                           have c32b0 := eq_true (of_decide_eq_true (by first | (with_reducible assumption) | assumption) : x3_1 ≤ (a0.size : Int))
                           obtain rfl := Option.some.inj H
                           go_wp2
                           go_ret
                           exact ⟨by first | rfl | (simp [errW_none,errW_some] <;> rfl) | (simp only [← hji2]; first | rfl | (simp [errW_none,errW_some] <;> rfl)) | (simp [*,errW_none,errW_some] <;> rfl),by repeat (first | (with_reducible first | exact HB.out | apply below_alloc | apply pw_below_drewN | apply below_drew1 | apply bytes_below1) | exact HB.out)⟩
                         · rw [if_neg c30] at H
                           have c30b0 : ((a0.extract 0 (x3_1 : Int).toNat).toList == ([45] : List UInt8)) = false := beq_eq_false_iff_ne.mpr c30
                           have c30b1 : ((a0.extract 0 (x3_1 : Int).toNat).toList != ([45] : List UInt8)) = true := bne_iff_ne.mpr c30
                           by_cases c33 : (a0.extract 0 (x3_1 : Int).toNat).toList = ([42] : List UInt8)
                           · rw [if_pos c33] at H
                             have c33b0 : ((a0.extract 0 (x3_1 : Int).toNat).toList == ([42] : List UInt8)) = true := beq_iff_eq.mpr c33
                             have c33b1 : ((a0.extract 0 (x3_1 : Int).toNat).toList != ([42] : List UInt8)) = false := bne_eq_false_iff_eq.mpr c33
                             clear c33
                             have c34b0 := eq_true (of_decide_eq_true (by first | (with_reducible assumption) | assumption) : 0 ≤ x3_1)
                             have c35b0 := eq_true (of_decide_eq_true (by first | (with_reducible assumption) | assumption) : x3_1 ≤ (a0.size : Int))
                             obtain rfl := Option.some.inj H
                             go_wp2
                             go_ret
                             exact ⟨by first | rfl | (simp [errW_none,errW_some] <;> rfl) | (simp only [← hji2]; first | rfl | (simp [errW_none,errW_some] <;> rfl)) | (simp [*,errW_none,errW_some] <;> rfl),by repeat (first | (with_reducible first | exact HB.out | apply below_alloc | apply pw_below_drewN | apply below_drew1 | apply bytes_below1) | exact HB.out)⟩
                           · rw [if_neg c33] at H
                             have c33b0 : ((a0.extract 0 (x3_1 : Int).toNat).toList == ([42] : List UInt8)) = false := beq_eq_false_iff_ne.mpr c33
                             have c33b1 : ((a0.extract 0 (x3_1 : Int).toNat).toList != ([42] : List UInt8)) = true := bne_iff_ne.mpr c33
                             by_cases c36 : (a0.extract 0 (x3_1 : Int).toNat).toList = ([47] : List UInt8)
                             · rw [if_pos c36] at H
                               have c36b0 : ((a0.extract 0 (x3_1 : Int).toNat).toList == ([47] : List UInt8)) = true := beq_iff_eq.mpr c36
                               have c36b1 : ((a0.extract 0 (x3_1 : Int).toNat).toList != ([47] : List UInt8)) = false := bne_eq_false_iff_eq.mpr c36
                               clear c36
                               have c37b0 := eq_true (of_decide_eq_true (by first | (with_reducible assumption) | assumption) : 0 ≤ x3_1)
                               have c38b0 := eq_true (of_decide_eq_true (by first | (with_reducible assumption) | assumption) : x3_1 ≤ (a0.size : Int))
                               obtain rfl := Option.some.inj H
                               go_wp2
                               go_ret
                               exact ⟨by first | rfl | (simp [errW_none,errW_some] <;> rfl) | (simp only [← hji2]; first | rfl | (simp [errW_none,errW_some] <;> rfl)) | (simp [*,errW_none,errW_some] <;> rfl),by repeat (first | (with_reducible first | exact HB.out | apply below_alloc | apply pw_below_drewN | apply below_drew1 | apply bytes_below1) | exact HB.out)⟩
                             · rw [if_neg c36] at H
                               have c36b0 : ((a0.extract 0 (x3_1 : Int).toNat).toList == ([47] : List UInt8)) = false := beq_eq_false_iff_ne.mpr c36
                               have c36b1 : ((a0.extract 0 (x3_1 : Int).toNat).toList != ([47] : List UInt8)) = true := bne_iff_ne.mpr c36
                               by_cases c39 : (a0.extract 0 (x3_1 : Int).toNat).toList = ([37] : List UInt8)
                               · rw [if_pos c39] at H
                                 have c39b0 : ((a0.extract 0 (x3_1 : Int).toNat).toList == ([37] : List UInt8)) = true := beq_iff_eq.mpr c39
                                 have c39b1 : ((a0.extract 0 (x3_1 : Int).toNat).toList != ([37] : List UInt8)) = false := bne_eq_false_iff_eq.mpr c39
                                 clear c39
                                 have c40b0 := eq_true (of_decide_eq_true (by first | (with_reducible assumption) | assumption) : 0 ≤ x3_1)
                                 have c41b0 := eq_true (of_decide_eq_true (by first | (with_reducible assumption) | assumption) : x3_1 ≤ (a0.size : Int))
                                 obtain rfl := Option.some.inj H
                                 go_wp2
                                 go_ret
                                 exact ⟨by first | rfl | (simp [errW_none,errW_some] <;> rfl) | (simp only [← hji2]; first | rfl | (simp [errW_none,errW_some] <;> rfl)) | (simp [*,errW_none,errW_some] <;> rfl),by repeat (first | (with_reducible first | exact HB.out | apply below_alloc | apply pw_below_drewN | apply below_drew1 | apply bytes_below1) | exact HB.out)⟩
                               · rw [if_neg c39] at H
                                 have c39b0 : ((a0.extract 0 (x3_1 : Int).toNat).toList == ([37] : List UInt8)) = false := beq_eq_false_iff_ne.mpr c39
                                 have c39b1 : ((a0.extract 0 (x3_1 : Int).toNat).toList != ([37] : List UInt8)) = true := bne_iff_ne.mpr c39
                                 by_cases c42 : (a0.extract 0 (x3_1 : Int).toNat).toList = ([60] : List UInt8)
                                 · rw [if_pos c42] at H
                                   have c42b0 : ((a0.extract 0 (x3_1 : Int).toNat).toList == ([60] : List UInt8)) = true := beq_iff_eq.mpr c42
                                   have c42b1 : ((a0.extract 0 (x3_1 : Int).toNat).toList != ([60] : List UInt8)) = false := bne_eq_false_iff_eq.mpr c42
                                   clear c42
                                   have c43b0 := eq_true (of_decide_eq_true (by first | (with_reducible assumption) | assumption) : 0 ≤ x3_1)
                                   have c44b0 := eq_true (of_decide_eq_true (by first | (with_reducible assumption) | assumption) : x3_1 ≤ (a0.size : Int))
                                   obtain rfl := Option.some.inj H
                                   go_wp2
                                   go_ret
                                   exact ⟨by first | rfl | (simp [errW_none,errW_some] <;> rfl) | (simp only [← hji2]; first | rfl | (simp [errW_none,errW_some] <;> rfl)) | (simp [*,errW_none,errW_some] <;> rfl),by repeat (first | (with_reducible first | exact HB.out | apply below_alloc | apply pw_below_drewN | apply below_drew1 | apply bytes_below1) | exact HB.out)⟩
                                 · rw [if_neg c42] at H
                                   have c42b0 : ((a0.extract 0 (x3_1 : Int).toNat).toList == ([60] : List UInt8)) = false := beq_eq_false_iff_ne.mpr c42
                                   have c42b1 : ((a0.extract 0 (x3_1 : Int).toNat).toList != ([60] : List UInt8)) = true := bne_iff_ne.mpr c42
                                   by_cases c45 : (a0.extract 0 (x3_1 : Int).toNat).toList = ([62] : List UInt8)
                                   · rw [if_pos c45] at H
                                     have c45b0 : ((a0.extract 0 (x3_1 : Int).toNat).toList == ([62] : List UInt8)) = true := beq_iff_eq.mpr c45
                                     have c45b1 : ((a0.extract 0 (x3_1 : Int).toNat).toList != ([62] : List UInt8)) = false := bne_eq_false_iff_eq.mpr c45
                                     clear c45
                                     have c46b0 := eq_true (of_decide_eq_true (by first | (with_reducible assumption) | assumption) : 0 ≤ x3_1)
                                     have c47b0 := eq_true (of_decide_eq_true (by first | (with_reducible assumption) | assumption) : x3_1 ≤ (a0.size : Int))
                                     obtain rfl := Option.some.inj H
                                     go_wp2
                                     go_ret
                                     exact ⟨by first | rfl | (simp [errW_none,errW_some] <;> rfl) | (simp only [← hji2]; first | rfl | (simp [errW_none,errW_some] <;> rfl)) | (simp [*,errW_none,errW_some] <;> rfl),by repeat (first | (with_reducible first | exact HB.out | apply below_alloc | apply pw_below_drewN | apply below_drew1 | apply bytes_below1) | exact HB.out)⟩
                                   · rw [if_neg c45] at H
                                     have c45b0 : ((a0.extract 0 (x3_1 : Int).toNat).toList == ([62] : List UInt8)) = false := beq_eq_false_iff_ne.mpr c45
                                     have c45b1 : ((a0.extract 0 (x3_1 : Int).toNat).toList != ([62] : List UInt8)) = true := bne_iff_ne.mpr c45
                                     by_cases c48 : (a0.extract 0 (x3_1 : Int).toNat).toList = ([61] : List UInt8)
                                     · rw [if_pos c48] at H
                                       have c48b0 : ((a0.extract 0 (x3_1 : Int).toNat).toList == ([61] : List UInt8)) = true := beq_iff_eq.mpr c48
                                       have c48b1 : ((a0.extract 0 (x3_1 : Int).toNat).toList != ([61] : List UInt8)) = false := bne_eq_false_iff_eq.mpr c48
                                       clear c48
                                       have c49b0 := eq_true (of_decide_eq_true (by first | (with_reducible assumption) | assumption) : 0 ≤ x3_1)
                                       have c50b0 := eq_true (of_decide_eq_true (by first | (with_reducible assumption) | assumption) : x3_1 ≤ (a0.size : Int))
                                       obtain rfl := Option.some.inj H
                                       go_wp2
                                       go_ret
                                       exact ⟨by first | rfl | (simp [errW_none,errW_some] <;> rfl) | (simp only [← hji2]; first | rfl | (simp [errW_none,errW_some] <;> rfl)) | (simp [*,errW_none,errW_some] <;> rfl),by repeat (first | (with_reducible first | exact HB.out | apply below_alloc | apply pw_below_drewN | apply below_drew1 | apply bytes_below1) | exact HB.out)⟩
                                     · rw [if_neg c48] at H
                                       have c48b0 : ((a0.extract 0 (x3_1 : Int).toNat).toList == ([61] : List UInt8)) = false := beq_eq_false_iff_ne.mpr c48
                                       have c48b1 : ((a0.extract 0 (x3_1 : Int).toNat).toList != ([61] : List UInt8)) = true := bne_iff_ne.mpr c48
                                       have H' := Aside0.mk H
                                       clear H
                                       go_wp2
                                       go_roundg k1
                                       case measure => have := HK1.out; omega
                                       case rel => exact ⟨(wrap64 (x3_1 - 1)),(by first | rfl | (simp; done) | (simp [*]; done)),H',⟨by have := HK1.out; omega⟩,⟨by repeat (first | (with_reducible first | exact HB.out | apply below_alloc | apply pw_below_drewN | apply below_drew1 | apply bytes_below1) | exact HB.out)⟩⟩
       · rw [if_neg c5] at H
         exact absurd H (by simp)
     · rw [if_neg c4] at H
       exact absurd H (by simp)
   · rw [if_neg c3] at H
     have c3b0 : decide (0 < x3_1) = false := decide_eq_false c3
     clear c3
     obtain rfl := Option.some.inj H
     go_wp2
     go_ret
     exact ⟨by first | rfl | (simp [errW_none,errW_some] <;> rfl) | (simp only [← hji2]; first | rfl | (simp [errW_none,errW_some] <;> rfl)) | (simp [*,errW_none,errW_some] <;> rfl),by repeat (first | (with_reducible first | exact HB.out | apply below_alloc | apply pw_below_drewN | apply below_drew1 | apply bytes_below1) | exact HB.out)⟩
end
section
/-! ### lexer_word: function 41 -/
def lexer_word.f (k : Nat) (a0 : ByteArray) : Option (Int × ByteArray × Int × Int) := if 0 < (a0.size : Int) then ((lexer_is.f (bt a0 0) (⟨#[65,66,67,68,69,70,71,72,73,74,75,76,77,78,79,80,81,82,83,84,85,86,87,88,89,90,97,98,99,100,101,102,103,104,105,106,107,108,109,110,111,112,113,114,115,116,117,118,119,120,121,122,95]⟩ : ByteArray)).bind fun t365 => (if t365 = true then ((lexer_run.f k a0 (⟨#[65,66,67,68,69,70,71,72,73,74,75,76,77,78,79,80,81,82,83,84,85,86,87,88,89,90,97,98,99,100,101,102,103,104,105,106,107,108,109,110,111,112,113,114,115,116,117,118,119,120,121,122,95,48,49,50,51,52,53,54,55,56,57]⟩ : ByteArray)).bind fun t366 => (some (1,t366,0,(t366.size : Int)))) else ((lexer_is.f (bt a0 0) (⟨#[48,49,50,51,52,53,54,55,56,57]⟩ : ByteArray)).bind fun t367 => (if t367 = true then ((lexer_run.f k a0 (⟨#[48,49,50,51,52,53,54,55,56,57]⟩ : ByteArray)).bind fun t368 => ((chars_Number.f k t368).bind fun bt369 => (if bt369.2 = 0 then (some (2,(⟨#[]⟩ : ByteArray),bt369.1,(t368.size : Int))) else (some (0,(⟨#[]⟩ : ByteArray),0,0))))) else (if (bt a0 0) = 34 then ((lexer_quoted.f k a0).bind fun bt371 => (some (3,bt371.1,0,bt371.2))) else ((lexer_sign.f k a0).bind fun t373 => (some (4,t373,0,(t373.size : Int))))))))) else (none)
theorem lexer_word.mono : ∀ a0 k,LeO (lexer_word.f k a0) (lexer_word.f (k + 1) a0) := by
 intro a0 k
 unfold lexer_word.f
 repeat' first
  | (with_reducible exact chars_Number.mono _ _)
  | (with_reducible exact lexer_quoted.mono _ _)
  | (with_reducible exact lexer_run.mono _ _ _)
  | (with_reducible exact lexer_sign.mono _ _)
  | (with_reducible exact LeO.refl _)
  | (with_reducible exact LeO.none _)
  | (with_reducible refine LeO.ite ?_ ?_)
  | (with_reducible refine LeO.bind ?_ (fun _ => ?_))
  | exact chars_Number.mono _ _
  | exact lexer_quoted.mono _ _
  | exact lexer_run.mono _ _ _
  | exact lexer_sign.mono _ _
  | exact LeO.none _
  | refine LeO.ite ?_ ?_
  | refine LeO.bind ?_ (fun _ => ?_)
set_option maxHeartbeats 8000000 in
set_option maxRecDepth 100000 in
theorem lexer_word.calls (k : Nat) (a0 : ByteArray) (r1 : Int) (r2 : ByteArray) (r3 : Int) (r4 : Int) (w : World) (hL_ : Laid w) (h : lexer_word.f k a0 = some (r1,r2,r3,r4)) :
 Calls Tryz.prog 41 #[.string a0] w fun e w' => e = .returned (.tuple #[.agg #[.int .i64 r1,.string r2,.int .i64 r3],.int .i64 r4]) ∧ Below w.heap.size w w' := by
 have hu43 := Tryz.underlying43
 have HB := Aside0.mk (Below.refl w.heap.size w)
 have HLd := Aside0.mk hL_
 clear hL_
 have H : (if 0 < (a0.size : Int) then ((lexer_is.f (bt a0 0) (⟨#[65,66,67,68,69,70,71,72,73,74,75,76,77,78,79,80,81,82,83,84,85,86,87,88,89,90,97,98,99,100,101,102,103,104,105,106,107,108,109,110,111,112,113,114,115,116,117,118,119,120,121,122,95]⟩ : ByteArray)).bind fun t365 => (if t365 = true then ((lexer_run.f k a0 (⟨#[65,66,67,68,69,70,71,72,73,74,75,76,77,78,79,80,81,82,83,84,85,86,87,88,89,90,97,98,99,100,101,102,103,104,105,106,107,108,109,110,111,112,113,114,115,116,117,118,119,120,121,122,95,48,49,50,51,52,53,54,55,56,57]⟩ : ByteArray)).bind fun t366 => (some (1,t366,0,(t366.size : Int)))) else ((lexer_is.f (bt a0 0) (⟨#[48,49,50,51,52,53,54,55,56,57]⟩ : ByteArray)).bind fun t367 => (if t367 = true then ((lexer_run.f k a0 (⟨#[48,49,50,51,52,53,54,55,56,57]⟩ : ByteArray)).bind fun t368 => ((chars_Number.f k t368).bind fun bt369 => (if bt369.2 = 0 then (some (2,(⟨#[]⟩ : ByteArray),bt369.1,(t368.size : Int))) else (some (0,(⟨#[]⟩ : ByteArray),0,0))))) else (if (bt a0 0) = 34 then ((lexer_quoted.f k a0).bind fun bt371 => (some (3,bt371.1,0,bt371.2))) else ((lexer_sign.f k a0).bind fun t373 => (some (4,t373,0,(t373.size : Int))))))))) else (none)) = some (r1,r2,r3,r4) := h
 clear h
 by_cases c2 : 0 < (a0.size : Int)
 · rw [if_pos c2] at H
   have c2b0 : decide (0 < (a0.size : Int)) = true := decide_eq_true c2
   have c2b1 : decide (0 < a0.size) = true := decide_eq_true (by omega)
   clear c2
   replace H := Option.bind_eq_some_iff.mp H
   obtain ⟨t365,A40,H⟩ := H
   replace H : (if t365 = true then ((lexer_run.f k a0 (⟨#[65,66,67,68,69,70,71,72,73,74,75,76,77,78,79,80,81,82,83,84,85,86,87,88,89,90,97,98,99,100,101,102,103,104,105,106,107,108,109,110,111,112,113,114,115,116,117,118,119,120,121,122,95,48,49,50,51,52,53,54,55,56,57]⟩ : ByteArray)).bind fun t366 => (some (1,t366,0,(t366.size : Int)))) else ((lexer_is.f (bt a0 0) (⟨#[48,49,50,51,52,53,54,55,56,57]⟩ : ByteArray)).bind fun t367 => (if t367 = true then ((lexer_run.f k a0 (⟨#[48,49,50,51,52,53,54,55,56,57]⟩ : ByteArray)).bind fun t368 => ((chars_Number.f k t368).bind fun bt369 => (if bt369.2 = 0 then (some (2,(⟨#[]⟩ : ByteArray),bt369.1,(t368.size : Int))) else (some (0,(⟨#[]⟩ : ByteArray),0,0))))) else (if (bt a0 0) = 34 then ((lexer_quoted.f k a0).bind fun bt371 => (some (3,bt371.1,0,bt371.2))) else ((lexer_sign.f k a0).bind fun t373 => (some (4,t373,0,(t373.size : Int)))))))) = some (r1,r2,r3,r4) := H
   have A4 := Aside0.mk A40
   clear A40
   by_cases c5 : t365 = true
   · subst c5
     have H1 : ((lexer_run.f k a0 (⟨#[65,66,67,68,69,70,71,72,73,74,75,76,77,78,79,80,81,82,83,84,85,86,87,88,89,90,97,98,99,100,101,102,103,104,105,106,107,108,109,110,111,112,113,114,115,116,117,118,119,120,121,122,95,48,49,50,51,52,53,54,55,56,57]⟩ : ByteArray)).bind fun t366 => (some (1,t366,0,(t366.size : Int)))) = some (r1,r2,r3,r4) := by rw [if_pos rfl] at H; exact H
     clear H
     have H := H1
     clear H1
     replace H := Option.bind_eq_some_iff.mp H
     obtain ⟨t366,A60,H⟩ := H
     replace H : (some (1,t366,0,(t366.size : Int))) = some (r1,r2,r3,r4) := H
     have A6 := Aside0.mk A60
     clear A60
     simp only [Option.some.injEq,Prod.mk.injEq] at H
     obtain ⟨rfl,rfl,rfl,rfl⟩ := H
     go_enter Tryz.func41,Tryz.ntmps41
     go_wp2_with (first | ((with_reducible refine gate_dst (N := 2) rfl ?_); refine box_event ?hg (N := 2) ?hd (cs := #[.int .i64 0,.string (⟨#[]⟩ : ByteArray),.int .i64 0]) (t := 43) ?hr ?_; (case hd => rfl); (case hg => rfl); (case hr => first | (go_simp; done) | (go_simp; rfl)); intro gb364 hg w7 hbox hb; have n0_ := Aside0.mk (below_step (by repeat (first | (with_reducible first | exact HB.out | apply below_alloc | apply pw_below_drewN | apply below_drew1 | apply bytes_below1) | exact HB.out)) hb); have n1_ := Aside0.mk (hbox); have n2_ := Aside0.mk ((by rw [hg]; exact (below_size (by repeat (first | (with_reducible first | exact HB.out | apply below_alloc | apply pw_below_drewN | apply below_drew1 | apply bytes_below1) | exact HB.out))) : w.heap.size ≤ gb364)); have n3_ := Aside0.mk ((by rw [hg]; exact (below_size (by repeat (first | (with_reducible first | exact HB.out | apply below_alloc | apply pw_below_drewN | apply below_drew1 | apply bytes_below1) | exact HB.out))) : w.heap.size ≤ gb364)); clear HB; have HB := n0_; have BK364 := n1_; have GW364 := n2_; have GE364 := n3_; clear n0_ n1_ n2_ n3_; clear hb hbox hg; have p3 : 0 ≤ (0 : Int) := (by omega); have q3 : 0 < a0.size := (by have : (0 : Int) < (a0.size : Int) := of_decide_eq_true (by first | (with_reducible assumption) | assumption); omega); have hx3 : ∀ h : 0 < a0.size,((a0[0]'h).toNat : Int) = bt a0 0 := bt_at a0 0; clear p3; have qi3 : (0 < (a0.size : Int)) = True := eq_true (of_decide_eq_true (by first | (with_reducible assumption) | assumption)); replace q3 := eq_true q3) | ((with_reducible refine gate_callee (f := 59) rfl ?_); refine goesL_ (some 16) rfl rfl Tryz.func59 (by kernel_rfl) rfl #[.int .u8 (bt a0 0),.string (⟨#[65,66,67,68,69,70,71,72,73,74,75,76,77,78,79,80,81,82,83,84,85,86,87,88,89,90,97,98,99,100,101,102,103,104,105,106,107,108,109,110,111,112,113,114,115,116,117,118,119,120,121,122,95]⟩ : ByteArray)] rfl (by (try simp only [List.map_toArray,List.map_cons,List.map_nil]); first | done | rfl | (simp only [List.length_drop,List.length_take]; rfl)) ?_; (with_reducible refine (lexer_is.calls (bt a0 0) (⟨#[65,66,67,68,69,70,71,72,73,74,75,76,77,78,79,80,81,82,83,84,85,86,87,88,89,90,97,98,99,100,101,102,103,104,105,106,107,108,109,110,111,112,113,114,115,116,117,118,119,120,121,122,95]⟩ : ByteArray) true _ A4.out).mono ?_); rintro e w' ⟨rfl,⟨nd,rfl⟩⟩; refine ⟨_,rfl,?_⟩; (try (rw [drewN_self w7]; generalize hq_ : World.drewN w7 _ = w7; have n0_ : Aside0 (w7.heap[gb364]? = some (.cells #[.int .i64 0,.string (⟨#[]⟩ : ByteArray),.int .i64 0] 43 (0,0))) := ⟨by rw [← hq_]; exact (by (with_reducible repeat (first | refine blk_bytes ?_ _ _ | refine blk_drewN ?_ _ | refine blk_drew ?_ | refine blk_alloc ?_ _)); exact BK364.out)⟩; have n1_ : Aside0 (Below w.heap.size w w7) := ⟨by rw [← hq_]; exact (by repeat (first | (with_reducible first | exact HB.out | apply below_alloc | apply pw_below_drewN | apply below_drew1 | apply bytes_below1 | refine below_set ?_ GE364.out) | exact HB.out))⟩; clear BK364 HB hq_; have BK364 := n0_; have HB := n1_; clear n0_ n1_))) | ((with_reducible refine gate_callee (f := 60) rfl ?_); refine goesL_ (some 18) rfl rfl Tryz.func60 (by kernel_rfl) rfl #[.string a0,.string (⟨#[65,66,67,68,69,70,71,72,73,74,75,76,77,78,79,80,81,82,83,84,85,86,87,88,89,90,97,98,99,100,101,102,103,104,105,106,107,108,109,110,111,112,113,114,115,116,117,118,119,120,121,122,95,48,49,50,51,52,53,54,55,56,57]⟩ : ByteArray)] rfl (by (try simp only [List.map_toArray,List.map_cons,List.map_nil]); first | done | rfl | (simp only [List.length_drop,List.length_take]; rfl)) ?_; (with_reducible refine (lexer_run.calls k a0 (⟨#[65,66,67,68,69,70,71,72,73,74,75,76,77,78,79,80,81,82,83,84,85,86,87,88,89,90,97,98,99,100,101,102,103,104,105,106,107,108,109,110,111,112,113,114,115,116,117,118,119,120,121,122,95,48,49,50,51,52,53,54,55,56,57]⟩ : ByteArray) t366 _ A6.out).mono ?_); rintro e w' ⟨rfl,⟨nd,rfl⟩⟩; refine ⟨_,rfl,?_⟩; (try (rw [drewN_self w7]; generalize hq_ : World.drewN w7 _ = w7; have n0_ : Aside0 (w7.heap[gb364]? = some (.cells #[.int .i64 0,.string (⟨#[]⟩ : ByteArray),.int .i64 0] 43 (0,0))) := ⟨by rw [← hq_]; exact (by (with_reducible repeat (first | refine blk_bytes ?_ _ _ | refine blk_drewN ?_ _ | refine blk_drew ?_ | refine blk_alloc ?_ _)); exact BK364.out)⟩; have n1_ : Aside0 (Below w.heap.size w w7) := ⟨by rw [← hq_]; exact (by repeat (first | (with_reducible first | exact HB.out | apply below_alloc | apply pw_below_drewN | apply below_drew1 | apply bytes_below1 | refine below_set ?_ GE364.out) | exact HB.out))⟩; clear BK364 HB hq_; have BK364 := n0_; have HB := n1_; clear n0_ n1_)); have hcz8_0 : w7.cell? ⟨gb364,0,none⟩ = some (.int .i64 0) := (blk_cell BK364.out 0).trans rfl; have hcz8_1 : w7.cell? ⟨gb364,1,none⟩ = some (.string (⟨#[]⟩ : ByteArray)) := (blk_cell BK364.out 1).trans rfl; have hcz8_2 : w7.cell? ⟨gb364,2,none⟩ = some (.int .i64 0) := (blk_cell BK364.out 2).trans rfl; have hfz8_0 := blk_frozen BK364.out 0; have hfz8_1 := blk_frozen BK364.out 1; have hfz8_2 := blk_frozen BK364.out 2))
     refine bodyPost_ret (results_ct rfl _ _ gb364 43 #[.int .i64 1,.string t366,.int .i64 0] (0,0) _ rfl (by (with_reducible repeat (first | refine blk_bytes ?_ _ _ | refine blk_drewN ?_ _ | refine blk_drew ?_ | refine blk_alloc ?_ _)); refine blk_put (cs := #[.int .i64 1,.string t366,.int .i64 0]) ?_ 2 _ rfl; (with_reducible repeat (first | refine blk_bytes ?_ _ _ | refine blk_drewN ?_ _ | refine blk_drew ?_ | refine blk_alloc ?_ _)); refine blk_put (cs := #[.int .i64 1,.string (⟨#[]⟩ : ByteArray),.int .i64 0]) ?_ 1 _ rfl; (with_reducible repeat (first | refine blk_bytes ?_ _ _ | refine blk_drewN ?_ _ | refine blk_drew ?_ | refine blk_alloc ?_ _)); refine blk_put (cs := #[.int .i64 0,.string (⟨#[]⟩ : ByteArray),.int .i64 0]) ?_ 0 _ rfl; (with_reducible repeat (first | refine blk_bytes ?_ _ _ | refine blk_drewN ?_ _ | refine blk_drew ?_ | refine blk_alloc ?_ _)); exact BK364.out) Tryz.underlying43 rfl (by kernel_rfl)) rfl ?_
     exact ⟨by first | rfl | (simp [errW_none,errW_some] <;> rfl) | (simp [*,errW_none,errW_some] <;> rfl),by repeat (first | (with_reducible first | exact HB.out | apply below_alloc | apply pw_below_drewN | apply below_drew1 | apply bytes_below1 | refine below_set ?_ GE364.out) | exact HB.out)⟩
   · replace c5 := Bool.eq_false_iff.mpr c5
     subst c5
     have H1 : ((lexer_is.f (bt a0 0) (⟨#[48,49,50,51,52,53,54,55,56,57]⟩ : ByteArray)).bind fun t367 => (if t367 = true then ((lexer_run.f k a0 (⟨#[48,49,50,51,52,53,54,55,56,57]⟩ : ByteArray)).bind fun t368 => ((chars_Number.f k t368).bind fun bt369 => (if bt369.2 = 0 then (some (2,(⟨#[]⟩ : ByteArray),bt369.1,(t368.size : Int))) else (some (0,(⟨#[]⟩ : ByteArray),0,0))))) else (if (bt a0 0) = 34 then ((lexer_quoted.f k a0).bind fun bt371 => (some (3,bt371.1,0,bt371.2))) else ((lexer_sign.f k a0).bind fun t373 => (some (4,t373,0,(t373.size : Int))))))) = some (r1,r2,r3,r4) := by rw [if_neg (show ¬ (false = true) by decide)] at H; exact H
     clear H
     have H := H1
     clear H1
     replace H := Option.bind_eq_some_iff.mp H
     obtain ⟨t367,A90,H⟩ := H
     replace H : (if t367 = true then ((lexer_run.f k a0 (⟨#[48,49,50,51,52,53,54,55,56,57]⟩ : ByteArray)).bind fun t368 => ((chars_Number.f k t368).bind fun bt369 => (if bt369.2 = 0 then (some (2,(⟨#[]⟩ : ByteArray),bt369.1,(t368.size : Int))) else (some (0,(⟨#[]⟩ : ByteArray),0,0))))) else (if (bt a0 0) = 34 then ((lexer_quoted.f k a0).bind fun bt371 => (some (3,bt371.1,0,bt371.2))) else ((lexer_sign.f k a0).bind fun t373 => (some (4,t373,0,(t373.size : Int)))))) = some (r1,r2,r3,r4) := H
     have A9 := Aside0.mk A90
     clear A90
     by_cases c10 : t367 = true
     · subst c10
       have H1 : ((lexer_run.f k a0 (⟨#[48,49,50,51,52,53,54,55,56,57]⟩ : ByteArray)).bind fun t368 => ((chars_Number.f k t368).bind fun bt369 => (if bt369.2 = 0 then (some (2,(⟨#[]⟩ : ByteArray),bt369.1,(t368.size : Int))) else (some (0,(⟨#[]⟩ : ByteArray),0,0))))) = some (r1,r2,r3,r4) := by rw [if_pos rfl] at H; exact H
       clear H
       have H := H1
       clear H1
       replace H := Option.bind_eq_some_iff.mp H
       obtain ⟨t368,A110,H⟩ := H
       replace H : ((chars_Number.f k t368).bind fun bt369 => (if bt369.2 = 0 then (some (2,(⟨#[]⟩ : ByteArray),bt369.1,(t368.size : Int))) else (some (0,(⟨#[]⟩ : ByteArray),0,0)))) = some (r1,r2,r3,r4) := H
       have A11 := Aside0.mk A110
       clear A110
       replace H := Option.bind_eq_some_iff.mp H
       obtain ⟨⟨t369,t370⟩,A120,H⟩ := H
       replace H : (if t370 = 0 then (some (2,(⟨#[]⟩ : ByteArray),t369,(t368.size : Int))) else (some (0,(⟨#[]⟩ : ByteArray),0,0))) = some (r1,r2,r3,r4) := H
       have A12 := Aside0.mk A120
       clear A120
       by_cases c13 : t370 = 0
       · rw [if_pos c13] at H
         have c13b0 : (t370 == 0) = true := beq_iff_eq.mpr c13
         have c13b1 : (t370 != 0) = false := bne_eq_false_iff_eq.mpr c13
         clear c13
         simp only [Option.some.injEq,Prod.mk.injEq] at H
         obtain ⟨rfl,rfl,rfl,rfl⟩ := H
         go_enter Tryz.func41,Tryz.ntmps41
         go_wp2_with (first | ((with_reducible refine gate_dst (N := 2) rfl ?_); refine box_event ?hg (N := 2) ?hd (cs := #[.int .i64 0,.string (⟨#[]⟩ : ByteArray),.int .i64 0]) (t := 43) ?hr ?_; (case hd => rfl); (case hg => rfl); (case hr => first | (go_simp; done) | (go_simp; rfl)); intro gb364 hg w14 hbox hb; have n0_ := Aside0.mk (below_step (by repeat (first | (with_reducible first | exact HB.out | apply below_alloc | apply pw_below_drewN | apply below_drew1 | apply bytes_below1) | exact HB.out)) hb); have n1_ := Aside0.mk (hbox); have n2_ := Aside0.mk ((by rw [hg]; exact (below_size (by repeat (first | (with_reducible first | exact HB.out | apply below_alloc | apply pw_below_drewN | apply below_drew1 | apply bytes_below1) | exact HB.out))) : w.heap.size ≤ gb364)); have n3_ := Aside0.mk ((by rw [hg]; exact (below_size (by repeat (first | (with_reducible first | exact HB.out | apply below_alloc | apply pw_below_drewN | apply below_drew1 | apply bytes_below1) | exact HB.out))) : w.heap.size ≤ gb364)); clear HB; have HB := n0_; have BK364 := n1_; have GW364 := n2_; have GE364 := n3_; clear n0_ n1_ n2_ n3_; clear hb hbox hg; have p3 : 0 ≤ (0 : Int) := (by omega); have q3 : 0 < a0.size := (by have : (0 : Int) < (a0.size : Int) := of_decide_eq_true (by first | (with_reducible assumption) | assumption); omega); have hx3 : ∀ h : 0 < a0.size,((a0[0]'h).toNat : Int) = bt a0 0 := bt_at a0 0; clear p3; have qi3 : (0 < (a0.size : Int)) = True := eq_true (of_decide_eq_true (by first | (with_reducible assumption) | assumption)); replace q3 := eq_true q3) | ((with_reducible refine gate_callee (f := 59) rfl ?_); refine goesL_ (some 16) rfl rfl Tryz.func59 (by kernel_rfl) rfl #[.int .u8 (bt a0 0),.string (⟨#[65,66,67,68,69,70,71,72,73,74,75,76,77,78,79,80,81,82,83,84,85,86,87,88,89,90,97,98,99,100,101,102,103,104,105,106,107,108,109,110,111,112,113,114,115,116,117,118,119,120,121,122,95]⟩ : ByteArray)] rfl (by (try simp only [List.map_toArray,List.map_cons,List.map_nil]); first | done | rfl | (simp only [List.length_drop,List.length_take]; rfl)) ?_; (with_reducible refine (lexer_is.calls (bt a0 0) (⟨#[65,66,67,68,69,70,71,72,73,74,75,76,77,78,79,80,81,82,83,84,85,86,87,88,89,90,97,98,99,100,101,102,103,104,105,106,107,108,109,110,111,112,113,114,115,116,117,118,119,120,121,122,95]⟩ : ByteArray) false _ A4.out).mono ?_); rintro e w' ⟨rfl,⟨nd,rfl⟩⟩; refine ⟨_,rfl,?_⟩; (try (rw [drewN_self w14]; generalize hq_ : World.drewN w14 _ = w14; have n0_ : Aside0 (w14.heap[gb364]? = some (.cells #[.int .i64 0,.string (⟨#[]⟩ : ByteArray),.int .i64 0] 43 (0,0))) := ⟨by rw [← hq_]; exact (by (with_reducible repeat (first | refine blk_bytes ?_ _ _ | refine blk_drewN ?_ _ | refine blk_drew ?_ | refine blk_alloc ?_ _)); exact BK364.out)⟩; have n1_ : Aside0 (Below w.heap.size w w14) := ⟨by rw [← hq_]; exact (by repeat (first | (with_reducible first | exact HB.out | apply below_alloc | apply pw_below_drewN | apply below_drew1 | apply bytes_below1 | refine below_set ?_ GE364.out) | exact HB.out))⟩; clear BK364 HB hq_; have BK364 := n0_; have HB := n1_; clear n0_ n1_))) | ((with_reducible refine gate_callee (f := 59) rfl ?_); refine goesL_ (some 25) rfl rfl Tryz.func59 (by kernel_rfl) rfl #[.int .u8 (bt a0 0),.string (⟨#[48,49,50,51,52,53,54,55,56,57]⟩ : ByteArray)] rfl (by (try simp only [List.map_toArray,List.map_cons,List.map_nil]); first | done | rfl | (simp only [List.length_drop,List.length_take]; rfl)) ?_; (with_reducible refine (lexer_is.calls (bt a0 0) (⟨#[48,49,50,51,52,53,54,55,56,57]⟩ : ByteArray) true _ A9.out).mono ?_); rintro e w' ⟨rfl,⟨nd,rfl⟩⟩; refine ⟨_,rfl,?_⟩; (try (rw [drewN_self w14]; generalize hq_ : World.drewN w14 _ = w14; have n0_ : Aside0 (w14.heap[gb364]? = some (.cells #[.int .i64 0,.string (⟨#[]⟩ : ByteArray),.int .i64 0] 43 (0,0))) := ⟨by rw [← hq_]; exact (by (with_reducible repeat (first | refine blk_bytes ?_ _ _ | refine blk_drewN ?_ _ | refine blk_drew ?_ | refine blk_alloc ?_ _)); exact BK364.out)⟩; have n1_ : Aside0 (Below w.heap.size w w14) := ⟨by rw [← hq_]; exact (by repeat (first | (with_reducible first | exact HB.out | apply below_alloc | apply pw_below_drewN | apply below_drew1 | apply bytes_below1 | refine below_set ?_ GE364.out) | exact HB.out))⟩; clear BK364 HB hq_; have BK364 := n0_; have HB := n1_; clear n0_ n1_))) | ((with_reducible refine gate_callee (f := 60) rfl ?_); refine goesL_ (some 27) rfl rfl Tryz.func60 (by kernel_rfl) rfl #[.string a0,.string (⟨#[48,49,50,51,52,53,54,55,56,57]⟩ : ByteArray)] rfl (by (try simp only [List.map_toArray,List.map_cons,List.map_nil]); first | done | rfl | (simp only [List.length_drop,List.length_take]; rfl)) ?_; (with_reducible refine (lexer_run.calls k a0 (⟨#[48,49,50,51,52,53,54,55,56,57]⟩ : ByteArray) t368 _ A11.out).mono ?_); rintro e w' ⟨rfl,⟨nd,rfl⟩⟩; refine ⟨_,rfl,?_⟩; (try (rw [drewN_self w14]; generalize hq_ : World.drewN w14 _ = w14; have n0_ : Aside0 (w14.heap[gb364]? = some (.cells #[.int .i64 0,.string (⟨#[]⟩ : ByteArray),.int .i64 0] 43 (0,0))) := ⟨by rw [← hq_]; exact (by (with_reducible repeat (first | refine blk_bytes ?_ _ _ | refine blk_drewN ?_ _ | refine blk_drew ?_ | refine blk_alloc ?_ _)); exact BK364.out)⟩; have n1_ : Aside0 (Below w.heap.size w w14) := ⟨by rw [← hq_]; exact (by repeat (first | (with_reducible first | exact HB.out | apply below_alloc | apply pw_below_drewN | apply below_drew1 | apply bytes_below1 | refine below_set ?_ GE364.out) | exact HB.out))⟩; clear BK364 HB hq_; have BK364 := n0_; have HB := n1_; clear n0_ n1_))) | ((with_reducible refine gate_callee (f := 61) rfl ?_); refine goesL_ (some 30) rfl rfl Tryz.func61 (by kernel_rfl) rfl #[.string t368] rfl (by (try simp only [List.map_toArray,List.map_cons,List.map_nil]); first | done | rfl | (simp only [List.length_drop,List.length_take]; rfl)) ?_; (with_reducible refine (chars_Number.calls k t368 t369 t370 _ A12.out).mono ?_); rintro e w15 ⟨rfl,hb⟩; refine ⟨_,rfl,?_⟩; have n0_ := Aside0.mk (blk_below (g := gb364) (o := .cells #[.int .i64 0,.string (⟨#[]⟩ : ByteArray),.int .i64 0] 43 (0,0)) (by (with_reducible repeat (first | refine blk_bytes ?_ _ _ | refine blk_drewN ?_ _ | refine blk_drew ?_ | refine blk_alloc ?_ _)); exact BK364.out) hb); have n1_ := Aside0.mk (below_step (by repeat (first | (with_reducible first | exact HB.out | apply below_alloc | apply pw_below_drewN | apply below_drew1 | apply bytes_below1 | refine below_set ?_ GE364.out) | exact HB.out)) hb); clear BK364; clear HB; have BK364 := n0_; have HB := n1_; clear n0_ n1_; (try clear hb); (try clear hb2); (try clear hk); (try clear hi); have hcz16_0 : w15.cell? ⟨gb364,0,none⟩ = some (.int .i64 0) := (blk_cell BK364.out 0).trans rfl; have hcz16_1 : w15.cell? ⟨gb364,1,none⟩ = some (.string (⟨#[]⟩ : ByteArray)) := (blk_cell BK364.out 1).trans rfl; have hcz16_2 : w15.cell? ⟨gb364,2,none⟩ = some (.int .i64 0) := (blk_cell BK364.out 2).trans rfl; have hfz16_0 := blk_frozen BK364.out 0; have hfz16_1 := blk_frozen BK364.out 1; have hfz16_2 := blk_frozen BK364.out 2))
         refine bodyPost_ret (results_ct rfl _ _ gb364 43 #[.int .i64 2,.string (⟨#[]⟩ : ByteArray),.int .i64 t369] (0,0) _ rfl (by (with_reducible repeat (first | refine blk_bytes ?_ _ _ | refine blk_drewN ?_ _ | refine blk_drew ?_ | refine blk_alloc ?_ _)); refine blk_put (cs := #[.int .i64 2,.string (⟨#[]⟩ : ByteArray),.int .i64 0]) ?_ 2 _ rfl; (with_reducible repeat (first | refine blk_bytes ?_ _ _ | refine blk_drewN ?_ _ | refine blk_drew ?_ | refine blk_alloc ?_ _)); refine blk_put (cs := #[.int .i64 2,.string (⟨#[]⟩ : ByteArray),.int .i64 0]) ?_ 1 _ rfl; (with_reducible repeat (first | refine blk_bytes ?_ _ _ | refine blk_drewN ?_ _ | refine blk_drew ?_ | refine blk_alloc ?_ _)); refine blk_put (cs := #[.int .i64 0,.string (⟨#[]⟩ : ByteArray),.int .i64 0]) ?_ 0 _ rfl; (with_reducible repeat (first | refine blk_bytes ?_ _ _ | refine blk_drewN ?_ _ | refine blk_drew ?_ | refine blk_alloc ?_ _)); exact BK364.out) Tryz.underlying43 rfl (by kernel_rfl)) rfl ?_
         exact ⟨by first | rfl | (simp [errW_none,errW_some] <;> rfl) | (simp [*,errW_none,errW_some] <;> rfl),by repeat (first | (with_reducible first | exact HB.out | apply below_alloc | apply pw_below_drewN | apply below_drew1 | apply bytes_below1 | refine below_set ?_ GE364.out) | exact HB.out)⟩
       · rw [if_neg c13] at H
         have c13b0 : (t370 == 0) = false := beq_eq_false_iff_ne.mpr c13
         have c13b1 : (t370 != 0) = true := bne_iff_ne.mpr c13
         simp only [Option.some.injEq,Prod.mk.injEq] at H
         obtain ⟨rfl,rfl,rfl,rfl⟩ := H
         go_enter Tryz.func41,Tryz.ntmps41
         go_wp2_with (first | ((with_reducible refine gate_dst (N := 2) rfl ?_); refine box_event ?hg (N := 2) ?hd (cs := #[.int .i64 0,.string (⟨#[]⟩ : ByteArray),.int .i64 0]) (t := 43) ?hr ?_; (case hd => rfl); (case hg => rfl); (case hr => first | (go_simp; done) | (go_simp; rfl)); intro gb364 hg w17 hbox hb; have n0_ := Aside0.mk (below_step (by repeat (first | (with_reducible first | exact HB.out | apply below_alloc | apply pw_below_drewN | apply below_drew1 | apply bytes_below1) | exact HB.out)) hb); have n1_ := Aside0.mk (hbox); have n2_ := Aside0.mk ((by rw [hg]; exact (below_size (by repeat (first | (with_reducible first | exact HB.out | apply below_alloc | apply pw_below_drewN | apply below_drew1 | apply bytes_below1) | exact HB.out))) : w.heap.size ≤ gb364)); have n3_ := Aside0.mk ((by rw [hg]; exact (below_size (by repeat (first | (with_reducible first | exact HB.out | apply below_alloc | apply pw_below_drewN | apply below_drew1 | apply bytes_below1) | exact HB.out))) : w.heap.size ≤ gb364)); clear HB; have HB := n0_; have BK364 := n1_; have GW364 := n2_; have GE364 := n3_; clear n0_ n1_ n2_ n3_; clear hb hbox hg; have p3 : 0 ≤ (0 : Int) := (by omega); have q3 : 0 < a0.size := (by have : (0 : Int) < (a0.size : Int) := of_decide_eq_true (by first | (with_reducible assumption) | assumption); omega); have hx3 : ∀ h : 0 < a0.size,((a0[0]'h).toNat : Int) = bt a0 0 := bt_at a0 0; clear p3; have qi3 : (0 < (a0.size : Int)) = True := eq_true (of_decide_eq_true (by first | (with_reducible assumption) | assumption)); replace q3 := eq_true q3) | ((with_reducible refine gate_callee (f := 59) rfl ?_); refine goesL_ (some 16) rfl rfl Tryz.func59 (by kernel_rfl) rfl #[.int .u8 (bt a0 0),.string (⟨#[65,66,67,68,69,70,71,72,73,74,75,76,77,78,79,80,81,82,83,84,85,86,87,88,89,90,97,98,99,100,101,102,103,104,105,106,107,108,109,110,111,112,113,114,115,116,117,118,119,120,121,122,95]⟩ : ByteArray)] rfl (by (try simp only [List.map_toArray,List.map_cons,List.map_nil]); first | done | rfl | (simp only [List.length_drop,List.length_take]; rfl)) ?_; (with_reducible refine (lexer_is.calls (bt a0 0) (⟨#[65,66,67,68,69,70,71,72,73,74,75,76,77,78,79,80,81,82,83,84,85,86,87,88,89,90,97,98,99,100,101,102,103,104,105,106,107,108,109,110,111,112,113,114,115,116,117,118,119,120,121,122,95]⟩ : ByteArray) false _ A4.out).mono ?_); rintro e w' ⟨rfl,⟨nd,rfl⟩⟩; refine ⟨_,rfl,?_⟩; (try (rw [drewN_self w17]; generalize hq_ : World.drewN w17 _ = w17; have n0_ : Aside0 (w17.heap[gb364]? = some (.cells #[.int .i64 0,.string (⟨#[]⟩ : ByteArray),.int .i64 0] 43 (0,0))) := ⟨by rw [← hq_]; exact (by (with_reducible repeat (first | refine blk_bytes ?_ _ _ | refine blk_drewN ?_ _ | refine blk_drew ?_ | refine blk_alloc ?_ _)); exact BK364.out)⟩; have n1_ : Aside0 (Below w.heap.size w w17) := ⟨by rw [← hq_]; exact (by repeat (first | (with_reducible first | exact HB.out | apply below_alloc | apply pw_below_drewN | apply below_drew1 | apply bytes_below1 | refine below_set ?_ GE364.out) | exact HB.out))⟩; clear BK364 HB hq_; have BK364 := n0_; have HB := n1_; clear n0_ n1_))) | ((with_reducible refine gate_callee (f := 59) rfl ?_); refine goesL_ (some 25) rfl rfl Tryz.func59 (by kernel_rfl) rfl #[.int .u8 (bt a0 0),.string (⟨#[48,49,50,51,52,53,54,55,56,57]⟩ : ByteArray)] rfl (by (try simp only [List.map_toArray,List.map_cons,List.map_nil]); first | done | rfl | (simp only [List.length_drop,List.length_take]; rfl)) ?_; (with_reducible refine (lexer_is.calls (bt a0 0) (⟨#[48,49,50,51,52,53,54,55,56,57]⟩ : ByteArray) true _ A9.out).mono ?_); rintro e w' ⟨rfl,⟨nd,rfl⟩⟩; refine ⟨_,rfl,?_⟩; (try (rw [drewN_self w17]; generalize hq_ : World.drewN w17 _ = w17; have n0_ : Aside0 (w17.heap[gb364]? = some (.cells #[.int .i64 0,.string (⟨#[]⟩ : ByteArray),.int .i64 0] 43 (0,0))) := ⟨by rw [← hq_]; exact (by (with_reducible repeat (first | refine blk_bytes ?_ _ _ | refine blk_drewN ?_ _ | refine blk_drew ?_ | refine blk_alloc ?_ _)); exact BK364.out)⟩; have n1_ : Aside0 (Below w.heap.size w w17) := ⟨by rw [← hq_]; exact (by repeat (first | (with_reducible first | exact HB.out | apply below_alloc | apply pw_below_drewN | apply below_drew1 | apply bytes_below1 | refine below_set ?_ GE364.out) | exact HB.out))⟩; clear BK364 HB hq_; have BK364 := n0_; have HB := n1_; clear n0_ n1_))) | ((with_reducible refine gate_callee (f := 60) rfl ?_); refine goesL_ (some 27) rfl rfl Tryz.func60 (by kernel_rfl) rfl #[.string a0,.string (⟨#[48,49,50,51,52,53,54,55,56,57]⟩ : ByteArray)] rfl (by (try simp only [List.map_toArray,List.map_cons,List.map_nil]); first | done | rfl | (simp only [List.length_drop,List.length_take]; rfl)) ?_; (with_reducible refine (lexer_run.calls k a0 (⟨#[48,49,50,51,52,53,54,55,56,57]⟩ : ByteArray) t368 _ A11.out).mono ?_); rintro e w' ⟨rfl,⟨nd,rfl⟩⟩; refine ⟨_,rfl,?_⟩; (try (rw [drewN_self w17]; generalize hq_ : World.drewN w17 _ = w17; have n0_ : Aside0 (w17.heap[gb364]? = some (.cells #[.int .i64 0,.string (⟨#[]⟩ : ByteArray),.int .i64 0] 43 (0,0))) := ⟨by rw [← hq_]; exact (by (with_reducible repeat (first | refine blk_bytes ?_ _ _ | refine blk_drewN ?_ _ | refine blk_drew ?_ | refine blk_alloc ?_ _)); exact BK364.out)⟩; have n1_ : Aside0 (Below w.heap.size w w17) := ⟨by rw [← hq_]; exact (by repeat (first | (with_reducible first | exact HB.out | apply below_alloc | apply pw_below_drewN | apply below_drew1 | apply bytes_below1 | refine below_set ?_ GE364.out) | exact HB.out))⟩; clear BK364 HB hq_; have BK364 := n0_; have HB := n1_; clear n0_ n1_))) | ((with_reducible refine gate_callee (f := 61) rfl ?_); refine goesL_ (some 30) rfl rfl Tryz.func61 (by kernel_rfl) rfl #[.string t368] rfl (by (try simp only [List.map_toArray,List.map_cons,List.map_nil]); first | done | rfl | (simp only [List.length_drop,List.length_take]; rfl)) ?_; (with_reducible refine (chars_Number.calls k t368 t369 t370 _ A12.out).mono ?_); rintro e w18 ⟨rfl,hb⟩; refine ⟨_,rfl,?_⟩; have n0_ := Aside0.mk (blk_below (g := gb364) (o := .cells #[.int .i64 0,.string (⟨#[]⟩ : ByteArray),.int .i64 0] 43 (0,0)) (by (with_reducible repeat (first | refine blk_bytes ?_ _ _ | refine blk_drewN ?_ _ | refine blk_drew ?_ | refine blk_alloc ?_ _)); exact BK364.out) hb); have n1_ := Aside0.mk (below_step (by repeat (first | (with_reducible first | exact HB.out | apply below_alloc | apply pw_below_drewN | apply below_drew1 | apply bytes_below1 | refine below_set ?_ GE364.out) | exact HB.out)) hb); clear BK364; clear HB; have BK364 := n0_; have HB := n1_; clear n0_ n1_; (try clear hb); (try clear hb2); (try clear hk); (try clear hi); have hcz19_0 : w18.cell? ⟨gb364,0,none⟩ = some (.int .i64 0) := (blk_cell BK364.out 0).trans rfl; have hcz19_1 : w18.cell? ⟨gb364,1,none⟩ = some (.string (⟨#[]⟩ : ByteArray)) := (blk_cell BK364.out 1).trans rfl; have hcz19_2 : w18.cell? ⟨gb364,2,none⟩ = some (.int .i64 0) := (blk_cell BK364.out 2).trans rfl; have hfz19_0 := blk_frozen BK364.out 0; have hfz19_1 := blk_frozen BK364.out 1; have hfz19_2 := blk_frozen BK364.out 2))
         refine bodyPost_ret (results_ct rfl _ _ gb364 43 #[.int .i64 0,.string (⟨#[]⟩ : ByteArray),.int .i64 0] (0,0) _ rfl (by (with_reducible repeat (first | refine blk_bytes ?_ _ _ | refine blk_drewN ?_ _ | refine blk_drew ?_ | refine blk_alloc ?_ _)); refine blk_put (cs := #[.int .i64 0,.string (⟨#[]⟩ : ByteArray),.int .i64 0]) ?_ 2 _ rfl; (with_reducible repeat (first | refine blk_bytes ?_ _ _ | refine blk_drewN ?_ _ | refine blk_drew ?_ | refine blk_alloc ?_ _)); refine blk_put (cs := #[.int .i64 0,.string (⟨#[]⟩ : ByteArray),.int .i64 0]) ?_ 1 _ rfl; (with_reducible repeat (first | refine blk_bytes ?_ _ _ | refine blk_drewN ?_ _ | refine blk_drew ?_ | refine blk_alloc ?_ _)); refine blk_put (cs := #[.int .i64 0,.string (⟨#[]⟩ : ByteArray),.int .i64 0]) ?_ 0 _ rfl; (with_reducible repeat (first | refine blk_bytes ?_ _ _ | refine blk_drewN ?_ _ | refine blk_drew ?_ | refine blk_alloc ?_ _)); exact BK364.out) Tryz.underlying43 rfl (by kernel_rfl)) rfl ?_
         exact ⟨by first | rfl | (simp [errW_none,errW_some] <;> rfl) | (simp [*,errW_none,errW_some] <;> rfl),by repeat (first | (with_reducible first | exact HB.out | apply below_alloc | apply pw_below_drewN | apply below_drew1 | apply bytes_below1 | refine below_set ?_ GE364.out) | exact HB.out)⟩
     · replace c10 := Bool.eq_false_iff.mpr c10
       subst c10
       have H1 : (if (bt a0 0) = 34 then ((lexer_quoted.f k a0).bind fun bt371 => (some (3,bt371.1,0,bt371.2))) else ((lexer_sign.f k a0).bind fun t373 => (some (4,t373,0,(t373.size : Int))))) = some (r1,r2,r3,r4) := by rw [if_neg (show ¬ (false = true) by decide)] at H; exact H
       clear H
       have H := H1
       clear H1
       by_cases c20 : (bt a0 0) = 34
       · rw [if_pos c20] at H
         have c20b0 : ((bt a0 0) == 34) = true := beq_iff_eq.mpr c20
         have c20b1 : ((bt a0 0) != 34) = false := bne_eq_false_iff_eq.mpr c20
         clear c20
         replace H := Option.bind_eq_some_iff.mp H
         obtain ⟨⟨t371,t372⟩,A210,H⟩ := H
         replace H : (some (3,t371,0,t372)) = some (r1,r2,r3,r4) := H
         have A21 := Aside0.mk A210
         clear A210
         simp only [Option.some.injEq,Prod.mk.injEq] at H
         obtain ⟨rfl,rfl,rfl,rfl⟩ := H
         go_enter Tryz.func41,Tryz.ntmps41
         go_wp2_with (first | ((with_reducible refine gate_dst (N := 2) rfl ?_); refine box_event ?hg (N := 2) ?hd (cs := #[.int .i64 0,.string (⟨#[]⟩ : ByteArray),.int .i64 0]) (t := 43) ?hr ?_; (case hd => rfl); (case hg => rfl); (case hr => first | (go_simp; done) | (go_simp; rfl)); intro gb364 hg w22 hbox hb; have n0_ := Aside0.mk (below_step (by repeat (first | (with_reducible first | exact HB.out | apply below_alloc | apply pw_below_drewN | apply below_drew1 | apply bytes_below1) | exact HB.out)) hb); have n1_ := Aside0.mk (hbox); have n2_ := Aside0.mk ((by rw [hg]; exact (below_size (by repeat (first | (with_reducible first | exact HB.out | apply below_alloc | apply pw_below_drewN | apply below_drew1 | apply bytes_below1) | exact HB.out))) : w.heap.size ≤ gb364)); have n3_ := Aside0.mk ((by rw [hg]; exact (below_size (by repeat (first | (with_reducible first | exact HB.out | apply below_alloc | apply pw_below_drewN | apply below_drew1 | apply bytes_below1) | exact HB.out))) : w.heap.size ≤ gb364)); clear HB; have HB := n0_; have BK364 := n1_; have GW364 := n2_; have GE364 := n3_; clear n0_ n1_ n2_ n3_; clear hb hbox hg; have p3 : 0 ≤ (0 : Int) := (by omega); have q3 : 0 < a0.size := (by have : (0 : Int) < (a0.size : Int) := of_decide_eq_true (by first | (with_reducible assumption) | assumption); omega); have hx3 : ∀ h : 0 < a0.size,((a0[0]'h).toNat : Int) = bt a0 0 := bt_at a0 0; clear p3; have qi3 : (0 < (a0.size : Int)) = True := eq_true (of_decide_eq_true (by first | (with_reducible assumption) | assumption)); replace q3 := eq_true q3) | ((with_reducible refine gate_callee (f := 59) rfl ?_); refine goesL_ (some 16) rfl rfl Tryz.func59 (by kernel_rfl) rfl #[.int .u8 (bt a0 0),.string (⟨#[65,66,67,68,69,70,71,72,73,74,75,76,77,78,79,80,81,82,83,84,85,86,87,88,89,90,97,98,99,100,101,102,103,104,105,106,107,108,109,110,111,112,113,114,115,116,117,118,119,120,121,122,95]⟩ : ByteArray)] rfl (by (try simp only [List.map_toArray,List.map_cons,List.map_nil]); first | done | rfl | (simp only [List.length_drop,List.length_take]; rfl)) ?_; (with_reducible refine (lexer_is.calls (bt a0 0) (⟨#[65,66,67,68,69,70,71,72,73,74,75,76,77,78,79,80,81,82,83,84,85,86,87,88,89,90,97,98,99,100,101,102,103,104,105,106,107,108,109,110,111,112,113,114,115,116,117,118,119,120,121,122,95]⟩ : ByteArray) false _ A4.out).mono ?_); rintro e w' ⟨rfl,⟨nd,rfl⟩⟩; refine ⟨_,rfl,?_⟩; (try (rw [drewN_self w22]; generalize hq_ : World.drewN w22 _ = w22; have n0_ : Aside0 (w22.heap[gb364]? = some (.cells #[.int .i64 0,.string (⟨#[]⟩ : ByteArray),.int .i64 0] 43 (0,0))) := ⟨by rw [← hq_]; exact (by (with_reducible repeat (first | refine blk_bytes ?_ _ _ | refine blk_drewN ?_ _ | refine blk_drew ?_ | refine blk_alloc ?_ _)); exact BK364.out)⟩; have n1_ : Aside0 (Below w.heap.size w w22) := ⟨by rw [← hq_]; exact (by repeat (first | (with_reducible first | exact HB.out | apply below_alloc | apply pw_below_drewN | apply below_drew1 | apply bytes_below1 | refine below_set ?_ GE364.out) | exact HB.out))⟩; clear BK364 HB hq_; have BK364 := n0_; have HB := n1_; clear n0_ n1_))) | ((with_reducible refine gate_callee (f := 59) rfl ?_); refine goesL_ (some 25) rfl rfl Tryz.func59 (by kernel_rfl) rfl #[.int .u8 (bt a0 0),.string (⟨#[48,49,50,51,52,53,54,55,56,57]⟩ : ByteArray)] rfl (by (try simp only [List.map_toArray,List.map_cons,List.map_nil]); first | done | rfl | (simp only [List.length_drop,List.length_take]; rfl)) ?_; (with_reducible refine (lexer_is.calls (bt a0 0) (⟨#[48,49,50,51,52,53,54,55,56,57]⟩ : ByteArray) false _ A9.out).mono ?_); rintro e w' ⟨rfl,⟨nd,rfl⟩⟩; refine ⟨_,rfl,?_⟩; (try (rw [drewN_self w22]; generalize hq_ : World.drewN w22 _ = w22; have n0_ : Aside0 (w22.heap[gb364]? = some (.cells #[.int .i64 0,.string (⟨#[]⟩ : ByteArray),.int .i64 0] 43 (0,0))) := ⟨by rw [← hq_]; exact (by (with_reducible repeat (first | refine blk_bytes ?_ _ _ | refine blk_drewN ?_ _ | refine blk_drew ?_ | refine blk_alloc ?_ _)); exact BK364.out)⟩; have n1_ : Aside0 (Below w.heap.size w w22) := ⟨by rw [← hq_]; exact (by repeat (first | (with_reducible first | exact HB.out | apply below_alloc | apply pw_below_drewN | apply below_drew1 | apply bytes_below1 | refine below_set ?_ GE364.out) | exact HB.out))⟩; clear BK364 HB hq_; have BK364 := n0_; have HB := n1_; clear n0_ n1_))) | ((with_reducible refine gate_callee (f := 62) rfl ?_); refine goesL_ (some 45) rfl rfl Tryz.func62 (by kernel_rfl) rfl #[.string a0] rfl (by (try simp only [List.map_toArray,List.map_cons,List.map_nil]); first | done | rfl | (simp only [List.length_drop,List.length_take]; rfl)) ?_; (with_reducible refine (lexer_quoted.calls k a0 t371 t372 _ ?side1 A21.out).mono ?_); (case side1 => exact Laid_below HLd.out (by repeat (first | (with_reducible first | exact HB.out | apply below_alloc | apply pw_below_drewN | apply below_drew1 | apply bytes_below1 | refine below_set ?_ GE364.out) | exact HB.out))); rintro e w23 ⟨rfl,hb⟩; refine ⟨_,rfl,?_⟩; have n0_ := Aside0.mk (blk_below (g := gb364) (o := .cells #[.int .i64 0,.string (⟨#[]⟩ : ByteArray),.int .i64 0] 43 (0,0)) (by (with_reducible repeat (first | refine blk_bytes ?_ _ _ | refine blk_drewN ?_ _ | refine blk_drew ?_ | refine blk_alloc ?_ _)); exact BK364.out) hb); have n1_ := Aside0.mk (below_step (by repeat (first | (with_reducible first | exact HB.out | apply below_alloc | apply pw_below_drewN | apply below_drew1 | apply bytes_below1 | refine below_set ?_ GE364.out) | exact HB.out)) hb); clear BK364; clear HB; have BK364 := n0_; have HB := n1_; clear n0_ n1_; (try clear hb); (try clear hb2); (try clear hk); (try clear hi); have hcz24_0 : w23.cell? ⟨gb364,0,none⟩ = some (.int .i64 0) := (blk_cell BK364.out 0).trans rfl; have hcz24_1 : w23.cell? ⟨gb364,1,none⟩ = some (.string (⟨#[]⟩ : ByteArray)) := (blk_cell BK364.out 1).trans rfl; have hcz24_2 : w23.cell? ⟨gb364,2,none⟩ = some (.int .i64 0) := (blk_cell BK364.out 2).trans rfl; have hfz24_0 := blk_frozen BK364.out 0; have hfz24_1 := blk_frozen BK364.out 1; have hfz24_2 := blk_frozen BK364.out 2))
         refine bodyPost_ret (results_ct rfl _ _ gb364 43 #[.int .i64 3,.string t371,.int .i64 0] (0,0) _ rfl (by (with_reducible repeat (first | refine blk_bytes ?_ _ _ | refine blk_drewN ?_ _ | refine blk_drew ?_ | refine blk_alloc ?_ _)); refine blk_put (cs := #[.int .i64 3,.string t371,.int .i64 0]) ?_ 2 _ rfl; (with_reducible repeat (first | refine blk_bytes ?_ _ _ | refine blk_drewN ?_ _ | refine blk_drew ?_ | refine blk_alloc ?_ _)); refine blk_put (cs := #[.int .i64 3,.string (⟨#[]⟩ : ByteArray),.int .i64 0]) ?_ 1 _ rfl; (with_reducible repeat (first | refine blk_bytes ?_ _ _ | refine blk_drewN ?_ _ | refine blk_drew ?_ | refine blk_alloc ?_ _)); refine blk_put (cs := #[.int .i64 0,.string (⟨#[]⟩ : ByteArray),.int .i64 0]) ?_ 0 _ rfl; (with_reducible repeat (first | refine blk_bytes ?_ _ _ | refine blk_drewN ?_ _ | refine blk_drew ?_ | refine blk_alloc ?_ _)); exact BK364.out) Tryz.underlying43 rfl (by kernel_rfl)) rfl ?_
         exact ⟨by first | rfl | (simp [errW_none,errW_some] <;> rfl) | (simp [*,errW_none,errW_some] <;> rfl),by repeat (first | (with_reducible first | exact HB.out | apply below_alloc | apply pw_below_drewN | apply below_drew1 | apply bytes_below1 | refine below_set ?_ GE364.out) | exact HB.out)⟩
       · rw [if_neg c20] at H
         have c20b0 : ((bt a0 0) == 34) = false := beq_eq_false_iff_ne.mpr c20
         have c20b1 : ((bt a0 0) != 34) = true := bne_iff_ne.mpr c20
         replace H := Option.bind_eq_some_iff.mp H
         obtain ⟨t373,A250,H⟩ := H
         replace H : (some (4,t373,0,(t373.size : Int))) = some (r1,r2,r3,r4) := H
         have A25 := Aside0.mk A250
         clear A250
         simp only [Option.some.injEq,Prod.mk.injEq] at H
         obtain ⟨rfl,rfl,rfl,rfl⟩ := H
         go_enter Tryz.func41,Tryz.ntmps41
         go_wp2_with (first | ((with_reducible refine gate_dst (N := 2) rfl ?_); refine box_event ?hg (N := 2) ?hd (cs := #[.int .i64 0,.string (⟨#[]⟩ : ByteArray),.int .i64 0]) (t := 43) ?hr ?_; (case hd => rfl); (case hg => rfl); (case hr => first | (go_simp; done) | (go_simp; rfl)); intro gb364 hg w26 hbox hb; have n0_ := Aside0.mk (below_step (by repeat (first | (with_reducible first | exact HB.out | apply below_alloc | apply pw_below_drewN | apply below_drew1 | apply bytes_below1) | exact HB.out)) hb); have n1_ := Aside0.mk (hbox); have n2_ := Aside0.mk ((by rw [hg]; exact (below_size (by repeat (first | (with_reducible first | exact HB.out | apply below_alloc | apply pw_below_drewN | apply below_drew1 | apply bytes_below1) | exact HB.out))) : w.heap.size ≤ gb364)); have n3_ := Aside0.mk ((by rw [hg]; exact (below_size (by repeat (first | (with_reducible first | exact HB.out | apply below_alloc | apply pw_below_drewN | apply below_drew1 | apply bytes_below1) | exact HB.out))) : w.heap.size ≤ gb364)); clear HB; have HB := n0_; have BK364 := n1_; have GW364 := n2_; have GE364 := n3_; clear n0_ n1_ n2_ n3_; clear hb hbox hg; have p3 : 0 ≤ (0 : Int) := (by omega); have q3 : 0 < a0.size := (by have : (0 : Int) < (a0.size : Int) := of_decide_eq_true (by first | (with_reducible assumption) | assumption); omega); have hx3 : ∀ h : 0 < a0.size,((a0[0]'h).toNat : Int) = bt a0 0 := bt_at a0 0; clear p3; have qi3 : (0 < (a0.size : Int)) = True := eq_true (of_decide_eq_true (by first | (with_reducible assumption) | assumption)); replace q3 := eq_true q3) | ((with_reducible refine gate_callee (f := 59) rfl ?_); refine goesL_ (some 16) rfl rfl Tryz.func59 (by kernel_rfl) rfl #[.int .u8 (bt a0 0),.string (⟨#[65,66,67,68,69,70,71,72,73,74,75,76,77,78,79,80,81,82,83,84,85,86,87,88,89,90,97,98,99,100,101,102,103,104,105,106,107,108,109,110,111,112,113,114,115,116,117,118,119,120,121,122,95]⟩ : ByteArray)] rfl (by (try simp only [List.map_toArray,List.map_cons,List.map_nil]); first | done | rfl | (simp only [List.length_drop,List.length_take]; rfl)) ?_; (with_reducible refine (lexer_is.calls (bt a0 0) (⟨#[65,66,67,68,69,70,71,72,73,74,75,76,77,78,79,80,81,82,83,84,85,86,87,88,89,90,97,98,99,100,101,102,103,104,105,106,107,108,109,110,111,112,113,114,115,116,117,118,119,120,121,122,95]⟩ : ByteArray) false _ A4.out).mono ?_); rintro e w' ⟨rfl,⟨nd,rfl⟩⟩; refine ⟨_,rfl,?_⟩; (try (rw [drewN_self w26]; generalize hq_ : World.drewN w26 _ = w26; have n0_ : Aside0 (w26.heap[gb364]? = some (.cells #[.int .i64 0,.string (⟨#[]⟩ : ByteArray),.int .i64 0] 43 (0,0))) := ⟨by rw [← hq_]; exact (by (with_reducible repeat (first | refine blk_bytes ?_ _ _ | refine blk_drewN ?_ _ | refine blk_drew ?_ | refine blk_alloc ?_ _)); exact BK364.out)⟩; have n1_ : Aside0 (Below w.heap.size w w26) := ⟨by rw [← hq_]; exact (by repeat (first | (with_reducible first | exact HB.out | apply below_alloc | apply pw_below_drewN | apply below_drew1 | apply bytes_below1 | refine below_set ?_ GE364.out) | exact HB.out))⟩; clear BK364 HB hq_; have BK364 := n0_; have HB := n1_; clear n0_ n1_))) | ((with_reducible refine gate_callee (f := 59) rfl ?_); refine goesL_ (some 25) rfl rfl Tryz.func59 (by kernel_rfl) rfl #[.int .u8 (bt a0 0),.string (⟨#[48,49,50,51,52,53,54,55,56,57]⟩ : ByteArray)] rfl (by (try simp only [List.map_toArray,List.map_cons,List.map_nil]); first | done | rfl | (simp only [List.length_drop,List.length_take]; rfl)) ?_; (with_reducible refine (lexer_is.calls (bt a0 0) (⟨#[48,49,50,51,52,53,54,55,56,57]⟩ : ByteArray) false _ A9.out).mono ?_); rintro e w' ⟨rfl,⟨nd,rfl⟩⟩; refine ⟨_,rfl,?_⟩; (try (rw [drewN_self w26]; generalize hq_ : World.drewN w26 _ = w26; have n0_ : Aside0 (w26.heap[gb364]? = some (.cells #[.int .i64 0,.string (⟨#[]⟩ : ByteArray),.int .i64 0] 43 (0,0))) := ⟨by rw [← hq_]; exact (by (with_reducible repeat (first | refine blk_bytes ?_ _ _ | refine blk_drewN ?_ _ | refine blk_drew ?_ | refine blk_alloc ?_ _)); exact BK364.out)⟩; have n1_ : Aside0 (Below w.heap.size w w26) := ⟨by rw [← hq_]; exact (by repeat (first | (with_reducible first | exact HB.out | apply below_alloc | apply pw_below_drewN | apply below_drew1 | apply bytes_below1 | refine below_set ?_ GE364.out) | exact HB.out))⟩; clear BK364 HB hq_; have BK364 := n0_; have HB := n1_; clear n0_ n1_))) | ((with_reducible refine gate_callee (f := 63) rfl ?_); refine goesL_ (some 52) rfl rfl Tryz.func63 (by kernel_rfl) rfl #[.string a0] rfl (by (try simp only [List.map_toArray,List.map_cons,List.map_nil]); first | done | rfl | (simp only [List.length_drop,List.length_take]; rfl)) ?_; (with_reducible refine (lexer_sign.calls k a0 t373 _ A25.out).mono ?_); rintro e w27 ⟨rfl,hb⟩; refine ⟨_,rfl,?_⟩; have n0_ := Aside0.mk (blk_below (g := gb364) (o := .cells #[.int .i64 0,.string (⟨#[]⟩ : ByteArray),.int .i64 0] 43 (0,0)) (by (with_reducible repeat (first | refine blk_bytes ?_ _ _ | refine blk_drewN ?_ _ | refine blk_drew ?_ | refine blk_alloc ?_ _)); exact BK364.out) hb); have n1_ := Aside0.mk (below_step (by repeat (first | (with_reducible first | exact HB.out | apply below_alloc | apply pw_below_drewN | apply below_drew1 | apply bytes_below1 | refine below_set ?_ GE364.out) | exact HB.out)) hb); clear BK364; clear HB; have BK364 := n0_; have HB := n1_; clear n0_ n1_; (try clear hb); (try clear hb2); (try clear hk); (try clear hi); have hcz28_0 : w27.cell? ⟨gb364,0,none⟩ = some (.int .i64 0) := (blk_cell BK364.out 0).trans rfl; have hcz28_1 : w27.cell? ⟨gb364,1,none⟩ = some (.string (⟨#[]⟩ : ByteArray)) := (blk_cell BK364.out 1).trans rfl; have hcz28_2 : w27.cell? ⟨gb364,2,none⟩ = some (.int .i64 0) := (blk_cell BK364.out 2).trans rfl; have hfz28_0 := blk_frozen BK364.out 0; have hfz28_1 := blk_frozen BK364.out 1; have hfz28_2 := blk_frozen BK364.out 2))
         refine bodyPost_ret (results_ct rfl _ _ gb364 43 #[.int .i64 4,.string t373,.int .i64 0] (0,0) _ rfl (by (with_reducible repeat (first | refine blk_bytes ?_ _ _ | refine blk_drewN ?_ _ | refine blk_drew ?_ | refine blk_alloc ?_ _)); refine blk_put (cs := #[.int .i64 4,.string t373,.int .i64 0]) ?_ 2 _ rfl; (with_reducible repeat (first | refine blk_bytes ?_ _ _ | refine blk_drewN ?_ _ | refine blk_drew ?_ | refine blk_alloc ?_ _)); refine blk_put (cs := #[.int .i64 4,.string (⟨#[]⟩ : ByteArray),.int .i64 0]) ?_ 1 _ rfl; (with_reducible repeat (first | refine blk_bytes ?_ _ _ | refine blk_drewN ?_ _ | refine blk_drew ?_ | refine blk_alloc ?_ _)); refine blk_put (cs := #[.int .i64 0,.string (⟨#[]⟩ : ByteArray),.int .i64 0]) ?_ 0 _ rfl; (with_reducible repeat (first | refine blk_bytes ?_ _ _ | refine blk_drewN ?_ _ | refine blk_drew ?_ | refine blk_alloc ?_ _)); exact BK364.out) Tryz.underlying43 rfl (by kernel_rfl)) rfl ?_
         exact ⟨by first | rfl | (simp [errW_none,errW_some] <;> rfl) | (simp [*,errW_none,errW_some] <;> rfl),by repeat (first | (with_reducible first | exact HB.out | apply below_alloc | apply pw_below_drewN | apply below_drew1 | apply bytes_below1 | refine below_set ?_ GE364.out) | exact HB.out)⟩
 · rw [if_neg c2] at H
   exact absurd H (by simp)
end
end Go.Proofs.YtifgpigicgaadaaGreatDoor.Q
end
