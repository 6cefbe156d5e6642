/- Several texts in one, in their order. -/
import Derived.Test.YtifgpigicgaadaaGreatDoorBLexerBlanks2
section
/- Characters: the program's decoder, the reference's and one plain function are the same at every list of bytes; so are the searches for a byte that is no character. -/
set_option linter.unusedSimpArgs false
set_option linter.unusedVariables false
namespace Go.Proofs.YtifgpigicgaadaaGreatDoor.Chars
open Go.RowKit Go.Proofs.YtifgpigicgaadaaGreatDoor.Q Go.Proofs.YtifgpigicgaadaaGreatDoorW.PrintWords Go.Proofs.YtifgpigicgaadaaGreatDoorW.PrintLast Go.Proofs.YtifgpigicgaadaaGreatDoorH

/-- Each number of a list is a byte. -/
def Bytes (l : List Int) : Prop := ∀ x ∈ l, 0 ≤ x ∧ x < 256
theorem bytes_of (s : ByteArray) : Bytes (bytesOf s) := by
  intro x hx
  unfold bytesOf at hx
  obtain ⟨b, _, rfl⟩ := List.mem_map.1 hx
  have := b.toNat_lt
  constructor <;> omega
theorem Bytes.drop {l : List Int} (h : Bytes l) (n : Nat) : Bytes (l.drop n) := fun x hx => h x (List.mem_of_mem_drop hx)
theorem Bytes.take {l : List Int} (h : Bytes l) (n : Nat) : Bytes (l.take n) := fun x hx => h x (List.mem_of_mem_take hx)
theorem Bytes.getD {l : List Int} (h : Bytes l) (n : Nat) : 0 ≤ l.getD n 0 ∧ l.getD n 0 < 256 := by
  by_cases hn : n < l.length
  · rw [List.getD_eq_getElem?_getD, List.getElem?_eq_getElem hn]; exact h _ (List.getElem_mem hn)
  · rw [List.getD_eq_getElem?_getD, List.getElem?_eq_none (by omega)]; simp

/-- The first character and how many bytes it has; (0, 0): there is none. -/
def decN (n : Nat) (b0 b1 b2 b3 : Int) : Int × Int :=
  if b0 < 128 then (b0, 1)
  else if 192 ≤ b0 ∧ b0 < 224 ∧ 2 ≤ n ∧ 128 ≤ b1 ∧ b1 < 192 then
    (if (b0 - 192) * 64 + (b1 - 128) ≥ 128 then ((b0 - 192) * 64 + (b1 - 128), 2) else (0, 0))
  else if 224 ≤ b0 ∧ b0 < 240 ∧ 3 ≤ n ∧ (128 ≤ b1 ∧ b1 < 192) ∧ 128 ≤ b2 ∧ b2 < 192 then
    (if 2048 ≤ (b0 - 224) * 4096 + (b1 - 128) * 64 + (b2 - 128) ∧ ((b0 - 224) * 4096 + (b1 - 128) * 64 + (b2 - 128) < 55296 ∨ 57344 ≤ (b0 - 224) * 4096 + (b1 - 128) * 64 + (b2 - 128))
     then ((b0 - 224) * 4096 + (b1 - 128) * 64 + (b2 - 128), 3) else (0, 0))
  else if 240 ≤ b0 ∧ b0 < 248 ∧ 4 ≤ n ∧ (128 ≤ b1 ∧ b1 < 192) ∧ (128 ≤ b2 ∧ b2 < 192) ∧ 128 ≤ b3 ∧ b3 < 192 then
    (if 65536 ≤ (b0 - 240) * 262144 + (b1 - 128) * 4096 + (b2 - 128) * 64 + (b3 - 128) ∧ (b0 - 240) * 262144 + (b1 - 128) * 4096 + (b2 - 128) * 64 + (b3 - 128) ≤ 1114111
     then ((b0 - 240) * 262144 + (b1 - 128) * 4096 + (b2 - 128) * 64 + (b3 - 128), 4) else (0, 0))
  else (0, 0)
def dec (l : List Int) : Int × Int := if l = [] then (0, 0) else decN l.length (l.getD 0 0) (l.getD 1 0) (l.getD 2 0) (l.getD 3 0)

theorem decN_two (n : Nat) (b0 b1 b2 b3 : Int) (h0 : 0 ≤ b0) : (decN n b0 b1 b2 b3).2 ≤ 4 ∧ 0 ≤ (decN n b0 b1 b2 b3).2 ∧ 0 ≤ (decN n b0 b1 b2 b3).1 ∧ (decN n b0 b1 b2 b3).1 ≤ 1114111 ∧ (1 ≤ n → (decN n b0 b1 b2 b3).2 ≤ n) ∧ ((decN n b0 b1 b2 b3).2 = 0 → (decN n b0 b1 b2 b3).1 = 0) := by
  unfold decN
  repeat' split
  all_goals (simp only; refine ⟨by omega, by omega, by omega, by omega, fun _ => by omega, fun h_ => by omega⟩)

theorem dec_two {l : List Int} (hl : Bytes l) : (dec l).2 ≤ 4 ∧ 0 ≤ (dec l).2 ∧ 0 ≤ (dec l).1 ∧ (dec l).1 ≤ 1114111 ∧ (dec l).2 ≤ l.length ∧ ((dec l).2 = 0 → (dec l).1 = 0) := by
  unfold dec
  by_cases h : l = []
  · rw [if_pos h]; simp
  · rw [if_neg h]
    have hlen : 1 ≤ l.length := List.length_pos_iff.2 h
    have := decN_two l.length (l.getD 0 0) (l.getD 1 0) (l.getD 2 0) (l.getD 3 0) (hl.getD 0).1
    exact ⟨this.1, this.2.1, this.2.2.1, this.2.2.2.1, this.2.2.2.2.1 hlen, this.2.2.2.2.2⟩

theorem get!_at (l : List Int) (hl : Bytes l) (i : Nat) : (((strOfNums l).get! i).toNat : Int) = l.getD i 0 := by
  by_cases h : i < l.length
  · rw [strOfNums_get! l i h, List.getD_eq_getElem?_getD, List.getElem?_eq_getElem h]
    have := hl _ (List.getElem_mem h)
    simp only [Option.getD_some]
    generalize l[i] = x at *
    obtain ⟨y, rfl⟩ := Int.eq_ofNat_of_zero_le this.1
    simp; omega
  · rw [List.getD_eq_getElem?_getD, List.getElem?_eq_none (by omega)]
    have : ¬ i < (strOfNums l).data.size := by simp [strOfNums]; omega
    have e : (strOfNums l).data[i]! = 0 := by
      rw [Array.getElem!_eq_getD, Array.getD_eq_getD_getElem?, Array.getElem?_eq_none (by omega)]; rfl
    show (((strOfNums l).data[i]!).toNat : Int) = _
    rw [e]; rfl

set_option maxHeartbeats 4000000 in
/-- The model's decoder, with what it calls no character told as (0, 0). -/
theorem decN_go (n : Nat) (b0 b1 b2 b3 : Nat) (h0 : b0 < 256) (h1 : b1 < 256) (h2 : b2 < 256) (h3 : b3 < 256) :
    (if (Lib.decodeN n b0 b1 b2 b3).1 = 65533 ∧ (Lib.decodeN n b0 b1 b2 b3).2 ≤ 1 then ((0 : Int), (0 : Int)) else (((Lib.decodeN n b0 b1 b2 b3).1 : Int), ((Lib.decodeN n b0 b1 b2 b3).2 : Int))) = decN n b0 b1 b2 b3 := by
  unfold Lib.decodeN decN
  repeat' split
  all_goals first
    | (exfalso; omega)
    | (simp only at *; first | (exfalso; omega) | (apply Prod.ext <;> simp only <;> omega))
    | (apply Prod.ext <;> simp only <;> omega)

theorem chars_Decode_spec (l : List Int) (hl : Bytes l) : chars_Decode.f l = some (dec l) := by
  have hall : (l.all fun x => decide (0 ≤ x) && decide (x < 256)) = true := by
    rw [List.all_eq_true]; intro x hx; have := hl x hx; simp [this.1, this.2]
  unfold chars_Decode.f utf8_DecodeRune.f
  rw [if_pos hall, Option.bind_some]
  by_cases h : l = []
  · subst h; rfl
  · have hlen : 1 ≤ l.length := List.length_pos_iff.2 h
    have hsz : (strOfNums l).size = l.length := strOfNums_size l
    have hd : Lib.decodeGo (strOfNums l) = Lib.decodeN l.length (l.getD 0 0).toNat (l.getD 1 0).toNat (l.getD 2 0).toNat (l.getD 3 0).toNat := by
      unfold Lib.decodeGo
      rw [if_neg (by omega), Lib.decode_at, hsz]
      have g := get!_at l hl
      have e : ∀ i, ((strOfNums l).get! i).toNat = (l.getD i 0).toNat := fun i => by have := g i; omega
      simp only [Nat.zero_add, Nat.sub_zero, e]
    have hdec : dec l = decN l.length (l.getD 0 0) (l.getD 1 0) (l.getD 2 0) (l.getD 3 0) := by unfold dec; rw [if_neg h]
    have hb := hl.getD
    have key := decN_go l.length (l.getD 0 0).toNat (l.getD 1 0).toNat (l.getD 2 0).toNat (l.getD 3 0).toNat (by have := hb 0; omega) (by have := hb 1; omega) (by have := hb 2; omega) (by have := hb 3; omega)
    rw [Int.toNat_of_nonneg (hb 0).1, Int.toNat_of_nonneg (hb 1).1, Int.toNat_of_nonneg (hb 2).1, Int.toNat_of_nonneg (hb 3).1, ← hdec, ← hd] at key
    rw [← key]
    have hr : (Lib.decodeGo (strOfNums l)).1 ≤ 1114111 := by
      rw [hd]; unfold Lib.decodeN
      have := hb 0; have := hb 1
      repeat' split
      all_goals (simp only; omega)
    by_cases h1 : (Lib.decodeGo (strOfNums l)).1 = 65533
    · by_cases h2 : (Lib.decodeGo (strOfNums l)).2 ≤ 1
      · rw [if_pos (by omega), if_pos (by omega), if_pos ⟨h1, h2⟩]
      · rw [if_pos (by omega), if_neg (by omega), if_neg (fun x => h2 x.2)]; congr 2; unfold wrap64; omega
    · rw [if_neg (by omega), if_neg (fun x => h1 x.1)]; congr 2; unfold wrap64; omega

/-! ## The reference's -/
theorem tmod64 (x : Int) (h : 0 ≤ x) : Int.tmod x 64 = x % 64 := Int.tmod_eq_emod_of_nonneg h

/-- A character's bytes. -/
def enc (r : Int) : List Int :=
  if r < 0 ∨ r > 1114111 ∨ (55296 ≤ r ∧ r ≤ 57343) then []
  else if r < 128 then [r]
  else if r < 2048 then [192 + r / 64, 128 + r % 64]
  else if r < 65536 then [224 + r / 4096, 128 + r / 64 % 64, 128 + r % 64]
  else [240 + r / 262144, 128 + r / 4096 % 64, 128 + r / 64 % 64, 128 + r % 64]

theorem enc_spec (k : Nat) (r : Int) : dossierref01_Encode.f (k + 1) r = some (enc r) := by
  unfold dossierref01_Encode.f enc
  simp only [dossierref01_Encode.j0]
  have w : ∀ x : Int, 0 ≤ x → x < 4000000 → wrap64 x = x := fun x h0 h1 => by unfold wrap64; omega
  by_cases h1 : r < 0
  · simp [h1]
  · by_cases h2 : r > 1114111
    · simp [h1, h2]
    · by_cases h3 : r ≥ 55296 ∧ r ≤ 57343
      · simp [h1, h2, h3.1, h3.2]
      · have hc : ¬ (r < 0 ∨ r > 1114111 ∨ (55296 ≤ r ∧ r ≤ 57343)) := by omega
        rw [if_neg h1, if_neg h2, if_neg hc]
        have e : (if r ≥ 55296 then (if (decide (r ≤ 57343)) = true then some ([] : List Int) else if r < 128 then some [r % 256] else if r < 2048 then some [wrap64 (192 + r / 64) % 256, wrap64 (128 + Int.tmod r 64) % 256] else if r < 65536 then some [wrap64 (224 + r / 4096) % 256, wrap64 (128 + Int.tmod (r / 64) 64) % 256, wrap64 (128 + Int.tmod r 64) % 256] else some [wrap64 (240 + r / 262144) % 256, wrap64 (128 + Int.tmod (r / 4096) 64) % 256, wrap64 (128 + Int.tmod (r / 64) 64) % 256, wrap64 (128 + Int.tmod r 64) % 256])
            else if false = true then some ([] : List Int) else if r < 128 then some [r % 256] else if r < 2048 then some [wrap64 (192 + r / 64) % 256, wrap64 (128 + Int.tmod r 64) % 256] else if r < 65536 then some [wrap64 (224 + r / 4096) % 256, wrap64 (128 + Int.tmod (r / 64) 64) % 256, wrap64 (128 + Int.tmod r 64) % 256] else some [wrap64 (240 + r / 262144) % 256, wrap64 (128 + Int.tmod (r / 4096) 64) % 256, wrap64 (128 + Int.tmod (r / 64) 64) % 256, wrap64 (128 + Int.tmod r 64) % 256])
            = (if r < 128 then some [r % 256] else if r < 2048 then some [wrap64 (192 + r / 64) % 256, wrap64 (128 + Int.tmod r 64) % 256] else if r < 65536 then some [wrap64 (224 + r / 4096) % 256, wrap64 (128 + Int.tmod (r / 64) 64) % 256, wrap64 (128 + Int.tmod r 64) % 256] else some [wrap64 (240 + r / 262144) % 256, wrap64 (128 + Int.tmod (r / 4096) 64) % 256, wrap64 (128 + Int.tmod (r / 64) 64) % 256, wrap64 (128 + Int.tmod r 64) % 256]) := by
          by_cases h4 : r ≥ 55296
          · rw [if_pos h4, if_neg (by simp; omega)]
          · rw [if_neg h4]; simp
        rw [e, tmod64 r (by omega), tmod64 (r / 64) (by omega), tmod64 (r / 4096) (by omega)]
        by_cases a1 : r < 128
        · simp only [a1, if_true]; congr 2; omega
        · simp only [a1, if_false]
          by_cases a2 : r < 2048
          · simp only [a2, if_true]; rw [w _ (by omega) (by omega), w _ (by omega) (by omega)]; congr 2; omega; congr 1; omega
          · simp only [a2, if_false]
            by_cases a3 : r < 65536
            · simp only [a3, if_true]; rw [w _ (by omega) (by omega), w _ (by omega) (by omega), w _ (by omega) (by omega)]; congr 2; omega; congr 1; omega; congr 1; omega
            · simp only [a3, if_false]; rw [w _ (by omega) (by omega), w _ (by omega) (by omega), w _ (by omega) (by omega), w _ (by omega) (by omega)]; congr 2; omega; congr 1; omega; congr 1; omega; congr 1; omega

/-- Bytes as a string are the same just where they are the same. -/
theorem str_inj {l m : List Int} (hl : Bytes l) (hm : Bytes m) : (strOfNums l).toList = (strOfNums m).toList ↔ l = m := by
  constructor
  · intro h
    rw [Lib.toList_data, Lib.toList_data, strOfNums_data, strOfNums_data] at h
    have hlen : l.length = m.length := by simpa using congrArg List.length h
    apply List.ext_getElem hlen
    intro i h1 h2
    have e : (l.map fun n => UInt8.ofNat n.toNat)[i]'(by simpa using h1) = (m.map fun n => UInt8.ofNat n.toNat)[i]'(by simpa using h2) := by simp only [h]
    simp only [List.getElem_map] at e
    have b1 := hl _ (List.getElem_mem h1)
    have b2 := hm _ (List.getElem_mem h2)
    have e' := congrArg UInt8.toNat e
    simp at e'
    omega
  · intro h; rw [h]

theorem enc_bytes (r : Int) : Bytes (enc r) := by
  unfold enc
  repeat' split
  all_goals (intro x hx; simp at hx)
  all_goals first | omega | (rcases hx with h | h <;> omega) | (rcases hx with h | h | h <;> omega) | (rcases hx with h | h | h | h <;> omega)

/-- What the reference does behind the first byte: the rest of the bytes, then the character's own bytes held against them. -/
def tailD (l : List Int) (n : Int) (r : Int) : Option (Int × Int) := if enc r = l.take n.toNat then some (r, n) else some (0, 0)

theorem fin_spec (k : Nat) (l : List Int) (hl : Bytes l) (n r : Int) (h0 : 0 ≤ n) (hn : n ≤ l.length) :
    ((dossierref01_Encode.f (k + 1) r).bind fun t178 => (if 0 ≤ n then (if n ≤ (l.length : Int) then (if (strOfNums t178).toList = (strOfNums (l.take (n : Int).toNat)).toList then (some (r, n)) else (some (0, 0))) else (none)) else (none))) = tailD l n r := by
  rw [enc_spec, Option.bind_some, if_pos h0, if_pos hn]
  unfold tailD
  by_cases h : enc r = l.take n.toNat
  · rw [if_pos h, if_pos ((str_inj (enc_bytes r) (hl.take _)).2 h)]
  · rw [if_neg h, if_neg (fun x => h ((str_inj (enc_bytes r) (hl.take _)).1 x))]

theorem w64 (x : Int) (h0 : -10000000 ≤ x) (h1 : x < 100000000) : wrap64 x = x := by unfold wrap64; omega

theorem loopD (l : List Int) (hl : Bytes l) (n : Int) (h0 : 0 ≤ n) (hn : n ≤ l.length) (xs : List Int) (hx : Bytes xs) (hlen : xs.length ≤ 3) : ∀ (d i k : Nat) (r : Int), i + d = xs.length → 0 ≤ r → ((i = 0 ∧ (r < 64 ∨ (xs = [] ∧ r < 4096))) ∨ (i = 1 ∧ r < 4096) ∨ (i = 2 ∧ r < 262144) ∨ (i = 3 ∧ r < 16777216)) →
    dossierref01_Decode.l0 (k + d + 2) l n r xs (xs.length : Int) (i : Int) = if (∀ x ∈ xs.drop i, 128 ≤ x ∧ x < 192) then tailD l n ((xs.drop i).foldl (fun r x => r * 64 + (x - 128)) r) else some (0, 0) := by
  intro d
  induction d with
  | zero =>
    intro i k r hi hr hb
    rw [show k + 0 + 2 = (k + 1) + 1 from rfl]
    rw [dossierref01_Decode.l0]
    rw [if_neg (by omega), fin_spec k l hl n r h0 hn, List.drop_of_length_le (by omega)]
    simp
  | succ d ih =>
    intro i k r hi hr hb
    have hlt : i < xs.length := by omega
    have hrd : rd xs (i : Int) = xs[i] := by simp [rd, List.getD, hlt]
    have hb' : (i = 0 ∧ r < 64) ∨ (i = 1 ∧ r < 4096) ∨ (i = 2 ∧ r < 262144) ∨ (i = 3 ∧ r < 16777216) := by
      rcases hb with ⟨h, h2 | ⟨h2, _⟩⟩ | h | h
      · exact Or.inl ⟨h, h2⟩
      · subst h2; simp at hlt
      · exact Or.inr (Or.inl h)
      · exact Or.inr (Or.inr h)
    clear hb
    have hbx := hx _ (List.getElem_mem hlt)
    rw [show k + (d + 1) + 2 = (k + d + 2) + 1 from by omega]
    rw [dossierref01_Decode.l0]
    rw [if_pos (by omega), if_pos (by omega), if_pos (by omega), hrd, List.drop_eq_getElem_cons hlt]
    by_cases c1 : xs[i] < 128
    · rw [if_pos c1, if_neg (fun h => by have := h xs[i] List.mem_cons_self; omega)]
    · by_cases c2 : xs[i] > 191
      · rw [if_neg c1, if_pos c2, if_neg (fun h => by have := h xs[i] List.mem_cons_self; omega)]
      · rw [if_neg c1, if_neg c2]
        generalize hy : xs[i] = y at *
        have e : wrap64 (wrap64 (wrap64 (r * 64) + wrap64 y) - 128) = r * 64 + (y - 128) := by
          rw [w64 (r * 64) (by omega) (by omega), w64 y (by omega) (by omega), w64 (r * 64 + y) (by omega) (by omega), w64 (r * 64 + y - 128) (by omega) (by omega)]; omega
        have e2 : wrap64 ((i : Int) + 1) = ((i + 1 : Nat) : Int) := by rw [w64 _ (by omega) (by omega)]; omega
        have hb2 : (i + 1 = 1 ∧ r * 64 + (y - 128) < 4096) ∨ (i + 1 = 2 ∧ r * 64 + (y - 128) < 262144) ∨ (i + 1 = 3 ∧ r * 64 + (y - 128) < 16777216) := by
          clear ih e e2 hx hl hrd
          rcases hb' with ⟨h1, h2⟩ | ⟨h1, h2⟩ | ⟨h1, h2⟩ | ⟨h1, h2⟩
          · exact Or.inl ⟨by omega, by omega⟩
          · exact Or.inr (Or.inl ⟨by omega, by omega⟩)
          · exact Or.inr (Or.inr ⟨by omega, by omega⟩)
          · omega
        rw [e, e2, ih (i + 1) k (r * 64 + (y - 128)) (by omega) (by omega) (Or.inr hb2)]
        have hy1 : 128 ≤ y ∧ y < 192 := by omega
        simp only [List.mem_cons, forall_eq_or_imp, hy1, true_and, List.foldl_cons, and_self]

theorem enc_len (r : Int) : (enc r).length = if r < 0 ∨ r > 1114111 ∨ (55296 ≤ r ∧ r ≤ 57343) then 0 else if r < 128 then 1 else if r < 2048 then 2 else if r < 65536 then 3 else 4 := by
  unfold enc; repeat' split
  all_goals rfl
theorem enc4 (r b0 b1 b2 b3 : Int) (h1 : 128 ≤ b1 ∧ b1 < 192) (h2 : 128 ≤ b2 ∧ b2 < 192) (h3 : 128 ≤ b3 ∧ b3 < 192) (hr : r = (b0 - 240) * 262144 + (b1 - 128) * 4096 + (b2 - 128) * 64 + (b3 - 128)) :
    enc r = [b0, b1, b2, b3] ↔ 65536 ≤ r ∧ r ≤ 1114111 := by
  constructor
  · intro h
    have hl := congrArg List.length h
    rw [enc_len] at hl
    simp only [List.length_cons, List.length_nil] at hl
    split at hl
    · omega
    · split at hl
      · omega
      · split at hl
        · omega
        · split at hl
          · omega
          · omega
  · intro h
    unfold enc
    rw [if_neg (by omega), if_neg (by omega), if_neg (by omega), if_neg (by omega)]
    have e0 : 240 + r / 262144 = b0 := by omega
    have e1 : 128 + r / 4096 % 64 = b1 := by omega
    have e2 : 128 + r / 64 % 64 = b2 := by omega
    have e3 : 128 + r % 64 = b3 := by omega
    rw [e0, e1, e2, e3]
theorem enc3 (r b0 b1 b2 : Int) (h1 : 128 ≤ b1 ∧ b1 < 192) (h2 : 128 ≤ b2 ∧ b2 < 192) (h0 : 224 ≤ b0 ∧ b0 < 240) (hr : r = (b0 - 224) * 4096 + (b1 - 128) * 64 + (b2 - 128)) :
    enc r = [b0, b1, b2] ↔ 2048 ≤ r ∧ (r < 55296 ∨ 57344 ≤ r) := by
  constructor
  · intro h
    have hl := congrArg List.length h
    rw [enc_len] at hl
    simp only [List.length_cons, List.length_nil] at hl
    split at hl
    · omega
    · split at hl
      · omega
      · split at hl
        · omega
        · omega
  · intro h
    unfold enc
    rw [if_neg (by omega), if_neg (by omega), if_neg (by omega), if_pos (by omega)]
    have e0 : 224 + r / 4096 = b0 := by omega
    have e1 : 128 + r / 64 % 64 = b1 := by omega
    have e2 : 128 + r % 64 = b2 := by omega
    rw [e0, e1, e2]
theorem enc2 (r b0 b1 : Int) (h1 : 128 ≤ b1 ∧ b1 < 192) (h0 : 192 ≤ b0 ∧ b0 < 224) (hr : r = (b0 - 192) * 64 + (b1 - 128)) : enc r = [b0, b1] ↔ 128 ≤ r := by
  constructor
  · intro h
    have hl := congrArg List.length h
    rw [enc_len] at hl
    simp only [List.length_cons, List.length_nil] at hl
    split at hl
    · omega
    · split at hl
      · omega
      · omega
  · intro h
    unfold enc
    rw [if_neg (by omega), if_neg (by omega), if_pos (by omega)]
    have e0 : 192 + r / 64 = b0 := by omega
    have e1 : 128 + r % 64 = b1 := by omega
    rw [e0, e1]
theorem enc1 (b0 : Int) (h0 : 0 ≤ b0 ∧ b0 < 192) : enc b0 = [b0] ↔ b0 < 128 := by
  constructor
  · intro h
    have hl := congrArg List.length h
    rw [enc_len] at hl
    simp only [List.length_cons, List.length_nil] at hl
    repeat' split at hl
    all_goals omega
  · intro h
    unfold enc
    rw [if_neg (by omega), if_pos h]

theorem decN4 (n : Nat) (b0 b1 b2 b3 : Int) (h : 240 ≤ b0) (hn : b0 < 256) : decN n b0 b1 b2 b3 = if 4 ≤ n ∧ ((128 ≤ b1 ∧ b1 < 192) ∧ (128 ≤ b2 ∧ b2 < 192) ∧ 128 ≤ b3 ∧ b3 < 192) ∧ 65536 ≤ (((b0 - 240) * 64 + (b1 - 128)) * 64 + (b2 - 128)) * 64 + (b3 - 128) ∧ (((b0 - 240) * 64 + (b1 - 128)) * 64 + (b2 - 128)) * 64 + (b3 - 128) ≤ 1114111
    then ((((b0 - 240) * 64 + (b1 - 128)) * 64 + (b2 - 128)) * 64 + (b3 - 128), 4) else (0, 0) := by
  unfold decN
  rw [if_neg (by omega), if_neg (by omega), if_neg (by omega)]
  repeat' split
  all_goals first | rfl | (exfalso; omega) | (congr 1; omega)
theorem decN3 (n : Nat) (b0 b1 b2 b3 : Int) (h : 224 ≤ b0) (hn : b0 < 240) : decN n b0 b1 b2 b3 = if 3 ≤ n ∧ ((128 ≤ b1 ∧ b1 < 192) ∧ 128 ≤ b2 ∧ b2 < 192) ∧ 2048 ≤ ((b0 - 224) * 64 + (b1 - 128)) * 64 + (b2 - 128) ∧ (((b0 - 224) * 64 + (b1 - 128)) * 64 + (b2 - 128) < 55296 ∨ 57344 ≤ ((b0 - 224) * 64 + (b1 - 128)) * 64 + (b2 - 128))
    then (((b0 - 224) * 64 + (b1 - 128)) * 64 + (b2 - 128), 3) else (0, 0) := by
  unfold decN
  rw [if_neg (by omega), if_neg (by omega)]
  repeat' split
  all_goals first | rfl | (exfalso; omega) | (congr 1; omega)
theorem decN2 (n : Nat) (b0 b1 b2 b3 : Int) (h : 192 ≤ b0) (hn : b0 < 224) : decN n b0 b1 b2 b3 = if 2 ≤ n ∧ (128 ≤ b1 ∧ b1 < 192) ∧ 128 ≤ (b0 - 192) * 64 + (b1 - 128) then ((b0 - 192) * 64 + (b1 - 128), 2) else (0, 0) := by
  unfold decN
  rw [if_neg (by omega)]
  repeat' split
  all_goals first | rfl | (exfalso; omega)
theorem decN1 (n : Nat) (b0 b1 b2 b3 : Int) (hn : b0 < 192) : decN n b0 b1 b2 b3 = if b0 < 128 then (b0, 1) else (0, 0) := by
  unfold decN
  by_cases h : b0 < 128
  · rw [if_pos h, if_pos h]
  · have a1 : ¬ (192 ≤ b0) := by omega
    have a2 : ¬ (224 ≤ b0) := by omega
    have a3 : ¬ (240 ≤ b0) := by omega
    rw [if_neg h, if_neg (fun x => a1 x.1), if_neg (fun x => a2 x.1), if_neg (fun x => a3 x.1), if_neg h]

theorem four (k : Nat) (b0 : Int) (t : List Int) (hl : Bytes (b0 :: t)) (c4 : 240 ≤ b0) : dossierref01_Decode.j0 (k + 10) (b0 :: t) 4 (b0 - 240) = some (decN (b0 :: t).length b0 (t.getD 0 0) (t.getD 1 0) (t.getD 2 0)) := by
  have hb0 := hl b0 (by simp)
  rw [show k + 10 = (k + 9) + 1 from rfl, dossierref01_Decode.j0, decN4 _ _ _ _ _ c4 hb0.2]
  match t, hl with
  | [], _ => rw [if_pos (by simp), if_neg (by simp)]
  | [_], _ => rw [if_pos (by simp), if_neg (by simp)]
  | [_, _], _ => rw [if_pos (by simp), if_neg (by simp)]
  | b1 :: b2 :: b3 :: u, hl =>
    have hx : Bytes [b1, b2, b3] := fun x hx => hl x (List.mem_cons_of_mem _ (show x ∈ [b1, b2, b3] ++ u from List.mem_append_left u hx))
    have hL := loopD (b0 :: b1 :: b2 :: b3 :: u) hl 4 (by decide) (by simp; omega) [b1, b2, b3] hx (by simp) 3 0 (k + 4) (b0 - 240) rfl (by omega) (Or.inl ⟨rfl, Or.inl (by omega)⟩)
    rw [if_neg (by simp; omega), if_pos (by decide), if_pos (by simp; omega)]
    rw [show dossierref01_Decode.l0 (k + 9) (b0 :: b1 :: b2 :: b3 :: u) 4 (b0 - 240) (((b0 :: b1 :: b2 :: b3 :: u).take (4 : Int).toNat).drop 1) ((((b0 :: b1 :: b2 :: b3 :: u).take (4 : Int).toNat).drop 1).length : Int) 0 = _ from hL]
    simp only [List.drop_zero, List.mem_cons, List.not_mem_nil, or_false, forall_eq_or_imp, forall_eq, List.foldl_cons, List.foldl_nil]
    unfold tailD
    rw [show (b0 :: b1 :: b2 :: b3 :: u).take (4 : Int).toNat = [b0, b1, b2, b3] from rfl]
    simp only [List.getD_cons_zero, List.getD_cons_succ]
    have hlen : 4 ≤ (b0 :: b1 :: b2 :: b3 :: u).length := by simp
    generalize (b0 :: b1 :: b2 :: b3 :: u).length = N at hlen ⊢
    by_cases hc : (128 ≤ b1 ∧ b1 < 192) ∧ (128 ≤ b2 ∧ b2 < 192) ∧ 128 ≤ b3 ∧ b3 < 192
    · have e := enc4 ((((b0 - 240) * 64 + (b1 - 128)) * 64 + (b2 - 128)) * 64 + (b3 - 128)) b0 b1 b2 b3 hc.1 hc.2.1 hc.2.2 (by omega)
      rw [if_pos hc]
      by_cases hr : 65536 ≤ (((b0 - 240) * 64 + (b1 - 128)) * 64 + (b2 - 128)) * 64 + (b3 - 128) ∧ (((b0 - 240) * 64 + (b1 - 128)) * 64 + (b2 - 128)) * 64 + (b3 - 128) ≤ 1114111
      · rw [if_pos (e.2 hr), if_pos ⟨hlen, hc, hr⟩]
      · rw [if_neg (fun x => hr (e.1 x)), if_neg (fun x => hr x.2.2)]
    · rw [if_neg hc, if_neg (fun x => hc x.2.1)]

theorem three (k : Nat) (b0 : Int) (t : List Int) (hl : Bytes (b0 :: t)) (c4 : 224 ≤ b0) (c5 : b0 < 240) : dossierref01_Decode.j0 (k + 10) (b0 :: t) 3 (b0 - 224) = some (decN (b0 :: t).length b0 (t.getD 0 0) (t.getD 1 0) (t.getD 2 0)) := by
  rw [show k + 10 = (k + 9) + 1 from rfl, dossierref01_Decode.j0, decN3 _ _ _ _ _ c4 c5]
  match t, hl with
  | [], _ => rw [if_pos (by simp), if_neg (by simp)]
  | [_], _ => rw [if_pos (by simp), if_neg (by simp)]
  | b1 :: b2 :: u, hl =>
    have hx : Bytes [b1, b2] := fun x hx => hl x (List.mem_cons_of_mem _ (show x ∈ [b1, b2] ++ u from List.mem_append_left u hx))
    have hL := loopD (b0 :: b1 :: b2 :: u) hl 3 (by decide) (by simp; omega) [b1, b2] hx (by simp) 2 0 (k + 5) (b0 - 224) rfl (by omega) (Or.inl ⟨rfl, Or.inl (by omega)⟩)
    rw [if_neg (by simp; omega), if_pos (by decide), if_pos (by simp; omega)]
    rw [show dossierref01_Decode.l0 (k + 9) (b0 :: b1 :: b2 :: u) 3 (b0 - 224) (((b0 :: b1 :: b2 :: u).take (3 : Int).toNat).drop 1) ((((b0 :: b1 :: b2 :: u).take (3 : Int).toNat).drop 1).length : Int) 0 = _ from hL]
    simp only [List.drop_zero, List.mem_cons, List.not_mem_nil, or_false, forall_eq_or_imp, forall_eq, List.foldl_cons, List.foldl_nil]
    unfold tailD
    rw [show (b0 :: b1 :: b2 :: u).take (3 : Int).toNat = [b0, b1, b2] from rfl]
    simp only [List.getD_cons_zero, List.getD_cons_succ]
    have hlen : 3 ≤ (b0 :: b1 :: b2 :: u).length := by simp
    generalize (b0 :: b1 :: b2 :: u).length = N at hlen ⊢
    by_cases hc : (128 ≤ b1 ∧ b1 < 192) ∧ 128 ≤ b2 ∧ b2 < 192
    · have e := enc3 (((b0 - 224) * 64 + (b1 - 128)) * 64 + (b2 - 128)) b0 b1 b2 hc.1 hc.2 ⟨c4, c5⟩ (by omega)
      rw [if_pos hc]
      by_cases hr : 2048 ≤ ((b0 - 224) * 64 + (b1 - 128)) * 64 + (b2 - 128) ∧ (((b0 - 224) * 64 + (b1 - 128)) * 64 + (b2 - 128) < 55296 ∨ 57344 ≤ ((b0 - 224) * 64 + (b1 - 128)) * 64 + (b2 - 128))
      · rw [if_pos (e.2 hr), if_pos ⟨hlen, hc, hr⟩]
      · rw [if_neg (fun x => hr (e.1 x)), if_neg (fun x => hr x.2.2)]
    · rw [if_neg hc, if_neg (fun x => hc x.2.1)]

theorem two (k : Nat) (b0 : Int) (t : List Int) (hl : Bytes (b0 :: t)) (c4 : 192 ≤ b0) (c5 : b0 < 224) : dossierref01_Decode.j0 (k + 10) (b0 :: t) 2 (b0 - 192) = some (decN (b0 :: t).length b0 (t.getD 0 0) (t.getD 1 0) (t.getD 2 0)) := by
  rw [show k + 10 = (k + 9) + 1 from rfl, dossierref01_Decode.j0, decN2 _ _ _ _ _ c4 c5]
  match t, hl with
  | [], _ => rw [if_pos (by simp), if_neg (by simp)]
  | b1 :: u, hl =>
    have hx : Bytes [b1] := fun x hx => hl x (List.mem_cons_of_mem _ (show x ∈ [b1] ++ u from List.mem_append_left u hx))
    have hL := loopD (b0 :: b1 :: u) hl 2 (by decide) (by simp; omega) [b1] hx (by simp) 1 0 (k + 6) (b0 - 192) rfl (by omega) (Or.inl ⟨rfl, Or.inl (by omega)⟩)
    rw [if_neg (by simp; omega), if_pos (by decide), if_pos (by simp; omega)]
    rw [show dossierref01_Decode.l0 (k + 9) (b0 :: b1 :: u) 2 (b0 - 192) (((b0 :: b1 :: u).take (2 : Int).toNat).drop 1) ((((b0 :: b1 :: u).take (2 : Int).toNat).drop 1).length : Int) 0 = _ from hL]
    simp only [List.drop_zero, List.mem_cons, List.not_mem_nil, or_false, forall_eq, List.foldl_cons, List.foldl_nil]
    unfold tailD
    rw [show (b0 :: b1 :: u).take (2 : Int).toNat = [b0, b1] from rfl]
    simp only [List.getD_cons_zero]
    have hlen : 2 ≤ (b0 :: b1 :: u).length := by simp
    generalize (b0 :: b1 :: u).length = N at hlen ⊢
    by_cases hc : 128 ≤ b1 ∧ b1 < 192
    · have e := enc2 ((b0 - 192) * 64 + (b1 - 128)) b0 b1 hc ⟨c4, c5⟩ rfl
      rw [if_pos hc]
      by_cases hr : 128 ≤ (b0 - 192) * 64 + (b1 - 128)
      · rw [if_pos (e.2 hr), if_pos ⟨hlen, hc, hr⟩]
      · rw [if_neg (fun x => hr (e.1 x)), if_neg (fun x => hr x.2.2)]
    · rw [if_neg hc, if_neg (fun x => hc x.2.1)]

theorem one (k : Nat) (b0 : Int) (t : List Int) (hl : Bytes (b0 :: t)) (c5 : b0 < 192) : dossierref01_Decode.j0 (k + 10) (b0 :: t) 1 b0 = some (decN (b0 :: t).length b0 (t.getD 0 0) (t.getD 1 0) (t.getD 2 0)) := by
  have hb0 := hl b0 (by simp)
  rw [show k + 10 = (k + 9) + 1 from rfl, dossierref01_Decode.j0, decN1 _ _ _ _ _ c5]
  have hL := loopD (b0 :: t) hl 1 (by decide) (by simp; omega) [] (fun x hx => by cases hx) (by simp) 0 0 (k + 7) b0 rfl (by omega) (Or.inl ⟨rfl, Or.inr ⟨rfl, by omega⟩⟩)
  rw [if_neg (by simp; omega), if_pos (by decide), if_pos (by simp; omega)]
  rw [show dossierref01_Decode.l0 (k + 9) (b0 :: t) 1 b0 (((b0 :: t).take (1 : Int).toNat).drop 1) ((((b0 :: t).take (1 : Int).toNat).drop 1).length : Int) 0 = _ from hL]
  simp only [List.drop_nil, List.not_mem_nil, false_implies, implies_true, if_true, List.foldl_nil]
  unfold tailD
  rw [show (b0 :: t).take (1 : Int).toNat = [b0] from rfl]
  have e := enc1 b0 ⟨hb0.1, c5⟩
  by_cases hr : b0 < 128
  · rw [if_pos (e.2 hr), if_pos hr]
  · rw [if_neg (fun x => hr (e.1 x)), if_neg hr]

theorem ref_Decode_spec (k : Nat) (l : List Int) (hl : Bytes l) : dossierref01_Decode.f (k + 10) l = some (dec l) := by
  cases l with
  | nil => simp [dossierref01_Decode.f, dec]
  | cons b0 t =>
    have hb0 := hl b0 (by simp)
    have hrd : rd (b0 :: t) 0 = b0 := rfl
    unfold dossierref01_Decode.f
    rw [if_neg (by simp; omega), if_pos (by simp), hrd]
    have hdec : dec (b0 :: t) = decN (b0 :: t).length b0 (t.getD 0 0) (t.getD 1 0) (t.getD 2 0) := by unfold dec; rw [if_neg (by simp)]; rfl
    rw [hdec, w64 b0 (by omega) (by omega), w64 (b0 - 240) (by omega) (by omega), w64 (b0 - 224) (by omega) (by omega), w64 (b0 - 192) (by omega) (by omega)]
    by_cases c4 : b0 ≥ 240
    · rw [if_pos c4]; exact four k b0 t hl c4
    · rw [if_neg c4]
      by_cases c3 : b0 ≥ 224
      · rw [if_pos c3]; exact three k b0 t hl c3 (by omega)
      · rw [if_neg c3]
        by_cases c2 : b0 ≥ 192
        · rw [if_pos c2]; exact two k b0 t hl c2 (by omega)
        · rw [if_neg c2]; exact one k b0 t hl (by omega)

/-! ## Characters of XML; where the first byte stands that is none -/
def xmlC (r : Int) : Bool := decide ((32 ≤ r ∧ r ≤ 55295) ∨ (9 ≤ r ∧ r ≤ 10) ∨ r = 13 ∨ (57344 ≤ r ∧ r ≤ 65533) ∨ (65536 ≤ r ∧ r ≤ 1114111))

theorem chars_in_at (r : Int) (xs : List S115) (hlen : xs.length < 1000000) : ∀ d i k : Nat, i + d = xs.length → chars_in.l0 (k + d + 1) r xs (xs.length : Int) (i : Int) = some ((xs.drop i).any fun s => decide (s.f0 ≤ r) && decide (r ≤ s.f1)) := by
  intro d
  induction d with
  | zero =>
    intro i k hi
    rw [chars_in.l0, if_neg (by omega), List.drop_of_length_le (by omega)]; rfl
  | succ d ih =>
    intro i k hi
    have hlt : i < xs.length := by omega
    have e2 : wrap64 ((i : Int) + 1) = ((i + 1 : Nat) : Int) := by rw [w64 _ (by omega) (by omega)]; omega
    have hrd : rd_T115 xs (i : Int) = xs[i] := by simp [rd_T115, List.getD, hlt]
    rw [show k + (d + 1) + 1 = (k + d + 1) + 1 from by omega, chars_in.l0, if_pos (by omega), if_pos (by omega), if_pos (by omega), hrd, List.drop_eq_getElem_cons hlt, e2, ih (i + 1) k (by omega), List.any_cons]
    generalize ((xs.drop (i + 1)).any fun s => decide (s.f0 ≤ r) && decide (r ≤ s.f1)) = v
    by_cases c1 : (xs[i]).f0 ≤ r
    · by_cases c2 : r ≤ (xs[i]).f1
      · simp [c1, c2]
      · simp [c1, c2]
    · simp [c1]
theorem chars_in_spec (r : Int) (xs : List S115) (hlen : xs.length < 1000000) (k : Nat) (hk : xs.length + 1 ≤ k) : chars_in.f k r xs = some (xs.any fun s => decide (s.f0 ≤ r) && decide (r ≤ s.f1)) := by
  have := chars_in_at r xs hlen xs.length 0 (k - xs.length - 1) (by omega)
  rw [show k - xs.length - 1 + xs.length + 1 = k from by omega] at this
  exact this
theorem chars_ofXML_spec (k : Nat) (r : Int) : chars_ofXML.f (k + 10) r = some (xmlC r) := by
  unfold chars_ofXML.f
  rw [chars_in_spec r _ (by simp) _ (by simp), Option.bind_some]
  unfold xmlC
  congr 1
  simp only [List.any_cons, List.any_nil, Bool.or_false]
  rw [Bool.eq_iff_iff]
  simp only [Bool.or_eq_true, Bool.and_eq_true, decide_eq_true_eq]
  omega

/-- Between two of the numbers that stand by twos. -/
def inP (r : Int) : List Int → Bool
  | a :: b :: t => (decide (a ≤ r) && decide (r ≤ b)) || inP r t
  | _ => false
theorem within_at (r : Int) (xs : List Int) (hlen : xs.length < 1000000) : ∀ d i k : Nat, xs.length ≤ i + 2 * d → i ≤ xs.length → dossierref01_within.l0 (k + d + 1) r xs (i : Int) = some (inP r (xs.drop i)) := by
  intro d
  induction d with
  | zero =>
    intro i k hi hi2
    rw [dossierref01_within.l0, w64 ((i : Int) + 1) (by omega) (by omega), if_neg (by omega), List.drop_of_length_le (by omega)]; rfl
  | succ d ih =>
    intro i k hi hi2
    have e1 : wrap64 ((i : Int) + 1) = ((i + 1 : Nat) : Int) := by rw [w64 _ (by omega) (by omega)]; omega
    have e2 : wrap64 ((i : Int) + 2) = ((i + 2 : Nat) : Int) := by rw [w64 _ (by omega) (by omega)]; omega
    rw [show k + (d + 1) + 1 = (k + d + 1) + 1 from by omega, dossierref01_within.l0, e1, e2]
    by_cases hlt : i + 1 < xs.length
    · have h1 : i < xs.length := by omega
      have hrd : rd xs (i : Int) = xs[i] := by simp [rd, List.getD, h1]
      have hrd2 : rd xs ((i + 1 : Nat) : Int) = xs[i + 1] := by simp only [rd, List.getD, Int.toNat_natCast, List.getElem?_eq_getElem hlt, Option.getD_some]
      rw [if_pos (by omega), if_pos (by omega), if_pos (by omega), hrd, hrd2, List.drop_eq_getElem_cons h1, List.drop_eq_getElem_cons hlt, ih (i + 2) k (by omega) (by omega), inP]
      generalize inP r (xs.drop (i + 2)) = v
      by_cases c1 : xs[i] ≤ r
      · by_cases c2 : r ≤ xs[i + 1]
        · rw [if_pos c1, if_pos (by omega), if_pos c2]; simp [c1, c2]
        · rw [if_pos c1, if_pos (by omega), if_neg c2]; simp [c2]
      · rw [if_neg c1]; simp [c1]
    · rw [if_neg (by omega)]
      match hx : xs.drop i with
      | [] => rfl
      | [_] => rfl
      | _ :: _ :: _ => have := congrArg List.length hx; simp at this; omega
theorem within_spec (r : Int) (xs : List Int) (hlen : xs.length < 1000000) (k : Nat) (hk : xs.length + 1 ≤ k) : dossierref01_within.f k r xs = some (inP r xs) := by
  have := within_at r xs hlen xs.length 0 (k - xs.length - 1) (by omega) (by omega)
  rw [show k - xs.length - 1 + xs.length + 1 = k from by omega] at this
  exact this
theorem ref_OfXML_spec (k : Nat) (r : Int) : dossierref01_OfXML.f (k + 20) r = some (xmlC r) := by
  unfold dossierref01_OfXML.f
  rw [within_spec r _ (by simp) _ (by simp), Option.bind_some]
  unfold xmlC
  congr 1
  simp only [inP, Bool.or_false]
  rw [Bool.eq_iff_iff]
  simp only [Bool.or_eq_true, Bool.and_eq_true, decide_eq_true_eq]
  omega

/-- Both searches come to one answer, at enough rounds. -/
theorem wrong_from (l : List Int) (hl : Bytes l) (hlen : l.length ≤ 1000000000000000000) : ∀ (d : Nat) (at_ : Int), 0 ≤ at_ → at_ ≤ l.length → (l.length : Int) - at_ ≤ d →
    ∃ v : Int, (v = -1 ∨ (0 ≤ v ∧ v < l.length)) ∧ ∀ k, d + 30 ≤ k → chars_Wrong.l0 k l at_ = some v ∧ dossierref01_Wrong.l0 k l at_ = some v := by
  intro d
  induction d with
  | zero =>
    intro at_ h0 h1 hd
    refine ⟨-1, Or.inl rfl, fun k hk => ?_⟩
    obtain ⟨k, rfl⟩ : ∃ m, k = m + 1 := ⟨k - 1, by omega⟩
    rw [chars_Wrong.l0, dossierref01_Wrong.l0, if_neg (by omega), if_neg (by omega)]
    exact ⟨rfl, rfl⟩
  | succ d ih =>
    intro at_ h0 h1 hd
    by_cases hlt : at_ < (l.length : Int)
    · have hD := dec_two (hl.drop at_.toNat)
      have hdl : ((l.drop at_.toNat).length : Int) = l.length - at_ := by rw [List.length_drop]; omega
      by_cases hz : (dec (l.drop at_.toNat)).2 = 0
      · refine ⟨at_, Or.inr ⟨h0, hlt⟩, fun k hk => ?_⟩
        obtain ⟨k, rfl⟩ : ∃ m, k = m + 20 + 1 := ⟨k - 21, by omega⟩
        rw [chars_Wrong.l0, dossierref01_Wrong.l0]
        simp only [if_pos hlt, if_pos h0, if_pos h1, chars_Decode_spec _ (hl.drop _), ref_Decode_spec (k + 10) _ (hl.drop _), Option.bind_some, if_pos hz, and_self]
      · by_cases hx : xmlC (dec (l.drop at_.toNat)).1 = true
        · have hw : wrap64 (at_ + (dec (l.drop at_.toNat)).2) = at_ + (dec (l.drop at_.toNat)).2 := by unfold wrap64; omega
          obtain ⟨v, hv, hk⟩ := ih (at_ + (dec (l.drop at_.toNat)).2) (by omega) (by omega) (by omega)
          refine ⟨v, hv, fun k hk' => ?_⟩
          obtain ⟨k, rfl⟩ : ∃ m, k = m + 20 + 1 := ⟨k - 21, by omega⟩
          have hk2 := hk (k + 20) (by omega)
          rw [chars_Wrong.l0, dossierref01_Wrong.l0]
          simp only [if_pos hlt, if_pos h0, if_pos h1, chars_Decode_spec _ (hl.drop _), ref_Decode_spec (k + 10) _ (hl.drop _), Option.bind_some, if_neg hz, chars_ofXML_spec (k + 10), ref_OfXML_spec, if_pos hx, hw]
          exact hk2
        · refine ⟨at_, Or.inr ⟨h0, hlt⟩, fun k hk => ?_⟩
          obtain ⟨k, rfl⟩ : ∃ m, k = m + 20 + 1 := ⟨k - 21, by omega⟩
          rw [chars_Wrong.l0, dossierref01_Wrong.l0]
          simp only [if_pos hlt, if_pos h0, if_pos h1, chars_Decode_spec _ (hl.drop _), ref_Decode_spec (k + 10) _ (hl.drop _), Option.bind_some, if_neg hz, chars_ofXML_spec (k + 10), ref_OfXML_spec, if_neg hx, and_self]
    · refine ⟨-1, Or.inl rfl, fun k hk => ?_⟩
      obtain ⟨k, rfl⟩ : ∃ m, k = m + 1 := ⟨k - 1, by omega⟩
      rw [chars_Wrong.l0, dossierref01_Wrong.l0, if_neg hlt, if_neg hlt]
      exact ⟨rfl, rfl⟩

/-- Where the first byte stands that is no character; -1: nowhere. -/
def wrong (l : List Int) : Int := (chars_Wrong.f (l.length + 30) l).getD (-1)
theorem wrong_spec (l : List Int) (hl : Bytes l) (hlen : l.length ≤ 1000000000000000000) (k : Nat) (hk : l.length + 30 ≤ k) : chars_Wrong.f k l = some (wrong l) ∧ dossierref01_Wrong.f k l = some (wrong l) := by
  obtain ⟨v, _, h⟩ := wrong_from l hl hlen l.length 0 (by omega) (by omega) (by omega)
  have e : wrong l = v := by unfold wrong chars_Wrong.f; rw [(h _ (Nat.le_refl _)).1]; rfl
  unfold chars_Wrong.f dossierref01_Wrong.f
  rw [e]; exact h k hk
theorem wrong_nil : wrong [] = -1 := by
  have := wrong_from [] (fun x hx => by cases hx) (by simp) 0 0 (by omega) (by simp) (by simp)
  unfold wrong chars_Wrong.f
  rw [chars_Wrong.l0, if_neg (by simp)]; rfl
end Go.Proofs.YtifgpigicgaadaaGreatDoor.Chars
end
section
namespace Go.Proofs.YtifgpigicgaadaaGreatDoor.Q
open Go.RowKit Go.Proofs.YtifgpigicgaadaaGreatDoorH Go.Proofs.YtifgpigicgaadaaGreatDoorW.PrintWords Go.Proofs.YtifgpigicgaadaaGreatDoorW.PrintLast Go.Proofs.YtifgpigicgaadaaGreatDoorW.PrintMore
attribute [local go_sem] max2_int min2_int max_two min_two max_three min_three max_four min_four
set_option linter.unusedVariables false
set_option linter.unusedSimpArgs false
section
theorem eqA23 (d : Nat) (w : World) (x0 y0 : Int) (x1 y1 : Int) (x2 y2 : Bool) (x3 y3 : ByteArray) :
 (Op.equalIn (d + 2) 23 (.agg #[.int .i64 x0,.int .i64 x1,.bool x2,.string x3]) (.agg #[.int .i64 y0,.int .i64 y1,.bool y2,.string y3])).run Tryz.prog w = .ok (x0 == y0 && (x1 == y1 && (x2 == y2 && (x3.toList == y3.toList)))) w := by
 refine eqA_of Tryz.underlying23 (by kernel_rfl) ?_
 refine eqf_cons (by rfl) (by go_simp; rfl) (by go_simp; rfl) (by go_simp) ?_
 refine eqf_cons (by rfl) (by go_simp; rfl) (by go_simp; rfl) (by go_simp) ?_
 refine eqf_cons (by rfl) (by go_simp; rfl) (by go_simp; rfl) (by go_simp) ?_
 exact eqf_last (by rfl) (by go_simp; rfl) (by go_simp; rfl) (by go_simp)
end
section
attribute [local go_sem high] eqA23
/-! ### value_Can: function 12 -/
def value_Can.j0 : Nat → Int → Int → Bool → ByteArray → Int → Int → Bool → ByteArray → Option (Bool)
 | 0,_,_,_,_,_,_,_,_ => none
 | k + 1,x120000,x120001,x120002,x120003,x121000,x121001,x121002,x121003 => if (x120000 == x121000 && (x120001 == x121001 && (x120002 == x121002 && (x120003.toList == x121003.toList)))) = true then (if (x120003.size : Int) ≤ 256 then (if x120003.size < 140737488355328 then ((chars_Wrong.f k (bytesOf x120003)).bind fun t121 => (some (decide (t121 < 0)))) else (none)) else (some false)) else (some false)
def value_Can.f (k : Nat) (a0_0 : Int) (a0_1 : Int) (a0_2 : Bool) (a0_3 : ByteArray) : Option (Bool) := if a0_0 = 0 then (value_Can.j0 k a0_0 a0_1 a0_2 a0_3 a0_0 0 false (⟨#[]⟩ : ByteArray)) else (if a0_0 = 1 then (value_Can.j0 k a0_0 a0_1 a0_2 a0_3 a0_0 a0_1 false (⟨#[]⟩ : ByteArray)) else (if a0_0 = 2 then (value_Can.j0 k a0_0 a0_1 a0_2 a0_3 a0_0 0 a0_2 (⟨#[]⟩ : ByteArray)) else (if a0_0 = 3 then (value_Can.j0 k a0_0 a0_1 a0_2 a0_3 a0_0 0 false a0_3) else (some false))))
end
section
/-! ### dossierref07_Int: function 7 -/
def dossierref07_Int.f (a0 : Int) : Option (Int × Int × Bool × ByteArray) := some (1,a0,false,(⟨#[]⟩ : ByteArray))
end
section
/-! ### dossierref07_Bool: function 9 -/
def dossierref07_Bool.f (a0 : Bool) : Option (Int × Int × Bool × ByteArray) := some (2,0,a0,(⟨#[]⟩ : ByteArray))
end
section
/-! ### dossierref07_Text: function 11 -/
def dossierref07_Text.f (a0 : ByteArray) : Option (Int × Int × Bool × ByteArray) := some (3,0,false,a0)
end
section
attribute [local go_sem high] eqA23
/-! ### dossierref07_Can: function 13 -/
def dossierref07_Can.f (k : Nat) (a0_0 : Int) (a0_1 : Int) (a0_2 : Bool) (a0_3 : ByteArray) : Option (Bool) := if a0_0 = 0 then (some (a0_0 == 0 && (a0_1 == 0 && (!a0_2 && (a0_3.toList.isEmpty))))) else (if a0_0 = 1 then ((dossierref07_Int.f a0_1).bind fun bt158 => (some (a0_0 == bt158.1 && (a0_1 == bt158.2.1 && (a0_2 == bt158.2.2.1 && (a0_3.toList == bt158.2.2.2.toList)))))) else (if a0_0 = 2 then ((dossierref07_Bool.f a0_2).bind fun bt162 => (some (a0_0 == bt162.1 && (a0_1 == bt162.2.1 && (a0_2 == bt162.2.2.1 && (a0_3.toList == bt162.2.2.2.toList)))))) else (if a0_0 = 3 then ((dossierref07_Text.f a0_3).bind fun bt166 => (if (a0_0 == bt166.1 && (a0_1 == bt166.2.1 && (a0_2 == bt166.2.2.1 && (a0_3.toList == bt166.2.2.2.toList)))) = true then (if (a0_3.size : Int) ≤ 256 then (if a0_3.size < 140737488355328 then ((dossierref01_Wrong.f k (bytesOf a0_3)).bind fun t170 => (some (decide (t170 < 0)))) else (none)) else (some false)) else (some false))) else (some false))))
def dossierref07_Can.T9 : Bool × List (List Nat × List Nat) := (true,[([],[]),([],[]),([1],[1]),([2],[2]),([0,3],[0,3]),([4,3],[4]),([5],[5]),([6,5],[5,6]),([7,5],[5,7]),([8,5],[5,8]),([5,9],[5,9]),([10,5],[10]),([11],[11]),([12,11],[11,12]),([13,11],[11,13]),([14,11,11],[11,14]),([15,11],[11,15]),([11,16],[11,16]),([17,15,0,1,2,3,4,5,6,7,8,9,10,11,12,13,14,15,16,17],[17])])
def dossierref07_Can.B9 : List Nat := [0,0,2,6,15,31,63,127,255,511,1023,2047,4095,8191,16383,32767,65535,131071,262143]
end
section
/-! ### value_sortOf: function 79 -/
mutual
def value_sortOf.j0 : Nat → Int → Bool → Option (Int)
 | 0,_,_ => none
 | k + 1,x3,x8 => if x8 = true then (some 3) else (if x3 = 12 then (value_sortOf.j1 k x3 (x3 == 12)) else (if x3 = 13 then (value_sortOf.j1 k x3 (x3 == 13)) else (if x3 = 14 then (value_sortOf.j1 k x3 (x3 == 14)) else (value_sortOf.j1 k x3 (x3 == 15)))))
def value_sortOf.j1 : Nat → Int → Bool → Option (Int)
 | 0,_,_ => none
 | k + 1,x3,x14 => if x14 = true then (some 4) else (if x3 = 16 then (value_sortOf.j2 k x3 (x3 == 16)) else (value_sortOf.j2 k x3 (x3 == 17)))
def value_sortOf.j2 : Nat → Int → Bool → Option (Int)
 | 0,_,_ => none
 | k + 1,x3,x19 => if x19 = true then (some 5) else (if x3 = 18 then (some 6) else (if x3 = 19 then (some 6) else (some 0)))
end
def value_sortOf.f (k : Nat) (a0 : Int) : Option (Int) := if a0 = 5 then (some 1) else (if a0 = 6 then (some 2) else (if a0 = 7 then (value_sortOf.j0 k a0 (a0 == 7)) else (if a0 = 8 then (value_sortOf.j0 k a0 (a0 == 8)) else (if a0 = 9 then (value_sortOf.j0 k a0 (a0 == 9)) else (if a0 = 10 then (value_sortOf.j0 k a0 (a0 == 10)) else (value_sortOf.j0 k a0 (a0 == 11)))))))
end
section
/-! ### value_Kind: function 52 -/
def value_Kind.f (k : Nat) (a0 : Int) (a1 : Int) (a2 : Int) : Option (Int × Bool) := (value_sortOf.f k a0).bind fun t265 => (if t265 = 1 then (if a1 = 2 then (if a2 = 0 then (some (2,true)) else (some (0,false))) else (some (0,false))) else (if t265 = 2 then (if a1 = 1 then (if a2 = 0 then (some (1,true)) else (some (0,false))) else (some (0,false))) else (if t265 = 3 then (if a1 = 1 then (if a2 = 1 then (some (1,true)) else (some (0,false))) else (some (0,false))) else (if t265 = 4 then (if a1 = a2 then (if a1 = 1 then (some (2,true)) else (if a1 = 3 then (some (2,true)) else (some (0,false)))) else (some (0,false))) else (if t265 = 5 then (if a1 = a2 then (if a1 = 1 then (some (2,true)) else (if a1 = 2 then (some (2,true)) else (if a1 = 3 then (some (2,true)) else (some (0,false))))) else (some (0,false))) else (if t265 = 6 then (if a1 = 2 then (if a2 = 2 then (some (2,true)) else (some (0,false))) else (some (0,false))) else (some (0,false))))))))
end
end Go.Proofs.YtifgpigicgaadaaGreatDoor.Q
end
section
/- Values: what the program and the reference make of any operator and any two values, told by one plain function. -/
set_option linter.unusedSimpArgs false
set_option linter.unusedVariables false
namespace Go.Proofs.YtifgpigicgaadaaGreatDoor.Values
open Go.RowKit Go.Proofs.YtifgpigicgaadaaGreatDoor.Q Go.Proofs.YtifgpigicgaadaaGreatDoorW.PrintWords Go.Proofs.YtifgpigicgaadaaGreatDoorW.PrintLast Go.Proofs.YtifgpigicgaadaaGreatDoorH Go.Proofs.YtifgpigicgaadaaGreatDoor.Chars

/-! ## Kinds -/
def kindV (op a b : Int) : Int × Bool :=
  if op = 5 then (if a = 2 ∧ b = 0 then (2, true) else (0, false))
  else if op = 6 then (if a = 1 ∧ b = 0 then (1, true) else (0, false))
  else if 7 ≤ op ∧ op ≤ 11 then (if a = 1 ∧ b = 1 then (1, true) else (0, false))
  else if 12 ≤ op ∧ op ≤ 15 then (if a = b ∧ (a = 1 ∨ a = 3) then (2, true) else (0, false))
  else if 16 ≤ op ∧ op ≤ 17 then (if a = b ∧ (1 ≤ a ∧ a ≤ 3) then (2, true) else (0, false))
  else if 18 ≤ op ∧ op ≤ 19 then (if a = 2 ∧ b = 2 then (2, true) else (0, false))
  else (0, false)
def sortV (op : Int) : Int := if op = 5 then 1 else if op = 6 then 2 else if 7 ≤ op ∧ op ≤ 11 then 3 else if 12 ≤ op ∧ op ≤ 15 then 4 else if 16 ≤ op ∧ op ≤ 17 then 5 else if 18 ≤ op ∧ op ≤ 19 then 6 else 0
theorem op_cases (op : Int) : op = 5 ∨ op = 6 ∨ op = 7 ∨ op = 8 ∨ op = 9 ∨ op = 10 ∨ op = 11 ∨ op = 12 ∨ op = 13 ∨ op = 14 ∨ op = 15 ∨ op = 16 ∨ op = 17 ∨ op = 18 ∨ op = 19 ∨ (op < 5 ∨ 19 < op) := by omega
theorem op_in (op : Int) (h : ¬ (op < 5 ∨ 19 < op)) : op = 5 ∨ op = 6 ∨ op = 7 ∨ op = 8 ∨ op = 9 ∨ op = 10 ∨ op = 11 ∨ op = 12 ∨ op = 13 ∨ op = 14 ∨ op = 15 ∨ op = 16 ∨ op = 17 ∨ op = 18 ∨ op = 19 := by omega
theorem sortOf_spec (k : Nat) (op : Int) : value_sortOf.f (k + 5) op = some (sortV op) := by
  rcases op_cases op with rfl | rfl | rfl | rfl | rfl | rfl | rfl | rfl | rfl | rfl | rfl | rfl | rfl | rfl | rfl | h
  all_goals try rfl
  have n : ∀ m : Int, 5 ≤ m → m ≤ 19 → ¬ op = m := fun m h1 h2 => by omega
  have e : sortV op = 0 := by
    unfold sortV
    repeat' split
    all_goals omega
  rw [e]
  simp [value_sortOf.f, value_sortOf.j0, value_sortOf.j1, value_sortOf.j2, n 5, n 6, n 7, n 8, n 9, n 10, n 11, n 12, n 13, n 14, n 15, n 16, n 17, n 18, n 19]
theorem kindV_out (op a b : Int) (h : op < 5 ∨ 19 < op) : kindV op a b = (0, false) := by
  unfold kindV
  rw [if_neg (by omega), if_neg (by omega), if_neg (by omega), if_neg (by omega), if_neg (by omega), if_neg (by omega)]
theorem sortV_out (op : Int) (h : op < 5 ∨ 19 < op) : sortV op = 0 := by
  unfold sortV
  rw [if_neg (by omega), if_neg (by omega), if_neg (by omega), if_neg (by omega), if_neg (by omega), if_neg (by omega)]
set_option maxHeartbeats 2000000 in
theorem Kind_spec (k : Nat) (op a b : Int) : value_Kind.f (k + 5) op a b = some (kindV op a b) := by
  unfold value_Kind.f
  rw [sortOf_spec, Option.bind_some]
  by_cases h : op < 5 ∨ 19 < op
  · rw [kindV_out op a b h, sortV_out op h]; simp
  rcases op_in op h with rfl | rfl | rfl | rfl | rfl | rfl | rfl | rfl | rfl | rfl | rfl | rfl | rfl | rfl | rfl
  all_goals (simp only [sortV, kindV]; simp; repeat' split)
  all_goals first | rfl | (exfalso; omega)
/-! ## What may be -/
def canV (k i : Int) (y : Bool) (t : ByteArray) : Bool :=
  if k = 0 then i == 0 && (!y && t.toList.isEmpty)
  else if k = 1 then !y && t.toList.isEmpty
  else if k = 2 then i == 0 && t.toList.isEmpty
  else if k = 3 then i == 0 && (!y && (decide (t.size ≤ 256) && decide (wrong (bytesOf t) < 0)))
  else false
theorem toList_nil : (⟨#[]⟩ : ByteArray).toList = [] := by rw [Lib.toList_data]
theorem empty_of {t : ByteArray} (h : t.toList = []) : t = ⟨#[]⟩ := by
  rw [Lib.toList_data] at h
  cases t with
  | mk d => congr 1; exact Array.toList_eq_nil_iff.1 h
theorem beq_nil (t : ByteArray) : (t.toList == (⟨#[]⟩ : ByteArray).toList) = t.toList.isEmpty := by
  rw [toList_nil]; cases t.toList <;> rfl
theorem bytesOf_len (t : ByteArray) : (bytesOf t).length = t.size := by unfold bytesOf; rw [List.length_map, Array.length_toList]; rfl
theorem wrongs (k : Nat) (t : ByteArray) (h : t.size ≤ 256) : chars_Wrong.f (k + 300) (bytesOf t) = some (wrong (bytesOf t)) ∧ dossierref01_Wrong.f (k + 300) (bytesOf t) = some (wrong (bytesOf t)) := by
  have := bytesOf_len t
  exact wrong_spec _ (bytes_of t) (by omega) _ (by omega)
theorem wrong_none : wrong (bytesOf ⟨#[]⟩) = -1 := wrong_nil
set_option maxHeartbeats 1000000 in
theorem Can_spec (k : Nat) (n i : Int) (y : Bool) (t : ByteArray) : value_Can.f (k + 301) n i y t = some (canV n i y t) := by
  have tail : (if (t.size : Int) ≤ 256 then (if t.size < 140737488355328 then ((chars_Wrong.f (k + 300) (bytesOf t)).bind fun t116 => (some (decide (t116 < 0)))) else none) else some false) = some (decide (t.size ≤ 256) && decide (wrong (bytesOf t) < 0)) := by
    by_cases h : t.size ≤ 256
    · rw [if_pos (by omega), if_pos (by omega), (wrongs k t h).1]; simp [h]
    · rw [if_neg (by omega)]; simp [h]
  have e : t.toList = [] → (decide (t.size ≤ 256) && decide (wrong (bytesOf t) < 0)) = true := by
    intro h; rw [empty_of h, wrong_none]; rfl
  unfold value_Can.f canV
  simp only [show k + 301 = (k + 300) + 1 from rfl, value_Can.j0, tail, beq_nil, beq_self_eq_true, Bool.true_and, Bool.and_true]
  by_cases h0 : n = 0
  · rw [if_pos h0, if_pos h0]
    cases y <;> by_cases hi : i = 0 <;> cases ht : t.toList with
    | nil => simp [hi, e ht]
    | cons _ _ => simp [hi]
  · rw [if_neg h0, if_neg h0]
    by_cases h1 : n = 1
    · rw [if_pos h1, if_pos h1]
      cases y <;> cases ht : t.toList with
      | nil => simp [e ht]
      | cons _ _ => simp
    · rw [if_neg h1, if_neg h1]
      by_cases h2 : n = 2
      · rw [if_pos h2, if_pos h2]
        by_cases hi : i = 0 <;> cases ht : t.toList with
        | nil => simp [hi, e ht]
        | cons _ _ => simp [hi]
      · rw [if_neg h2, if_neg h2]
        by_cases h3 : n = 3
        · rw [if_pos h3, if_pos h3]
          cases y <;> by_cases hi : i = 0 <;> simp [hi]
        · rw [if_neg h3, if_neg h3]
set_option maxHeartbeats 1000000 in
theorem ref_Can_spec (k : Nat) (n i : Int) (y : Bool) (t : ByteArray) : dossierref07_Can.f (k + 301) n i y t = some (canV n i y t) := by
  have tail : (if (t.size : Int) ≤ 256 then (if t.size < 140737488355328 then ((dossierref01_Wrong.f (k + 301) (bytesOf t)).bind fun t116 => (some (decide (t116 < 0)))) else none) else some false) = some (decide (t.size ≤ 256) && decide (wrong (bytesOf t) < 0)) := by
    by_cases h : t.size ≤ 256
    · rw [if_pos (by omega), if_pos (by omega), (wrongs (k + 1) t h).2]; simp [h]
    · rw [if_neg (by omega)]; simp [h]
  unfold dossierref07_Can.f canV dossierref07_Int.f dossierref07_Bool.f dossierref07_Text.f
  simp only [Option.bind_some, tail, beq_nil, beq_self_eq_true, Bool.true_and, Bool.and_true]
  by_cases h0 : n = 0
  · rw [if_pos h0, if_pos h0]; simp [h0]
  · rw [if_neg h0, if_neg h0]
    by_cases h1 : n = 1
    · rw [if_pos h1, if_pos h1]; cases y <;> simp [h1]
    · rw [if_neg h1, if_neg h1]
      by_cases h2 : n = 2
      · rw [if_pos h2, if_pos h2]; simp [h2]
      · rw [if_neg h2, if_neg h2]
        by_cases h3 : n = 3
        · rw [if_pos h3, if_pos h3]
          cases y <;> by_cases hi : i = 0 <;> simp [hi, h3]
        · rw [if_neg h3, if_neg h3]
end Go.Proofs.YtifgpigicgaadaaGreatDoor.Values
end
section
/- Strings as lists of numbers. -/

set_option linter.unusedSimpArgs false
set_option linter.unusedVariables false
namespace Go.Proofs.YtifgpigicgaadaaGreatDoor.Bytes
open Go.RowKit Go.Proofs.YtifgpigicgaadaaGreatDoor.Q Go.Proofs.YtifgpigicgaadaaGreatDoorW.PrintWords Go.Proofs.YtifgpigicgaadaaGreatDoorW.PrintLast Go.Proofs.YtifgpigicgaadaaGreatDoorH Go.Proofs.YtifgpigicgaadaaGreatDoor.Chars Go.Proofs.YtifgpigicgaadaaGreatDoor.Values

theorem b_extract (s : ByteArray) (i j : Nat) : bytesOf (s.extract i j) = ((bytesOf s).drop i).take (j - i) := by
  unfold bytesOf
  rw [ByteArray.data_extract, Array.toList_extract, List.extract_eq_take_drop, ← List.map_drop, ← List.map_take]
theorem b_append (s t : ByteArray) : bytesOf (s ++ t) = bytesOf s ++ bytesOf t := by
  unfold bytesOf
  rw [ByteArray.data_append, Array.toList_append, List.map_append]
theorem b_inj {s t : ByteArray} (h : bytesOf s = bytesOf t) : s = t := by
  unfold bytesOf at h
  have := List.map_inj_right (f := fun b : UInt8 => (b.toNat : Int)) (fun x y hxy => UInt8.toNat_inj.1 (Int.ofNat_inj.1 hxy)) |>.1 h
  cases s with
  | mk a => cases t with
    | mk b => congr 1; exact Array.toList_inj.1 this
theorem bt_get (s : ByteArray) (i : Int) : bt s i = (bytesOf s).getD i.toNat 0 := (rd_bytesOf s i).symm
theorem b_str {l : List Int} (h : Bytes l) : bytesOf (strOfNums l) = l := by
  unfold bytesOf
  rw [strOfNums_data, List.map_map]
  conv => rhs; rw [← List.map_id l]
  apply List.map_congr_left
  intro x hx
  have := h x hx
  simp only [Function.comp, id]
  obtain ⟨y, rfl⟩ := Int.eq_ofNat_of_zero_le this.1
  simp
  omega
theorem toList_iff (s : ByteArray) (l : List UInt8) : s.toList = l ↔ bytesOf s = l.map fun b => (b.toNat : Int) := by
  rw [Lib.toList_data]
  unfold bytesOf
  constructor
  · intro h; rw [h]
  · intro h
    exact List.map_inj_right (f := fun b : UInt8 => (b.toNat : Int)) (fun x y hxy => UInt8.toNat_inj.1 (Int.ofNat_inj.1 hxy)) |>.1 h
theorem toList_iff2 (s t : ByteArray) : s.toList = t.toList ↔ bytesOf s = bytesOf t := by
  rw [toList_iff, Lib.toList_data]; rfl
theorem b_size (s : ByteArray) : s.size = (bytesOf s).length := (bytesOf_length s).symm
theorem b_nil : bytesOf (⟨#[]⟩ : ByteArray) = [] := rfl

theorem w64' (x : Int) (h0 : -1000000000000 ≤ x) (h1 : x < 1000000000000) : wrap64 x = x := by unfold wrap64; omega
theorem drop_cons {l : List Int} {i : Nat} (h : i < l.length) : l.drop i = l[i] :: l.drop (i + 1) := List.drop_eq_getElem_cons h
theorem bt_at' {s : ByteArray} {i : Nat} (h : i < (bytesOf s).length) : bt s (i : Int) = (bytesOf s)[i] := by
  rw [bt_get, Int.toNat_natCast, List.getD_eq_getElem?_getD, List.getElem?_eq_getElem h]; rfl

end Go.Proofs.YtifgpigicgaadaaGreatDoor.Bytes
end
section
namespace Go.Proofs.YtifgpigicgaadaaGreatDoor.Q
open Go.RowKit Go.Proofs.YtifgpigicgaadaaGreatDoorH Go.Proofs.YtifgpigicgaadaaGreatDoorW.PrintWords Go.Proofs.YtifgpigicgaadaaGreatDoorW.PrintLast Go.Proofs.YtifgpigicgaadaaGreatDoorW.PrintMore
attribute [local go_sem] max2_int min2_int max_two min_two max_three min_three max_four min_four
set_option linter.unusedVariables false
set_option linter.unusedSimpArgs false
section
/-! ### strings_IndexByte: function 87 -/
def strings_IndexByte.f (a0 : ByteArray) (a1 : Int) : Option Int := some (Lib.indexByte a0.data.toList a1.toNat.toUInt8)
theorem strings_IndexByte.calls (a0 : ByteArray) (a1 : Int) (r : Int) (w : World) (h : strings_IndexByte.f a0 a1 = some r) :
 Calls Tryz.prog 87 #[.string a0,.int .u8 a1] w fun e w' => e = .returned (.int .i64 r) ∧ Drawn0 w w' := by
 obtain rfl := Option.some.inj h
 exact (Any.strings_IndexByte Tryz.layIndexByte a0 a1 w).mono fun e w' ⟨h1,h2⟩ => ⟨h1,h2 ▸ Drawn0.refl _⟩
end
section
/-! ### lexer_is: function 59 -/
def lexer_is.f (a0 : Int) (a1 : ByteArray) : Option (Bool) := (strings_IndexByte.f a1 a0).bind fun t354 => (some (decide (t354 ≥ 0)))
set_option maxHeartbeats 8000000 in
set_option maxRecDepth 100000 in
theorem lexer_is.calls (a0 : Int) (a1 : ByteArray) (r : Bool) (w : World) (h : lexer_is.f a0 a1 = some r) :
 Calls Tryz.prog 59 #[.int .u8 a0,.string a1] w fun e w' => e = .returned (.bool r) ∧ Drawn0 w w' := by
 have H : ((strings_IndexByte.f a1 a0).bind fun t354 => (some (decide (t354 ≥ 0)))) = some r := h
 clear h
 replace H := Option.bind_eq_some_iff.mp H
 obtain ⟨t354,A30,H⟩ := H
 replace H : (some (decide (t354 ≥ 0))) = some r := H
 have A3 := Aside0.mk A30
 clear A30
 obtain rfl := Option.some.inj H
 go_enter Tryz.func59,Tryz.ntmps59
 go_wp2_with (first | ((with_reducible refine gate_callee (f := 87) rfl ?_); refine goesL_ (some 7) rfl rfl Tryz.func87 (by kernel_rfl) rfl #[.string a1,.int .u8 a0] rfl (by (try simp only [List.map_toArray,List.map_cons,List.map_nil]); first | done | rfl | (simp only [List.length_drop,List.length_take]; rfl)) ?_; (with_reducible refine (strings_IndexByte.calls a1 a0 t354 _ A3.out).mono ?_); rintro e w' ⟨rfl,⟨nd,rfl⟩⟩; refine ⟨_,rfl,?_⟩))
 go_ret
 exact ⟨by first | rfl | (simp; done) | (simp [*]; done),by repeat (first | exact Drawn0.refl _ | apply Drawn0.step)⟩
end
section
/-! ### lexer_run: function 60 -/
def lexer_run.l0 : Nat → ByteArray → ByteArray → Int → Option (ByteArray)
 | 0,_,_,_ => none
 | k + 1,x0,x1,x5 => if x5 < (x0.size : Int) then (if 0 ≤ x5 then ((lexer_is.f (bt x0 x5) x1).bind fun t355 => (if t355 = true then (lexer_run.l0 k x0 x1 (wrap64 (x5 + 1))) else (if x5 ≤ (x0.size : Int) then (some (x0.extract 0 (x5 : Int).toNat)) else (none)))) else (none)) else (if 0 ≤ x5 then (if x5 ≤ (x0.size : Int) then (some (x0.extract 0 (x5 : Int).toNat)) else (none)) else (none))
def lexer_run.f (k : Nat) (a0 : ByteArray) (a1 : ByteArray) : Option (ByteArray) := lexer_run.l0 k a0 a1 0
theorem lexer_run.mono_l : ∀ k,(∀ y0 y1 y2,LeO (lexer_run.l0 k y0 y1 y2) (lexer_run.l0 (k + 1) y0 y1 y2))
 | 0 => fun _ _ _ r h => by simp [lexer_run.l0] at h
 | k + 1 => by
  have ih0 := lexer_run.mono_l k
  · intro y0 y1 y2
    unfold lexer_run.l0
    repeat' first
    | (with_reducible exact ih0 _ _ _)
    | (with_reducible exact LeO.refl _)
    | (with_reducible exact LeO.none _)
    | (with_reducible refine LeO.ite ?_ ?_)
    | (with_reducible refine LeO.bind ?_ (fun _ => ?_))
    | exact ih0 _ _ _
    | exact LeO.none _
    | refine LeO.ite ?_ ?_
    | refine LeO.bind ?_ (fun _ => ?_)
theorem lexer_run.mono : ∀ a0 a1 k,LeO (lexer_run.f k a0 a1) (lexer_run.f (k + 1) a0 a1) := by
 intro a0 a1 k
 have ih0 := lexer_run.mono_l k
 unfold lexer_run.f
 repeat' first
  | (with_reducible exact ih0 _ _ _)
  | (with_reducible exact LeO.refl _)
  | (with_reducible exact LeO.none _)
  | (with_reducible refine LeO.ite ?_ ?_)
  | (with_reducible refine LeO.bind ?_ (fun _ => ?_))
  | exact ih0 _ _ _
  | exact LeO.none _
  | refine LeO.ite ?_ ?_
  | refine LeO.bind ?_ (fun _ => ?_)
set_option maxHeartbeats 8000000 in
set_option maxRecDepth 100000 in
theorem lexer_run.calls (k : Nat) (a0 : ByteArray) (a1 : ByteArray) (r : ByteArray) (w : World) (h : lexer_run.f k a0 a1 = some r) :
 Calls Tryz.prog 60 #[.string a0,.string a1] w fun e w' => e = .returned (.string r) ∧ Drawn0 w w' := by
 have H : (lexer_run.l0 k a0 a1 0) = some r := h
 clear h
 have H' := Aside0.mk H
 clear H
 go_enter Tryz.func60,Tryz.ntmps60
 go_wp2
 go_loopg [5] k (fun kq v5 w' => ∃ (x5_1 : Int),v5 = .int .i64 x5_1 ∧ Aside0 (lexer_run.l0 kq a0 a1 x5_1 = some r) ∧ Aside0 (kq ≤ k) ∧ Drawn0 w w')
 case atStart => exact ⟨(0),(by first | rfl | (simp; done) | (simp [*]; done)),H',⟨Nat.le_refl _⟩,by repeat (first | exact Drawn0.refl _ | apply Drawn0.step)⟩
 case round =>
  clear H'
  try clear p2
  obtain ⟨x5_1,rfl,HA,HK1,⟨m1,rfl⟩⟩ := hrel
  cases gk with
  | zero => exact absurd HA.out (by simp [lexer_run.l0])
  | succ k1 =>
   have H := HA.out
   clear HA
   simp only [lexer_run.l0] at H
   by_cases c3 : x5_1 < (a0.size : Int)
   · rw [if_pos c3] at H
     have c3b0 : decide (x5_1 < (a0.size : Int)) = true := decide_eq_true c3
     clear c3
     by_cases c4 : 0 ≤ x5_1
     · rw [if_pos c4] at H
       have c4b0 : decide (0 ≤ x5_1) = true := decide_eq_true c4
       clear c4
       replace H := Option.bind_eq_some_iff.mp H
       obtain ⟨t355,A60,H⟩ := H
       replace H : (if t355 = true then (lexer_run.l0 k1 a0 a1 (wrap64 (x5_1 + 1))) else (if x5_1 ≤ (a0.size : Int) then (some (a0.extract 0 (x5_1 : Int).toNat)) else (none))) = some r := H
       have A6 := Aside0.mk A60
       clear A60
       by_cases c7 : t355 = true
       · subst c7
         have H1 : (lexer_run.l0 k1 a0 a1 (wrap64 (x5_1 + 1))) = some r := by rw [if_pos rfl] at H; exact H
         clear H
         have H := H1
         clear H1
         have H' := Aside0.mk H
         clear H
         have p5 : 0 ≤ (x5_1 : Int) := of_decide_eq_true (by first | (with_reducible assumption) | assumption)
         have q5 : x5_1 < (a0.size : Int) := of_decide_eq_true (by first | (with_reducible assumption) | assumption)
         have hx5 := bt_at a0 x5_1
         replace p5 := eq_true p5
         replace q5 := eq_true q5
         go_wp2_with (first | (go_at_call 59; (with_reducible refine (lexer_is.calls (bt a0 x5_1) a1 true _ A6.out).mono ?_); rintro e w' ⟨rfl,⟨nd,rfl⟩⟩))
         go_roundg k1
         case measure => have := HK1.out; omega
         case rel => exact ⟨(wrap64 (x5_1 + 1)),(by first | rfl | (simp; done) | (simp [*]; done)),H',⟨by have := HK1.out; omega⟩,by repeat (first | exact Drawn0.refl _ | apply Drawn0.step)⟩
       · replace c7 := Bool.eq_false_iff.mpr c7
         subst c7
         have H1 : (if x5_1 ≤ (a0.size : Int) then (some (a0.extract 0 (x5_1 : Int).toNat)) else (none)) = some r := by rw [if_neg (show ¬ (false = true) by decide)] at H; exact H
         clear H
         have H := H1
         clear H1
         have c8b0 := eq_true (of_decide_eq_true (by first | (with_reducible assumption) | assumption) : 0 ≤ x5_1)
         by_cases c9 : x5_1 ≤ (a0.size : Int)
         · rw [if_pos c9] at H
           have c9b0 := eq_true c9
           have c9b1 : decide (x5_1 ≤ (a0.size : Int)) = true := decide_eq_true c9
           clear c9
           obtain rfl := Option.some.inj H
           have p5 : 0 ≤ (x5_1 : Int) := of_decide_eq_true (by first | (with_reducible assumption) | assumption)
           have q5 : x5_1 < (a0.size : Int) := of_decide_eq_true (by first | (with_reducible assumption) | assumption)
           have hx5 := bt_at a0 x5_1
           replace p5 := eq_true p5
           replace q5 := eq_true q5
           go_wp2_with (first | (go_at_call 59; (with_reducible refine (lexer_is.calls (bt a0 x5_1) a1 false _ A6.out).mono ?_); rintro e w' ⟨rfl,⟨nd,rfl⟩⟩))
           go_ret
           exact ⟨by first | rfl | (simp; done) | (simp [*]; done),by repeat (first | exact Drawn0.refl _ | apply Drawn0.step)⟩
         · rw [if_neg c9] at H
           exact absurd H (by simp)
     · rw [if_neg c4] at H
       exact absurd H (by simp)
   · rw [if_neg c3] at H
     have c3b0 : decide (x5_1 < (a0.size : Int)) = false := decide_eq_false c3
     clear c3
     by_cases c10 : 0 ≤ x5_1
     · rw [if_pos c10] at H
       have c10b0 := eq_true c10
       have c10b1 : decide (0 ≤ x5_1) = true := decide_eq_true c10
       clear c10
       by_cases c11 : x5_1 ≤ (a0.size : Int)
       · rw [if_pos c11] at H
         have c11b0 := eq_true c11
         have c11b1 : decide (x5_1 ≤ (a0.size : Int)) = true := decide_eq_true c11
         clear c11
         obtain rfl := Option.some.inj H
         go_wp2
         go_ret
         exact ⟨by first | rfl | (simp; done) | (simp [*]; done),by repeat (first | exact Drawn0.refl _ | apply Drawn0.step)⟩
       · rw [if_neg c11] at H
         exact absurd H (by simp)
     · rw [if_neg c10] at H
       exact absurd H (by simp)
end
section
/-! ### dossierref08_digit: function 64 -/
def dossierref08_digit.f (a0 : Int) : Option (Bool) := if a0 ≥ 48 then (some (decide (a0 ≤ 57))) else (some false)
end
section
/-! ### dossierref01_Text: function 37 -/
def dossierref01_Text.f : Nat → Int → Option (ByteArray)
 | 0,_ => none
 | k + 1,a0 => if a0 < 0 then (if a0 > (-10) then ((dossierref01_Text.f k (wrap64 (-a0))).bind fun t257 => (if 1 + t257.size ≤ 9223372036854775807 then (some ((⟨#[45]⟩ : ByteArray) ++ t257)) else (none))) else ((dossierref01_Text.f k (wrap64 (Int.tdiv a0 10))).bind fun t258 => ((dossierref01_Text.f k (wrap64 (-(Int.tmod a0 10)))).bind fun t259 => (if t258.size + t259.size ≤ 9223372036854775807 then (some (t258 ++ t259)) else (none))))) else (if a0 < 10 then (if 0 ≤ a0 then (if a0 ≤ (wrap64 (a0 + 1)) then (if (wrap64 (a0 + 1)) ≤ 10 then (some ((⟨#[48,49,50,51,52,53,54,55,56,57]⟩ : ByteArray).extract (a0 : Int).toNat ((wrap64 (a0 + 1)) : Int).toNat)) else (none)) else (none)) else (none)) else ((dossierref01_Text.f k (wrap64 (Int.tdiv a0 10))).bind fun t260 => ((dossierref01_Text.f k (Int.tmod a0 10)).bind fun t261 => (if t260.size + t261.size ≤ 9223372036854775807 then (some (t260 ++ t261)) else (none)))))
end
section
/-! ### dossierref01_Number: function 88 -/
mutual
def dossierref01_Number.j0 : Nat → ByteArray → ByteArray → Bool → Option (Int × Int)
 | 0,_,_,_ => none
 | k + 1,x0,x4,x16 => if x16 = true then (if 1 ≤ (x0.size : Int) then (dossierref01_Number.j1 k x0 (x0.extract 1 x0.size)) else (none)) else (dossierref01_Number.j1 k x0 x4)
def dossierref01_Number.j1 : Nat → ByteArray → ByteArray → Option (Int × Int)
 | 0,_,_ => none
 | k + 1,x0,x4 => if (x4.size : Int) = 0 then (dossierref01_Number.j2 k x0 x4 true) else (if 0 < (x4.size : Int) then (if (bt x4 0) = 48 then (dossierref01_Number.j2 k x0 x4 (decide ((x0.size : Int) > 1))) else (dossierref01_Number.j2 k x0 x4 false)) else (none))
def dossierref01_Number.j2 : Nat → ByteArray → ByteArray → Bool → Option (Int × Int)
 | 0,_,_,_ => none
 | k + 1,x0,x4,x31 => if x31 = true then (some (0,5)) else (dossierref01_Number.l0 k x0 x4 (x4.size : Int) 0)
def dossierref01_Number.l0 : Nat → ByteArray → ByteArray → Int → Int → Option (Int × Int)
 | 0,_,_,_,_ => none
 | k + 1,x0,x4,x33,x34 => if x34 < x33 then (if 0 ≤ x34 then (if x34 < (x4.size : Int) then (if (bt x4 x34) < 48 then (some (0,5)) else (if (bt x4 x34) > 57 then (some (0,5)) else (dossierref01_Number.l0 k x0 x4 x33 (wrap64 (x34 + 1))))) else (none)) else (none)) else (if (x4.size : Int) > 19 then (some (0,4)) else (dossierref01_Number.l1 k x0 x4 0 (x4.size : Int) 0))
def dossierref01_Number.l1 : Nat → ByteArray → ByteArray → Int → Int → Int → Option (Int × Int)
 | 0,_,_,_,_,_ => none
 | k + 1,x0,x4,x6,x52,x53 => if x53 < x52 then (if 0 ≤ x53 then (if x53 < (x4.size : Int) then (dossierref01_Number.l1 k x0 x4 (wrap64 ((wrap64 (10 * x6)) - (((bt x4 x53) - 48) % 256))) x52 (wrap64 (x53 + 1))) else (none)) else (none)) else (if (x4.size : Int) = (x0.size : Int) then ((dossierref01_Text.f k (wrap64 (-x6))).bind fun t387 => (if t387.toList = x0.toList then (some (wrap64 (-x6),0)) else (some (0,4)))) else ((dossierref01_Text.f k x6).bind fun t388 => (if t388.toList = x0.toList then (some (x6,0)) else (some (0,4)))))
end
def dossierref01_Number.f (k : Nat) (a0 : ByteArray) : Option (Int × Int) := if (a0.size : Int) > 0 then (if 0 < (a0.size : Int) then (dossierref01_Number.j0 k a0 a0 ((bt a0 0) == 45)) else (none)) else (dossierref01_Number.j0 k a0 a0 false)
end
section
/-! ### dossierref08_integer: function 65 -/
def dossierref08_integer.l0 : Nat → ByteArray → Int → Option (Int × ByteArray × Int × Int × Bool)
 | 0,_,_ => none
 | k + 1,x0,x5 => if x5 < (x0.size : Int) then (if 0 ≤ x5 then ((dossierref08_digit.f (bt x0 x5)).bind fun t390 => (if t390 = true then (dossierref08_integer.l0 k x0 (wrap64 (x5 + 1))) else (if x5 ≤ (x0.size : Int) then ((dossierref01_Number.f k (x0.extract 0 (x5 : Int).toNat)).bind fun bt391 => (some (2,(⟨#[]⟩ : ByteArray),bt391.1,x5,(bt391.2 == 0)))) else (none)))) else (none)) else (if 0 ≤ x5 then (if x5 ≤ (x0.size : Int) then ((dossierref01_Number.f k (x0.extract 0 (x5 : Int).toNat)).bind fun bt393 => (some (2,(⟨#[]⟩ : ByteArray),bt393.1,x5,(bt393.2 == 0)))) else (none)) else (none))
def dossierref08_integer.f (k : Nat) (a0 : ByteArray) : Option (Int × ByteArray × Int × Int × Bool) := dossierref08_integer.l0 k a0 0
end
section
/-! ### dossierref08_letter: function 67 -/
def dossierref08_letter.f (a0 : Int) : Option (Bool) := if a0 ≥ 65 then (if a0 ≤ 90 then (some true) else (if a0 ≥ 97 then (if a0 ≤ 122 then (some true) else (some (a0 == 95))) else (some (a0 == 95)))) else (if a0 ≥ 97 then (if a0 ≤ 122 then (some true) else (some (a0 == 95))) else (some (a0 == 95)))
end
section
/-! ### dossierref08_text: function 66 -/
def dossierref08_text.l0 : Nat → ByteArray → ByteArray → Int → Option (Int × ByteArray × Int × Int × Bool)
 | 0,_,_,_ => none
 | k + 1,x0,x5,x6 => if x6 < (x0.size : Int) then (if 0 ≤ x6 then (if (bt x0 x6) = 34 then (some (3,x5,0,wrap64 (x6 + 1),decide ((x5.size : Int) ≤ 256))) else (if (bt x0 x6) = 92 then (if (wrap64 (x6 + 1)) ≥ (x0.size : Int) then (some (0,(⟨#[]⟩ : ByteArray),0,0,false)) else (if 0 ≤ (wrap64 (x6 + 1)) then (if (wrap64 (x6 + 1)) < (x0.size : Int) then (if (bt x0 (wrap64 (x6 + 1))) = 34 then (if (wrap64 (x6 + 1)) ≤ (wrap64 (x6 + 2)) then (if (wrap64 (x6 + 2)) ≤ (x0.size : Int) then (if x5.size + (x0.extract ((wrap64 (x6 + 1)) : Int).toNat ((wrap64 (x6 + 2)) : Int).toNat).size ≤ 9223372036854775807 then (dossierref08_text.l0 k x0 (x5 ++ (x0.extract ((wrap64 (x6 + 1)) : Int).toNat ((wrap64 (x6 + 2)) : Int).toNat)) (wrap64 (x6 + 2))) else (none)) else (none)) else (none)) else (if (bt x0 (wrap64 (x6 + 1))) = 92 then (if (wrap64 (x6 + 1)) ≤ (wrap64 (x6 + 2)) then (if (wrap64 (x6 + 2)) ≤ (x0.size : Int) then (if x5.size + (x0.extract ((wrap64 (x6 + 1)) : Int).toNat ((wrap64 (x6 + 2)) : Int).toNat).size ≤ 9223372036854775807 then (dossierref08_text.l0 k x0 (x5 ++ (x0.extract ((wrap64 (x6 + 1)) : Int).toNat ((wrap64 (x6 + 2)) : Int).toNat)) (wrap64 (x6 + 2))) else (none)) else (none)) else (none)) else (some (0,(⟨#[]⟩ : ByteArray),0,0,false)))) else (none)) else (none))) else (if x6 ≤ (x0.size : Int) then (if (x0.extract (x6 : Int).toNat x0.size).size < 140737488355328 then ((dossierref01_Decode.f k (bytesOf (x0.extract (x6 : Int).toNat x0.size))).bind fun bt396 => (if bt396.2 = 0 then (some (0,(⟨#[]⟩ : ByteArray),0,0,false)) else ((dossierref01_OfXML.f k bt396.1).bind fun t398 => (if t398 = true then (if x6 ≤ (wrap64 (x6 + bt396.2)) then (if (wrap64 (x6 + bt396.2)) ≤ (x0.size : Int) then (if x5.size + (x0.extract (x6 : Int).toNat ((wrap64 (x6 + bt396.2)) : Int).toNat).size ≤ 9223372036854775807 then (dossierref08_text.l0 k x0 (x5 ++ (x0.extract (x6 : Int).toNat ((wrap64 (x6 + bt396.2)) : Int).toNat)) (wrap64 (x6 + bt396.2))) else (none)) else (none)) else (none)) else (some (0,(⟨#[]⟩ : ByteArray),0,0,false)))))) else (none)) else (none)))) else (none)) else (some (0,(⟨#[]⟩ : ByteArray),0,0,false))
def dossierref08_text.f (k : Nat) (a0 : ByteArray) : Option (Int × ByteArray × Int × Int × Bool) := dossierref08_text.l0 k a0 (⟨#[]⟩ : ByteArray) 1
end
section
/-! ### dossierref08_sign: function 68 -/
mutual
def dossierref08_sign.j0 : Nat → ByteArray → Bool → Option (Int × ByteArray × Int × Int × Bool)
 | 0,_,_ => none
 | k + 1,x0,x24 => if x24 = true then (if 0 ≤ 2 then (if 2 ≤ (x0.size : Int) then (some (4,x0.extract 0 2,0,2,true)) else (none)) else (none)) else ((some (([(⟨#[40]⟩ : ByteArray),(⟨#[41]⟩ : ByteArray),(⟨#[46]⟩ : ByteArray),(⟨#[44]⟩ : ByteArray),(⟨#[43]⟩ : ByteArray),(⟨#[45]⟩ : ByteArray),(⟨#[42]⟩ : ByteArray),(⟨#[47]⟩ : ByteArray),(⟨#[37]⟩ : ByteArray),(⟨#[60]⟩ : ByteArray),(⟨#[62]⟩ : ByteArray),(⟨#[61]⟩ : ByteArray)] : List ByteArray) : List ByteArray)).bind fun y400 => (dossierref08_sign.l0 k x0 y400 (y400.length : Int) 0))
def dossierref08_sign.l0 : Nat → ByteArray → List ByteArray → Int → Int → Option (Int × ByteArray × Int × Int × Bool)
 | 0,_,_,_,_ => none
 | k + 1,x0,x28,x29,x30 => if x30 < x29 then (if 0 ≤ x30 then (if x30 < (x28.length : Int) then (if 0 ≤ 1 then (if 1 ≤ (x0.size : Int) then (if (x0.extract 0 1).toList = (rdOf ByteArray.empty x28 x30).toList then (some (4,rdOf ByteArray.empty x28 x30,0,1,true)) else (dossierref08_sign.l0 k x0 x28 x29 (wrap64 (x30 + 1)))) else (none)) else (none)) else (none)) else (none)) else (some (0,(⟨#[]⟩ : ByteArray),0,0,false))
end
def dossierref08_sign.f (k : Nat) (a0 : ByteArray) : Option (Int × ByteArray × Int × Int × Bool) := if (a0.size : Int) ≥ 2 then (if 0 ≤ 2 then (if 2 ≤ (a0.size : Int) then (if (a0.extract 0 2).toList = ([60,61] : List UInt8) then (dossierref08_sign.j0 k a0 true) else (if (a0.extract 0 2).toList = ([62,61] : List UInt8) then (dossierref08_sign.j0 k a0 true) else (dossierref08_sign.j0 k a0 ((a0.extract 0 2).toList == ([33,61] : List UInt8))))) else (none)) else (none)) else (dossierref08_sign.j0 k a0 false)
end
section
/-! ### dossierref08_word: function 43 -/
def dossierref08_word.l0 : Nat → ByteArray → Int → Option (Int × ByteArray × Int × Int × Bool)
 | 0,_,_ => none
 | k + 1,x0,x5 => if x5 < (x0.size : Int) then (if 0 ≤ x5 then ((dossierref08_letter.f (bt x0 x5)).bind fun t422 => (if t422 = true then (dossierref08_word.l0 k x0 (wrap64 (x5 + 1))) else ((dossierref08_digit.f (bt x0 x5)).bind fun t423 => (if t423 = true then (dossierref08_word.l0 k x0 (wrap64 (x5 + 1))) else (if x5 ≤ (x0.size : Int) then (some (1,x0.extract 0 (x5 : Int).toNat,0,x5,true)) else (none)))))) else (none)) else (if 0 ≤ x5 then (if x5 ≤ (x0.size : Int) then (some (1,x0.extract 0 (x5 : Int).toNat,0,x5,true)) else (none)) else (none))
def dossierref08_word.f (k : Nat) (a0 : ByteArray) : Option (Int × ByteArray × Int × Int × Bool) := if 0 < (a0.size : Int) then ((dossierref08_digit.f (bt a0 0)).bind fun t405 => (if t405 = true then ((dossierref08_integer.f k a0).bind fun bt406 => (some (bt406.1,bt406.2.1,bt406.2.2.1,bt406.2.2.2.1,bt406.2.2.2.2))) else (if (bt a0 0) = 34 then ((dossierref08_text.f k a0).bind fun bt411 => (some (bt411.1,bt411.2.1,bt411.2.2.1,bt411.2.2.2.1,bt411.2.2.2.2))) else ((dossierref08_letter.f (bt a0 0)).bind fun t416 => (if t416 = true then (dossierref08_word.l0 k a0 1) else ((dossierref08_sign.f k a0).bind fun bt417 => (some (bt417.1,bt417.2.1,bt417.2.2.1,bt417.2.2.2.1,bt417.2.2.2.2)))))))) else (none)
end
end Go.Proofs.YtifgpigicgaadaaGreatDoor.Q
end
section
/- Bytes of a kind; runs. -/
set_option linter.unusedSimpArgs false
set_option linter.unusedVariables false
namespace Go.Proofs.YtifgpigicgaadaaGreatDoor.Bytes
open Go.RowKit Go.Proofs.YtifgpigicgaadaaGreatDoor.Q Go.Proofs.YtifgpigicgaadaaGreatDoorW.PrintWords Go.Proofs.YtifgpigicgaadaaGreatDoorW.PrintLast Go.Proofs.YtifgpigicgaadaaGreatDoorH Go.Proofs.YtifgpigicgaadaaGreatDoor.Chars Go.Proofs.YtifgpigicgaadaaGreatDoor.Values

/-! ## Bytes of a kind -/
def letterV (x : Int) : Bool := (decide (65 ≤ x) && decide (x ≤ 90)) || (decide (97 ≤ x) && decide (x ≤ 122)) || decide (x = 95)
def digitV (x : Int) : Bool := decide (48 ≤ x) && decide (x ≤ 57)
theorem indexByte_neg : ∀ (l : List UInt8) (c : UInt8), (decide (Lib.indexByte l c ≥ 0)) = l.contains c
  | [], c => by simp [Lib.indexByte]
  | b :: l, c => by
    have ih := indexByte_neg l c
    have hg := Lib.indexByte_ge l c
    unfold Lib.indexByte
    by_cases h : b = c
    · subst h; simp
    · have h2 : (b == c) = false := by simp [h]
      have h3 : (c == b) = false := by simp; exact fun x => h x.symm
      rw [List.contains_cons, h3, Bool.false_or, ← ih, if_neg (by simp [h])]
      by_cases h4 : Lib.indexByte l c = -1
      · simp [h4]
      · rw [if_neg (by simp [h4])]
        rw [decide_eq_decide]; omega
theorem is_spec (x : Int) (h : 0 ≤ x ∧ x < 256) (t : ByteArray) : lexer_is.f x t = some ((bytesOf t).contains x) := by
  unfold lexer_is.f strings_IndexByte.f
  rw [Option.bind_some, indexByte_neg]
  congr 1
  unfold bytesOf
  obtain ⟨y, rfl⟩ := Int.eq_ofNat_of_zero_le h.1
  have hy : y < 256 := by omega
  rw [Bool.eq_iff_iff, List.contains_iff_mem, List.contains_iff_mem, List.mem_map]
  constructor
  · intro hm
    exact ⟨_, hm, by simp; omega⟩
  · rintro ⟨b, hb, he⟩
    have : b = (y : Int).toNat.toUInt8 := by
      apply UInt8.toNat_inj.1
      have : b.toNat = y := by exact_mod_cast he
      simp [this]; omega
    rw [← this]; exact hb
def LET : ByteArray := ⟨#[65, 66, 67, 68, 69, 70, 71, 72, 73, 74, 75, 76, 77, 78, 79, 80, 81, 82, 83, 84, 85, 86, 87, 88, 89, 90, 97, 98, 99, 100, 101, 102, 103, 104, 105, 106, 107, 108, 109, 110, 111, 112, 113, 114, 115, 116, 117, 118, 119, 120, 121, 122, 95]⟩
def LETDIG : ByteArray := ⟨#[65, 66, 67, 68, 69, 70, 71, 72, 73, 74, 75, 76, 77, 78, 79, 80, 81, 82, 83, 84, 85, 86, 87, 88, 89, 90, 97, 98, 99, 100, 101, 102, 103, 104, 105, 106, 107, 108, 109, 110, 111, 112, 113, 114, 115, 116, 117, 118, 119, 120, 121, 122, 95, 48, 49, 50, 51, 52, 53, 54, 55, 56, 57]⟩
def DIG : ByteArray := ⟨#[48, 49, 50, 51, 52, 53, 54, 55, 56, 57]⟩
theorem sets_are : ∀ y : Fin 256, (bytesOf LET).contains (y.val : Int) = letterV y.val ∧ (bytesOf LETDIG).contains (y.val : Int) = (letterV y.val || digitV y.val) ∧ (bytesOf DIG).contains (y.val : Int) = digitV y.val ∧ (bytesOf ⟨#[34, 92]⟩).contains (y.val : Int) = (decide ((y.val : Int) = 34) || decide ((y.val : Int) = 92)) := of_decide_eq_true (by kernel_rfl)
theorem sets_at (x : Int) (h : 0 ≤ x ∧ x < 256) : lexer_is.f x LET = some (letterV x) ∧ lexer_is.f x LETDIG = some (letterV x || digitV x) ∧ lexer_is.f x DIG = some (digitV x) ∧ lexer_is.f x ⟨#[34, 92]⟩ = some (decide (x = 34) || decide (x = 92)) := by
  obtain ⟨y, rfl⟩ := Int.eq_ofNat_of_zero_le h.1
  have hy := sets_are ⟨y, by omega⟩
  rw [is_spec _ h, is_spec _ h, is_spec _ h, is_spec _ h]
  exact ⟨congrArg some hy.1, congrArg some hy.2.1, congrArg some hy.2.2.1, congrArg some hy.2.2.2⟩
theorem letter_spec (x : Int) : dossierref08_letter.f x = some (letterV x) := by
  unfold dossierref08_letter.f letterV
  repeat' split
  all_goals (congr 1; rw [Bool.eq_iff_iff]; simp; omega)
theorem digit_spec (x : Int) : dossierref08_digit.f x = some (digitV x) := by
  unfold dossierref08_digit.f digitV
  split
  all_goals (congr 1; rw [Bool.eq_iff_iff]; simp; omega)

/-! ## The longest run -/
theorem run_at (s t : ByteArray) (p : Int → Bool) (hp : ∀ x, 0 ≤ x ∧ x < 256 → lexer_is.f x t = some (p x)) (hs : (bytesOf s).length ≤ 1000000) : ∀ d i k : Nat, i + d = (bytesOf s).length →
    lexer_run.l0 (k + d + 1) s t (i : Int) = some (s.extract 0 (i + (((bytesOf s).drop i).takeWhile p).length)) := by
  intro d
  induction d with
  | zero =>
    intro i k hi
    rw [lexer_run.l0, b_size, if_neg (by omega), if_pos (by omega), if_pos (by omega), List.drop_of_length_le (by omega)]
    simp
  | succ d ih =>
    intro i k hi
    have hlt : i < (bytesOf s).length := by omega
    have e2 : wrap64 ((i : Int) + 1) = ((i + 1 : Nat) : Int) := by rw [w64' _ (by omega) (by omega)]; omega
    have hb := bytes_of s _ (List.getElem_mem hlt)
    rw [show k + (d + 1) + 1 = (k + d + 1) + 1 from by omega, lexer_run.l0, b_size, if_pos (by omega), if_pos (by omega), bt_at' hlt, hp _ hb, Option.bind_some, drop_cons hlt, List.takeWhile_cons, e2, ih (i + 1) k (by omega)]
    by_cases h : p (bytesOf s)[i] = true
    · rw [if_pos h, if_pos h, List.length_cons]; congr 2; omega
    · rw [if_neg h, if_neg h, if_pos (by omega)]; simp
theorem run_spec (s t : ByteArray) (p : Int → Bool) (hp : ∀ x, 0 ≤ x ∧ x < 256 → lexer_is.f x t = some (p x)) (hs : (bytesOf s).length ≤ 1000000) (k : Nat) (hk : (bytesOf s).length + 1 ≤ k) : lexer_run.f k s t = some (s.extract 0 ((bytesOf s).takeWhile p).length) := by
  have := run_at s t p hp hs _ 0 (k - (bytesOf s).length - 1) (Nat.zero_add _)
  rw [show k - (bytesOf s).length - 1 + (bytesOf s).length + 1 = k from by omega] at this
  unfold lexer_run.f
  simpa using this
theorem name_at (s : ByteArray) (hs : (bytesOf s).length ≤ 1000000) : ∀ d i k : Nat, i + d = (bytesOf s).length →
    dossierref08_word.l0 (k + d + 1) s (i : Int) = some (1, s.extract 0 (i + (((bytesOf s).drop i).takeWhile fun x => letterV x || digitV x).length), 0, ((i + (((bytesOf s).drop i).takeWhile fun x => letterV x || digitV x).length : Nat) : Int), true) := by
  intro d
  induction d with
  | zero =>
    intro i k hi
    rw [dossierref08_word.l0, b_size, if_neg (by omega), if_pos (by omega), if_pos (by omega), List.drop_of_length_le (by omega)]
    simp
  | succ d ih =>
    intro i k hi
    have hlt : i < (bytesOf s).length := by omega
    have e2 : wrap64 ((i : Int) + 1) = ((i + 1 : Nat) : Int) := by rw [w64' _ (by omega) (by omega)]; omega
    rw [show k + (d + 1) + 1 = (k + d + 1) + 1 from by omega, dossierref08_word.l0, b_size, if_pos (by omega), if_pos (by omega), bt_at' hlt, letter_spec, digit_spec, Option.bind_some, Option.bind_some, drop_cons hlt, List.takeWhile_cons, e2, ih (i + 1) k (by omega)]
    by_cases h : letterV (bytesOf s)[i] = true
    · simp only [h, if_true, Bool.true_or, List.length_cons]
      rw [show i + 1 + (((bytesOf s).drop (i + 1)).takeWhile fun x => letterV x || digitV x).length = i + ((((bytesOf s).drop (i + 1)).takeWhile fun x => letterV x || digitV x).length + 1) from by omega]
    · by_cases h2 : digitV (bytesOf s)[i] = true
      · simp only [h, h2, if_true, Bool.or_true, List.length_cons]
        rw [show i + 1 + (((bytesOf s).drop (i + 1)).takeWhile fun x => letterV x || digitV x).length = i + ((((bytesOf s).drop (i + 1)).takeWhile fun x => letterV x || digitV x).length + 1) from by omega]
        simp
      · simp [h, h2]
        omega
theorem integer_at (s : ByteArray) (hs : (bytesOf s).length ≤ 1000000) (B : Nat) (r : Int × Int) (n : Nat) (hN : ∀ k, B ≤ k → dossierref01_Number.f k (s.extract 0 n) = some r) : ∀ d i k : Nat, i + d = (bytesOf s).length → i + (((bytesOf s).drop i).takeWhile digitV).length = n →
    dossierref08_integer.l0 (B + k + d + 1) s (i : Int) = some (2, ⟨#[]⟩, r.1, (n : Int), (r.2 == 0)) := by
  intro d
  induction d with
  | zero =>
    intro i k hi hn
    rw [List.drop_of_length_le (by omega)] at hn
    have hn2 : n = i := by simpa using hn.symm
    subst hn2
    rw [dossierref08_integer.l0, b_size, if_neg (by omega), if_pos (by omega), if_pos (by omega), Int.toNat_natCast, hN _ (by omega)]
    rfl
  | succ d ih =>
    intro i k hi hn
    have hlt : i < (bytesOf s).length := by omega
    have e2 : wrap64 ((i : Int) + 1) = ((i + 1 : Nat) : Int) := by rw [w64' _ (by omega) (by omega)]; omega
    rw [show B + k + (d + 1) + 1 = (B + k + d + 1) + 1 from by omega, dossierref08_integer.l0, b_size, if_pos (by omega), if_pos (by omega), bt_at' hlt, digit_spec, Option.bind_some, e2]
    rw [drop_cons hlt, List.takeWhile_cons] at hn
    by_cases h : digitV (bytesOf s)[i] = true
    · rw [if_pos h] at hn ⊢
      rw [List.length_cons] at hn
      exact ih (i + 1) k (by omega) (by omega)
    · rw [if_neg h] at hn ⊢
      have hn2 : n = i := by simpa using hn.symm
      subst hn2
      rw [if_pos (by omega), Int.toNat_natCast, hN _ (by omega)]; rfl
end Go.Proofs.YtifgpigicgaadaaGreatDoor.Bytes
end
