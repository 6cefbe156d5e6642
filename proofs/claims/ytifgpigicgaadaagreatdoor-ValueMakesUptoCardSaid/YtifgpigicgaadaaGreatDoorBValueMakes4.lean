/- Several texts in one, in their order. -/
import Derived.Test.YtifgpigicgaadaaGreatDoorBValueMakes2
import Derived.Test.YtifgpigicgaadaaGreatDoorBValueMakes3
section
/- Characters: the program's decoder, the reference's and one plain function are the same at every list of bytes; so are the searches for a byte that is no character. -/
set_option linter.unusedSimpArgs false
set_option linter.unusedVariables false
namespace Go.Proofs.YtifgpigicgaadaaGreatDoor.Chars
open Go.RowKit Go.Proofs.YtifgpigicgaadaaGreatDoor.Q Go.Proofs.YtifgpigicgaadaaGreatDoorW.PrintWords Go.Proofs.YtifgpigicgaadaaGreatDoorW.PrintLast Go.Proofs.YtifgpigicgaadaaGreatDoorH

/-- Each number of a list is a byte. -/
def Bytes (l : List Int) : Prop := ∀ x ∈ l, 0 ≤ x ∧ x < 256
theorem bytes_of (s : ByteArray) : Bytes (bytesOf s) := by
  intro x hx
  unfold bytesOf at hx
  obtain ⟨b, _, rfl⟩ := List.mem_map.1 hx
  have := b.toNat_lt
  constructor <;> omega
theorem Bytes.drop {l : List Int} (h : Bytes l) (n : Nat) : Bytes (l.drop n) := fun x hx => h x (List.mem_of_mem_drop hx)
theorem Bytes.take {l : List Int} (h : Bytes l) (n : Nat) : Bytes (l.take n) := fun x hx => h x (List.mem_of_mem_take hx)
theorem Bytes.getD {l : List Int} (h : Bytes l) (n : Nat) : 0 ≤ l.getD n 0 ∧ l.getD n 0 < 256 := by
  by_cases hn : n < l.length
  · rw [List.getD_eq_getElem?_getD, List.getElem?_eq_getElem hn]; exact h _ (List.getElem_mem hn)
  · rw [List.getD_eq_getElem?_getD, List.getElem?_eq_none (by omega)]; simp

/-- The first character and how many bytes it has; (0, 0): there is none. -/
def decN (n : Nat) (b0 b1 b2 b3 : Int) : Int × Int :=
  if b0 < 128 then (b0, 1)
  else if 192 ≤ b0 ∧ b0 < 224 ∧ 2 ≤ n ∧ 128 ≤ b1 ∧ b1 < 192 then
    (if (b0 - 192) * 64 + (b1 - 128) ≥ 128 then ((b0 - 192) * 64 + (b1 - 128), 2) else (0, 0))
  else if 224 ≤ b0 ∧ b0 < 240 ∧ 3 ≤ n ∧ (128 ≤ b1 ∧ b1 < 192) ∧ 128 ≤ b2 ∧ b2 < 192 then
    (if 2048 ≤ (b0 - 224) * 4096 + (b1 - 128) * 64 + (b2 - 128) ∧ ((b0 - 224) * 4096 + (b1 - 128) * 64 + (b2 - 128) < 55296 ∨ 57344 ≤ (b0 - 224) * 4096 + (b1 - 128) * 64 + (b2 - 128))
     then ((b0 - 224) * 4096 + (b1 - 128) * 64 + (b2 - 128), 3) else (0, 0))
  else if 240 ≤ b0 ∧ b0 < 248 ∧ 4 ≤ n ∧ (128 ≤ b1 ∧ b1 < 192) ∧ (128 ≤ b2 ∧ b2 < 192) ∧ 128 ≤ b3 ∧ b3 < 192 then
    (if 65536 ≤ (b0 - 240) * 262144 + (b1 - 128) * 4096 + (b2 - 128) * 64 + (b3 - 128) ∧ (b0 - 240) * 262144 + (b1 - 128) * 4096 + (b2 - 128) * 64 + (b3 - 128) ≤ 1114111
     then ((b0 - 240) * 262144 + (b1 - 128) * 4096 + (b2 - 128) * 64 + (b3 - 128), 4) else (0, 0))
  else (0, 0)
def dec (l : List Int) : Int × Int := if l = [] then (0, 0) else decN l.length (l.getD 0 0) (l.getD 1 0) (l.getD 2 0) (l.getD 3 0)

theorem decN_two (n : Nat) (b0 b1 b2 b3 : Int) (h0 : 0 ≤ b0) : (decN n b0 b1 b2 b3).2 ≤ 4 ∧ 0 ≤ (decN n b0 b1 b2 b3).2 ∧ 0 ≤ (decN n b0 b1 b2 b3).1 ∧ (decN n b0 b1 b2 b3).1 ≤ 1114111 ∧ (1 ≤ n → (decN n b0 b1 b2 b3).2 ≤ n) ∧ ((decN n b0 b1 b2 b3).2 = 0 → (decN n b0 b1 b2 b3).1 = 0) := by
  unfold decN
  repeat' split
  all_goals (simp only; refine ⟨by omega, by omega, by omega, by omega, fun _ => by omega, fun h_ => by omega⟩)

theorem dec_two {l : List Int} (hl : Bytes l) : (dec l).2 ≤ 4 ∧ 0 ≤ (dec l).2 ∧ 0 ≤ (dec l).1 ∧ (dec l).1 ≤ 1114111 ∧ (dec l).2 ≤ l.length ∧ ((dec l).2 = 0 → (dec l).1 = 0) := by
  unfold dec
  by_cases h : l = []
  · rw [if_pos h]; simp
  · rw [if_neg h]
    have hlen : 1 ≤ l.length := List.length_pos_iff.2 h
    have := decN_two l.length (l.getD 0 0) (l.getD 1 0) (l.getD 2 0) (l.getD 3 0) (hl.getD 0).1
    exact ⟨this.1, this.2.1, this.2.2.1, this.2.2.2.1, this.2.2.2.2.1 hlen, this.2.2.2.2.2⟩

theorem get!_at (l : List Int) (hl : Bytes l) (i : Nat) : (((strOfNums l).get! i).toNat : Int) = l.getD i 0 := by
  by_cases h : i < l.length
  · rw [strOfNums_get! l i h, List.getD_eq_getElem?_getD, List.getElem?_eq_getElem h]
    have := hl _ (List.getElem_mem h)
    simp only [Option.getD_some]
    generalize l[i] = x at *
    obtain ⟨y, rfl⟩ := Int.eq_ofNat_of_zero_le this.1
    simp; omega
  · rw [List.getD_eq_getElem?_getD, List.getElem?_eq_none (by omega)]
    have : ¬ i < (strOfNums l).data.size := by simp [strOfNums]; omega
    have e : (strOfNums l).data[i]! = 0 := by
      rw [Array.getElem!_eq_getD, Array.getD_eq_getD_getElem?, Array.getElem?_eq_none (by omega)]; rfl
    show (((strOfNums l).data[i]!).toNat : Int) = _
    rw [e]; rfl

set_option maxHeartbeats 4000000 in
/-- The model's decoder, with what it calls no character told as (0, 0). -/
theorem decN_go (n : Nat) (b0 b1 b2 b3 : Nat) (h0 : b0 < 256) (h1 : b1 < 256) (h2 : b2 < 256) (h3 : b3 < 256) :
    (if (Lib.decodeN n b0 b1 b2 b3).1 = 65533 ∧ (Lib.decodeN n b0 b1 b2 b3).2 ≤ 1 then ((0 : Int), (0 : Int)) else (((Lib.decodeN n b0 b1 b2 b3).1 : Int), ((Lib.decodeN n b0 b1 b2 b3).2 : Int))) = decN n b0 b1 b2 b3 := by
  unfold Lib.decodeN decN
  repeat' split
  all_goals first
    | (exfalso; omega)
    | (simp only at *; first | (exfalso; omega) | (apply Prod.ext <;> simp only <;> omega))
    | (apply Prod.ext <;> simp only <;> omega)

theorem chars_Decode_spec (l : List Int) (hl : Bytes l) : chars_Decode.f l = some (dec l) := by
  have hall : (l.all fun x => decide (0 ≤ x) && decide (x < 256)) = true := by
    rw [List.all_eq_true]; intro x hx; have := hl x hx; simp [this.1, this.2]
  unfold chars_Decode.f utf8_DecodeRune.f
  rw [if_pos hall, Option.bind_some]
  by_cases h : l = []
  · subst h; rfl
  · have hlen : 1 ≤ l.length := List.length_pos_iff.2 h
    have hsz : (strOfNums l).size = l.length := strOfNums_size l
    have hd : Lib.decodeGo (strOfNums l) = Lib.decodeN l.length (l.getD 0 0).toNat (l.getD 1 0).toNat (l.getD 2 0).toNat (l.getD 3 0).toNat := by
      unfold Lib.decodeGo
      rw [if_neg (by omega), Lib.decode_at, hsz]
      have g := get!_at l hl
      have e : ∀ i, ((strOfNums l).get! i).toNat = (l.getD i 0).toNat := fun i => by have := g i; omega
      simp only [Nat.zero_add, Nat.sub_zero, e]
    have hdec : dec l = decN l.length (l.getD 0 0) (l.getD 1 0) (l.getD 2 0) (l.getD 3 0) := by unfold dec; rw [if_neg h]
    have hb := hl.getD
    have key := decN_go l.length (l.getD 0 0).toNat (l.getD 1 0).toNat (l.getD 2 0).toNat (l.getD 3 0).toNat (by have := hb 0; omega) (by have := hb 1; omega) (by have := hb 2; omega) (by have := hb 3; omega)
    rw [Int.toNat_of_nonneg (hb 0).1, Int.toNat_of_nonneg (hb 1).1, Int.toNat_of_nonneg (hb 2).1, Int.toNat_of_nonneg (hb 3).1, ← hdec, ← hd] at key
    rw [← key]
    have hr : (Lib.decodeGo (strOfNums l)).1 ≤ 1114111 := by
      rw [hd]; unfold Lib.decodeN
      have := hb 0; have := hb 1
      repeat' split
      all_goals (simp only; omega)
    by_cases h1 : (Lib.decodeGo (strOfNums l)).1 = 65533
    · by_cases h2 : (Lib.decodeGo (strOfNums l)).2 ≤ 1
      · rw [if_pos (by omega), if_pos (by omega), if_pos ⟨h1, h2⟩]
      · rw [if_pos (by omega), if_neg (by omega), if_neg (fun x => h2 x.2)]; congr 2; unfold wrap64; omega
    · rw [if_neg (by omega), if_neg (fun x => h1 x.1)]; congr 2; unfold wrap64; omega

/-! ## The reference's -/
theorem tmod64 (x : Int) (h : 0 ≤ x) : Int.tmod x 64 = x % 64 := Int.tmod_eq_emod_of_nonneg h

/-- A character's bytes. -/
def enc (r : Int) : List Int :=
  if r < 0 ∨ r > 1114111 ∨ (55296 ≤ r ∧ r ≤ 57343) then []
  else if r < 128 then [r]
  else if r < 2048 then [192 + r / 64, 128 + r % 64]
  else if r < 65536 then [224 + r / 4096, 128 + r / 64 % 64, 128 + r % 64]
  else [240 + r / 262144, 128 + r / 4096 % 64, 128 + r / 64 % 64, 128 + r % 64]

theorem enc_spec (k : Nat) (r : Int) : dossierref01_Encode.f (k + 1) r = some (enc r) := by
  unfold dossierref01_Encode.f enc
  simp only [dossierref01_Encode.j0]
  have w : ∀ x : Int, 0 ≤ x → x < 4000000 → wrap64 x = x := fun x h0 h1 => by unfold wrap64; omega
  by_cases h1 : r < 0
  · simp [h1]
  · by_cases h2 : r > 1114111
    · simp [h1, h2]
    · by_cases h3 : r ≥ 55296 ∧ r ≤ 57343
      · simp [h1, h2, h3.1, h3.2]
      · have hc : ¬ (r < 0 ∨ r > 1114111 ∨ (55296 ≤ r ∧ r ≤ 57343)) := by omega
        rw [if_neg h1, if_neg h2, if_neg hc]
        have e : (if r ≥ 55296 then (if (decide (r ≤ 57343)) = true then some ([] : List Int) else if r < 128 then some [r % 256] else if r < 2048 then some [wrap64 (192 + r / 64) % 256, wrap64 (128 + Int.tmod r 64) % 256] else if r < 65536 then some [wrap64 (224 + r / 4096) % 256, wrap64 (128 + Int.tmod (r / 64) 64) % 256, wrap64 (128 + Int.tmod r 64) % 256] else some [wrap64 (240 + r / 262144) % 256, wrap64 (128 + Int.tmod (r / 4096) 64) % 256, wrap64 (128 + Int.tmod (r / 64) 64) % 256, wrap64 (128 + Int.tmod r 64) % 256])
            else if false = true then some ([] : List Int) else if r < 128 then some [r % 256] else if r < 2048 then some [wrap64 (192 + r / 64) % 256, wrap64 (128 + Int.tmod r 64) % 256] else if r < 65536 then some [wrap64 (224 + r / 4096) % 256, wrap64 (128 + Int.tmod (r / 64) 64) % 256, wrap64 (128 + Int.tmod r 64) % 256] else some [wrap64 (240 + r / 262144) % 256, wrap64 (128 + Int.tmod (r / 4096) 64) % 256, wrap64 (128 + Int.tmod (r / 64) 64) % 256, wrap64 (128 + Int.tmod r 64) % 256])
            = (if r < 128 then some [r % 256] else if r < 2048 then some [wrap64 (192 + r / 64) % 256, wrap64 (128 + Int.tmod r 64) % 256] else if r < 65536 then some [wrap64 (224 + r / 4096) % 256, wrap64 (128 + Int.tmod (r / 64) 64) % 256, wrap64 (128 + Int.tmod r 64) % 256] else some [wrap64 (240 + r / 262144) % 256, wrap64 (128 + Int.tmod (r / 4096) 64) % 256, wrap64 (128 + Int.tmod (r / 64) 64) % 256, wrap64 (128 + Int.tmod r 64) % 256]) := by
          by_cases h4 : r ≥ 55296
          · rw [if_pos h4, if_neg (by simp; omega)]
          · rw [if_neg h4]; simp
        rw [e, tmod64 r (by omega), tmod64 (r / 64) (by omega), tmod64 (r / 4096) (by omega)]
        by_cases a1 : r < 128
        · simp only [a1, if_true]; congr 2; omega
        · simp only [a1, if_false]
          by_cases a2 : r < 2048
          · simp only [a2, if_true]; rw [w _ (by omega) (by omega), w _ (by omega) (by omega)]; congr 2; omega; congr 1; omega
          · simp only [a2, if_false]
            by_cases a3 : r < 65536
            · simp only [a3, if_true]; rw [w _ (by omega) (by omega), w _ (by omega) (by omega), w _ (by omega) (by omega)]; congr 2; omega; congr 1; omega; congr 1; omega
            · simp only [a3, if_false]; rw [w _ (by omega) (by omega), w _ (by omega) (by omega), w _ (by omega) (by omega), w _ (by omega) (by omega)]; congr 2; omega; congr 1; omega; congr 1; omega; congr 1; omega

/-- Bytes as a string are the same just where they are the same. -/
theorem str_inj {l m : List Int} (hl : Bytes l) (hm : Bytes m) : (strOfNums l).toList = (strOfNums m).toList ↔ l = m := by
  constructor
  · intro h
    rw [Lib.toList_data, Lib.toList_data, strOfNums_data, strOfNums_data] at h
    have hlen : l.length = m.length := by simpa using congrArg List.length h
    apply List.ext_getElem hlen
    intro i h1 h2
    have e : (l.map fun n => UInt8.ofNat n.toNat)[i]'(by simpa using h1) = (m.map fun n => UInt8.ofNat n.toNat)[i]'(by simpa using h2) := by simp only [h]
    simp only [List.getElem_map] at e
    have b1 := hl _ (List.getElem_mem h1)
    have b2 := hm _ (List.getElem_mem h2)
    have e' := congrArg UInt8.toNat e
    simp at e'
    omega
  · intro h; rw [h]

theorem enc_bytes (r : Int) : Bytes (enc r) := by
  unfold enc
  repeat' split
  all_goals (intro x hx; simp at hx)
  all_goals first | omega | (rcases hx with h | h <;> omega) | (rcases hx with h | h | h <;> omega) | (rcases hx with h | h | h | h <;> omega)

/-- What the reference does behind the first byte: the rest of the bytes, then the character's own bytes held against them. -/
def tailD (l : List Int) (n : Int) (r : Int) : Option (Int × Int) := if enc r = l.take n.toNat then some (r, n) else some (0, 0)

theorem fin_spec (k : Nat) (l : List Int) (hl : Bytes l) (n r : Int) (h0 : 0 ≤ n) (hn : n ≤ l.length) :
    ((dossierref01_Encode.f (k + 1) r).bind fun t178 => (if 0 ≤ n then (if n ≤ (l.length : Int) then (if (strOfNums t178).toList = (strOfNums (l.take (n : Int).toNat)).toList then (some (r, n)) else (some (0, 0))) else (none)) else (none))) = tailD l n r := by
  rw [enc_spec, Option.bind_some, if_pos h0, if_pos hn]
  unfold tailD
  by_cases h : enc r = l.take n.toNat
  · rw [if_pos h, if_pos ((str_inj (enc_bytes r) (hl.take _)).2 h)]
  · rw [if_neg h, if_neg (fun x => h ((str_inj (enc_bytes r) (hl.take _)).1 x))]

theorem w64 (x : Int) (h0 : -10000000 ≤ x) (h1 : x < 100000000) : wrap64 x = x := by unfold wrap64; omega

theorem loopD (l : List Int) (hl : Bytes l) (n : Int) (h0 : 0 ≤ n) (hn : n ≤ l.length) (xs : List Int) (hx : Bytes xs) (hlen : xs.length ≤ 3) : ∀ (d i k : Nat) (r : Int), i + d = xs.length → 0 ≤ r → ((i = 0 ∧ (r < 64 ∨ (xs = [] ∧ r < 4096))) ∨ (i = 1 ∧ r < 4096) ∨ (i = 2 ∧ r < 262144) ∨ (i = 3 ∧ r < 16777216)) →
    dossierref01_Decode.l0 (k + d + 2) l n r xs (xs.length : Int) (i : Int) = if (∀ x ∈ xs.drop i, 128 ≤ x ∧ x < 192) then tailD l n ((xs.drop i).foldl (fun r x => r * 64 + (x - 128)) r) else some (0, 0) := by
  intro d
  induction d with
  | zero =>
    intro i k r hi hr hb
    rw [show k + 0 + 2 = (k + 1) + 1 from rfl]
    rw [dossierref01_Decode.l0]
    rw [if_neg (by omega), fin_spec k l hl n r h0 hn, List.drop_of_length_le (by omega)]
    simp
  | succ d ih =>
    intro i k r hi hr hb
    have hlt : i < xs.length := by omega
    have hrd : rd xs (i : Int) = xs[i] := by simp [rd, List.getD, hlt]
    have hb' : (i = 0 ∧ r < 64) ∨ (i = 1 ∧ r < 4096) ∨ (i = 2 ∧ r < 262144) ∨ (i = 3 ∧ r < 16777216) := by
      rcases hb with ⟨h, h2 | ⟨h2, _⟩⟩ | h | h
      · exact Or.inl ⟨h, h2⟩
      · subst h2; simp at hlt
      · exact Or.inr (Or.inl h)
      · exact Or.inr (Or.inr h)
    clear hb
    have hbx := hx _ (List.getElem_mem hlt)
    rw [show k + (d + 1) + 2 = (k + d + 2) + 1 from by omega]
    rw [dossierref01_Decode.l0]
    rw [if_pos (by omega), if_pos (by omega), if_pos (by omega), hrd, List.drop_eq_getElem_cons hlt]
    by_cases c1 : xs[i] < 128
    · rw [if_pos c1, if_neg (fun h => by have := h xs[i] List.mem_cons_self; omega)]
    · by_cases c2 : xs[i] > 191
      · rw [if_neg c1, if_pos c2, if_neg (fun h => by have := h xs[i] List.mem_cons_self; omega)]
      · rw [if_neg c1, if_neg c2]
        generalize hy : xs[i] = y at *
        have e : wrap64 (wrap64 (wrap64 (r * 64) + wrap64 y) - 128) = r * 64 + (y - 128) := by
          rw [w64 (r * 64) (by omega) (by omega), w64 y (by omega) (by omega), w64 (r * 64 + y) (by omega) (by omega), w64 (r * 64 + y - 128) (by omega) (by omega)]; omega
        have e2 : wrap64 ((i : Int) + 1) = ((i + 1 : Nat) : Int) := by rw [w64 _ (by omega) (by omega)]; omega
        have hb2 : (i + 1 = 1 ∧ r * 64 + (y - 128) < 4096) ∨ (i + 1 = 2 ∧ r * 64 + (y - 128) < 262144) ∨ (i + 1 = 3 ∧ r * 64 + (y - 128) < 16777216) := by
          clear ih e e2 hx hl hrd
          rcases hb' with ⟨h1, h2⟩ | ⟨h1, h2⟩ | ⟨h1, h2⟩ | ⟨h1, h2⟩
          · exact Or.inl ⟨by omega, by omega⟩
          · exact Or.inr (Or.inl ⟨by omega, by omega⟩)
          · exact Or.inr (Or.inr ⟨by omega, by omega⟩)
          · omega
        rw [e, e2, ih (i + 1) k (r * 64 + (y - 128)) (by omega) (by omega) (Or.inr hb2)]
        have hy1 : 128 ≤ y ∧ y < 192 := by omega
        simp only [List.mem_cons, forall_eq_or_imp, hy1, true_and, List.foldl_cons, and_self]

theorem enc_len (r : Int) : (enc r).length = if r < 0 ∨ r > 1114111 ∨ (55296 ≤ r ∧ r ≤ 57343) then 0 else if r < 128 then 1 else if r < 2048 then 2 else if r < 65536 then 3 else 4 := by
  unfold enc; repeat' split
  all_goals rfl
theorem enc4 (r b0 b1 b2 b3 : Int) (h1 : 128 ≤ b1 ∧ b1 < 192) (h2 : 128 ≤ b2 ∧ b2 < 192) (h3 : 128 ≤ b3 ∧ b3 < 192) (hr : r = (b0 - 240) * 262144 + (b1 - 128) * 4096 + (b2 - 128) * 64 + (b3 - 128)) :
    enc r = [b0, b1, b2, b3] ↔ 65536 ≤ r ∧ r ≤ 1114111 := by
  constructor
  · intro h
    have hl := congrArg List.length h
    rw [enc_len] at hl
    simp only [List.length_cons, List.length_nil] at hl
    split at hl
    · omega
    · split at hl
      · omega
      · split at hl
        · omega
        · split at hl
          · omega
          · omega
  · intro h
    unfold enc
    rw [if_neg (by omega), if_neg (by omega), if_neg (by omega), if_neg (by omega)]
    have e0 : 240 + r / 262144 = b0 := by omega
    have e1 : 128 + r / 4096 % 64 = b1 := by omega
    have e2 : 128 + r / 64 % 64 = b2 := by omega
    have e3 : 128 + r % 64 = b3 := by omega
    rw [e0, e1, e2, e3]
theorem enc3 (r b0 b1 b2 : Int) (h1 : 128 ≤ b1 ∧ b1 < 192) (h2 : 128 ≤ b2 ∧ b2 < 192) (h0 : 224 ≤ b0 ∧ b0 < 240) (hr : r = (b0 - 224) * 4096 + (b1 - 128) * 64 + (b2 - 128)) :
    enc r = [b0, b1, b2] ↔ 2048 ≤ r ∧ (r < 55296 ∨ 57344 ≤ r) := by
  constructor
  · intro h
    have hl := congrArg List.length h
    rw [enc_len] at hl
    simp only [List.length_cons, List.length_nil] at hl
    split at hl
    · omega
    · split at hl
      · omega
      · split at hl
        · omega
        · omega
  · intro h
    unfold enc
    rw [if_neg (by omega), if_neg (by omega), if_neg (by omega), if_pos (by omega)]
    have e0 : 224 + r / 4096 = b0 := by omega
    have e1 : 128 + r / 64 % 64 = b1 := by omega
    have e2 : 128 + r % 64 = b2 := by omega
    rw [e0, e1, e2]
theorem enc2 (r b0 b1 : Int) (h1 : 128 ≤ b1 ∧ b1 < 192) (h0 : 192 ≤ b0 ∧ b0 < 224) (hr : r = (b0 - 192) * 64 + (b1 - 128)) : enc r = [b0, b1] ↔ 128 ≤ r := by
  constructor
  · intro h
    have hl := congrArg List.length h
    rw [enc_len] at hl
    simp only [List.length_cons, List.length_nil] at hl
    split at hl
    · omega
    · split at hl
      · omega
      · omega
  · intro h
    unfold enc
    rw [if_neg (by omega), if_neg (by omega), if_pos (by omega)]
    have e0 : 192 + r / 64 = b0 := by omega
    have e1 : 128 + r % 64 = b1 := by omega
    rw [e0, e1]
theorem enc1 (b0 : Int) (h0 : 0 ≤ b0 ∧ b0 < 192) : enc b0 = [b0] ↔ b0 < 128 := by
  constructor
  · intro h
    have hl := congrArg List.length h
    rw [enc_len] at hl
    simp only [List.length_cons, List.length_nil] at hl
    repeat' split at hl
    all_goals omega
  · intro h
    unfold enc
    rw [if_neg (by omega), if_pos h]

theorem decN4 (n : Nat) (b0 b1 b2 b3 : Int) (h : 240 ≤ b0) (hn : b0 < 256) : decN n b0 b1 b2 b3 = if 4 ≤ n ∧ ((128 ≤ b1 ∧ b1 < 192) ∧ (128 ≤ b2 ∧ b2 < 192) ∧ 128 ≤ b3 ∧ b3 < 192) ∧ 65536 ≤ (((b0 - 240) * 64 + (b1 - 128)) * 64 + (b2 - 128)) * 64 + (b3 - 128) ∧ (((b0 - 240) * 64 + (b1 - 128)) * 64 + (b2 - 128)) * 64 + (b3 - 128) ≤ 1114111
    then ((((b0 - 240) * 64 + (b1 - 128)) * 64 + (b2 - 128)) * 64 + (b3 - 128), 4) else (0, 0) := by
  unfold decN
  rw [if_neg (by omega), if_neg (by omega), if_neg (by omega)]
  repeat' split
  all_goals first | rfl | (exfalso; omega) | (congr 1; omega)
theorem decN3 (n : Nat) (b0 b1 b2 b3 : Int) (h : 224 ≤ b0) (hn : b0 < 240) : decN n b0 b1 b2 b3 = if 3 ≤ n ∧ ((128 ≤ b1 ∧ b1 < 192) ∧ 128 ≤ b2 ∧ b2 < 192) ∧ 2048 ≤ ((b0 - 224) * 64 + (b1 - 128)) * 64 + (b2 - 128) ∧ (((b0 - 224) * 64 + (b1 - 128)) * 64 + (b2 - 128) < 55296 ∨ 57344 ≤ ((b0 - 224) * 64 + (b1 - 128)) * 64 + (b2 - 128))
    then (((b0 - 224) * 64 + (b1 - 128)) * 64 + (b2 - 128), 3) else (0, 0) := by
  unfold decN
  rw [if_neg (by omega), if_neg (by omega)]
  repeat' split
  all_goals first | rfl | (exfalso; omega) | (congr 1; omega)
theorem decN2 (n : Nat) (b0 b1 b2 b3 : Int) (h : 192 ≤ b0) (hn : b0 < 224) : decN n b0 b1 b2 b3 = if 2 ≤ n ∧ (128 ≤ b1 ∧ b1 < 192) ∧ 128 ≤ (b0 - 192) * 64 + (b1 - 128) then ((b0 - 192) * 64 + (b1 - 128), 2) else (0, 0) := by
  unfold decN
  rw [if_neg (by omega)]
  repeat' split
  all_goals first | rfl | (exfalso; omega)
theorem decN1 (n : Nat) (b0 b1 b2 b3 : Int) (hn : b0 < 192) : decN n b0 b1 b2 b3 = if b0 < 128 then (b0, 1) else (0, 0) := by
  unfold decN
  by_cases h : b0 < 128
  · rw [if_pos h, if_pos h]
  · have a1 : ¬ (192 ≤ b0) := by omega
    have a2 : ¬ (224 ≤ b0) := by omega
    have a3 : ¬ (240 ≤ b0) := by omega
    rw [if_neg h, if_neg (fun x => a1 x.1), if_neg (fun x => a2 x.1), if_neg (fun x => a3 x.1), if_neg h]

theorem four (k : Nat) (b0 : Int) (t : List Int) (hl : Bytes (b0 :: t)) (c4 : 240 ≤ b0) : dossierref01_Decode.j0 (k + 10) (b0 :: t) 4 (b0 - 240) = some (decN (b0 :: t).length b0 (t.getD 0 0) (t.getD 1 0) (t.getD 2 0)) := by
  have hb0 := hl b0 (by simp)
  rw [show k + 10 = (k + 9) + 1 from rfl, dossierref01_Decode.j0, decN4 _ _ _ _ _ c4 hb0.2]
  match t, hl with
  | [], _ => rw [if_pos (by simp), if_neg (by simp)]
  | [_], _ => rw [if_pos (by simp), if_neg (by simp)]
  | [_, _], _ => rw [if_pos (by simp), if_neg (by simp)]
  | b1 :: b2 :: b3 :: u, hl =>
    have hx : Bytes [b1, b2, b3] := fun x hx => hl x (List.mem_cons_of_mem _ (show x ∈ [b1, b2, b3] ++ u from List.mem_append_left u hx))
    have hL := loopD (b0 :: b1 :: b2 :: b3 :: u) hl 4 (by decide) (by simp; omega) [b1, b2, b3] hx (by simp) 3 0 (k + 4) (b0 - 240) rfl (by omega) (Or.inl ⟨rfl, Or.inl (by omega)⟩)
    rw [if_neg (by simp; omega), if_pos (by decide), if_pos (by simp; omega)]
    rw [show dossierref01_Decode.l0 (k + 9) (b0 :: b1 :: b2 :: b3 :: u) 4 (b0 - 240) (((b0 :: b1 :: b2 :: b3 :: u).take (4 : Int).toNat).drop 1) ((((b0 :: b1 :: b2 :: b3 :: u).take (4 : Int).toNat).drop 1).length : Int) 0 = _ from hL]
    simp only [List.drop_zero, List.mem_cons, List.not_mem_nil, or_false, forall_eq_or_imp, forall_eq, List.foldl_cons, List.foldl_nil]
    unfold tailD
    rw [show (b0 :: b1 :: b2 :: b3 :: u).take (4 : Int).toNat = [b0, b1, b2, b3] from rfl]
    simp only [List.getD_cons_zero, List.getD_cons_succ]
    have hlen : 4 ≤ (b0 :: b1 :: b2 :: b3 :: u).length := by simp
    generalize (b0 :: b1 :: b2 :: b3 :: u).length = N at hlen ⊢
    by_cases hc : (128 ≤ b1 ∧ b1 < 192) ∧ (128 ≤ b2 ∧ b2 < 192) ∧ 128 ≤ b3 ∧ b3 < 192
    · have e := enc4 ((((b0 - 240) * 64 + (b1 - 128)) * 64 + (b2 - 128)) * 64 + (b3 - 128)) b0 b1 b2 b3 hc.1 hc.2.1 hc.2.2 (by omega)
      rw [if_pos hc]
      by_cases hr : 65536 ≤ (((b0 - 240) * 64 + (b1 - 128)) * 64 + (b2 - 128)) * 64 + (b3 - 128) ∧ (((b0 - 240) * 64 + (b1 - 128)) * 64 + (b2 - 128)) * 64 + (b3 - 128) ≤ 1114111
      · rw [if_pos (e.2 hr), if_pos ⟨hlen, hc, hr⟩]
      · rw [if_neg (fun x => hr (e.1 x)), if_neg (fun x => hr x.2.2)]
    · rw [if_neg hc, if_neg (fun x => hc x.2.1)]

theorem three (k : Nat) (b0 : Int) (t : List Int) (hl : Bytes (b0 :: t)) (c4 : 224 ≤ b0) (c5 : b0 < 240) : dossierref01_Decode.j0 (k + 10) (b0 :: t) 3 (b0 - 224) = some (decN (b0 :: t).length b0 (t.getD 0 0) (t.getD 1 0) (t.getD 2 0)) := by
  rw [show k + 10 = (k + 9) + 1 from rfl, dossierref01_Decode.j0, decN3 _ _ _ _ _ c4 c5]
  match t, hl with
  | [], _ => rw [if_pos (by simp), if_neg (by simp)]
  | [_], _ => rw [if_pos (by simp), if_neg (by simp)]
  | b1 :: b2 :: u, hl =>
    have hx : Bytes [b1, b2] := fun x hx => hl x (List.mem_cons_of_mem _ (show x ∈ [b1, b2] ++ u from List.mem_append_left u hx))
    have hL := loopD (b0 :: b1 :: b2 :: u) hl 3 (by decide) (by simp; omega) [b1, b2] hx (by simp) 2 0 (k + 5) (b0 - 224) rfl (by omega) (Or.inl ⟨rfl, Or.inl (by omega)⟩)
    rw [if_neg (by simp; omega), if_pos (by decide), if_pos (by simp; omega)]
    rw [show dossierref01_Decode.l0 (k + 9) (b0 :: b1 :: b2 :: u) 3 (b0 - 224) (((b0 :: b1 :: b2 :: u).take (3 : Int).toNat).drop 1) ((((b0 :: b1 :: b2 :: u).take (3 : Int).toNat).drop 1).length : Int) 0 = _ from hL]
    simp only [List.drop_zero, List.mem_cons, List.not_mem_nil, or_false, forall_eq_or_imp, forall_eq, List.foldl_cons, List.foldl_nil]
    unfold tailD
    rw [show (b0 :: b1 :: b2 :: u).take (3 : Int).toNat = [b0, b1, b2] from rfl]
    simp only [List.getD_cons_zero, List.getD_cons_succ]
    have hlen : 3 ≤ (b0 :: b1 :: b2 :: u).length := by simp
    generalize (b0 :: b1 :: b2 :: u).length = N at hlen ⊢
    by_cases hc : (128 ≤ b1 ∧ b1 < 192) ∧ 128 ≤ b2 ∧ b2 < 192
    · have e := enc3 (((b0 - 224) * 64 + (b1 - 128)) * 64 + (b2 - 128)) b0 b1 b2 hc.1 hc.2 ⟨c4, c5⟩ (by omega)
      rw [if_pos hc]
      by_cases hr : 2048 ≤ ((b0 - 224) * 64 + (b1 - 128)) * 64 + (b2 - 128) ∧ (((b0 - 224) * 64 + (b1 - 128)) * 64 + (b2 - 128) < 55296 ∨ 57344 ≤ ((b0 - 224) * 64 + (b1 - 128)) * 64 + (b2 - 128))
      · rw [if_pos (e.2 hr), if_pos ⟨hlen, hc, hr⟩]
      · rw [if_neg (fun x => hr (e.1 x)), if_neg (fun x => hr x.2.2)]
    · rw [if_neg hc, if_neg (fun x => hc x.2.1)]

theorem two (k : Nat) (b0 : Int) (t : List Int) (hl : Bytes (b0 :: t)) (c4 : 192 ≤ b0) (c5 : b0 < 224) : dossierref01_Decode.j0 (k + 10) (b0 :: t) 2 (b0 - 192) = some (decN (b0 :: t).length b0 (t.getD 0 0) (t.getD 1 0) (t.getD 2 0)) := by
  rw [show k + 10 = (k + 9) + 1 from rfl, dossierref01_Decode.j0, decN2 _ _ _ _ _ c4 c5]
  match t, hl with
  | [], _ => rw [if_pos (by simp), if_neg (by simp)]
  | b1 :: u, hl =>
    have hx : Bytes [b1] := fun x hx => hl x (List.mem_cons_of_mem _ (show x ∈ [b1] ++ u from List.mem_append_left u hx))
    have hL := loopD (b0 :: b1 :: u) hl 2 (by decide) (by simp; omega) [b1] hx (by simp) 1 0 (k + 6) (b0 - 192) rfl (by omega) (Or.inl ⟨rfl, Or.inl (by omega)⟩)
    rw [if_neg (by simp; omega), if_pos (by decide), if_pos (by simp; omega)]
    rw [show dossierref01_Decode.l0 (k + 9) (b0 :: b1 :: u) 2 (b0 - 192) (((b0 :: b1 :: u).take (2 : Int).toNat).drop 1) ((((b0 :: b1 :: u).take (2 : Int).toNat).drop 1).length : Int) 0 = _ from hL]
    simp only [List.drop_zero, List.mem_cons, List.not_mem_nil, or_false, forall_eq, List.foldl_cons, List.foldl_nil]
    unfold tailD
    rw [show (b0 :: b1 :: u).take (2 : Int).toNat = [b0, b1] from rfl]
    simp only [List.getD_cons_zero]
    have hlen : 2 ≤ (b0 :: b1 :: u).length := by simp
    generalize (b0 :: b1 :: u).length = N at hlen ⊢
    by_cases hc : 128 ≤ b1 ∧ b1 < 192
    · have e := enc2 ((b0 - 192) * 64 + (b1 - 128)) b0 b1 hc ⟨c4, c5⟩ rfl
      rw [if_pos hc]
      by_cases hr : 128 ≤ (b0 - 192) * 64 + (b1 - 128)
      · rw [if_pos (e.2 hr), if_pos ⟨hlen, hc, hr⟩]
      · rw [if_neg (fun x => hr (e.1 x)), if_neg (fun x => hr x.2.2)]
    · rw [if_neg hc, if_neg (fun x => hc x.2.1)]

theorem one (k : Nat) (b0 : Int) (t : List Int) (hl : Bytes (b0 :: t)) (c5 : b0 < 192) : dossierref01_Decode.j0 (k + 10) (b0 :: t) 1 b0 = some (decN (b0 :: t).length b0 (t.getD 0 0) (t.getD 1 0) (t.getD 2 0)) := by
  have hb0 := hl b0 (by simp)
  rw [show k + 10 = (k + 9) + 1 from rfl, dossierref01_Decode.j0, decN1 _ _ _ _ _ c5]
  have hL := loopD (b0 :: t) hl 1 (by decide) (by simp; omega) [] (fun x hx => by cases hx) (by simp) 0 0 (k + 7) b0 rfl (by omega) (Or.inl ⟨rfl, Or.inr ⟨rfl, by omega⟩⟩)
  rw [if_neg (by simp; omega), if_pos (by decide), if_pos (by simp; omega)]
  rw [show dossierref01_Decode.l0 (k + 9) (b0 :: t) 1 b0 (((b0 :: t).take (1 : Int).toNat).drop 1) ((((b0 :: t).take (1 : Int).toNat).drop 1).length : Int) 0 = _ from hL]
  simp only [List.drop_nil, List.not_mem_nil, false_implies, implies_true, if_true, List.foldl_nil]
  unfold tailD
  rw [show (b0 :: t).take (1 : Int).toNat = [b0] from rfl]
  have e := enc1 b0 ⟨hb0.1, c5⟩
  by_cases hr : b0 < 128
  · rw [if_pos (e.2 hr), if_pos hr]
  · rw [if_neg (fun x => hr (e.1 x)), if_neg hr]

theorem ref_Decode_spec (k : Nat) (l : List Int) (hl : Bytes l) : dossierref01_Decode.f (k + 10) l = some (dec l) := by
  cases l with
  | nil => simp [dossierref01_Decode.f, dec]
  | cons b0 t =>
    have hb0 := hl b0 (by simp)
    have hrd : rd (b0 :: t) 0 = b0 := rfl
    unfold dossierref01_Decode.f
    rw [if_neg (by simp; omega), if_pos (by simp), hrd]
    have hdec : dec (b0 :: t) = decN (b0 :: t).length b0 (t.getD 0 0) (t.getD 1 0) (t.getD 2 0) := by unfold dec; rw [if_neg (by simp)]; rfl
    rw [hdec, w64 b0 (by omega) (by omega), w64 (b0 - 240) (by omega) (by omega), w64 (b0 - 224) (by omega) (by omega), w64 (b0 - 192) (by omega) (by omega)]
    by_cases c4 : b0 ≥ 240
    · rw [if_pos c4]; exact four k b0 t hl c4
    · rw [if_neg c4]
      by_cases c3 : b0 ≥ 224
      · rw [if_pos c3]; exact three k b0 t hl c3 (by omega)
      · rw [if_neg c3]
        by_cases c2 : b0 ≥ 192
        · rw [if_pos c2]; exact two k b0 t hl c2 (by omega)
        · rw [if_neg c2]; exact one k b0 t hl (by omega)

/-! ## Characters of XML; where the first byte stands that is none -/
def xmlC (r : Int) : Bool := decide ((32 ≤ r ∧ r ≤ 55295) ∨ (9 ≤ r ∧ r ≤ 10) ∨ r = 13 ∨ (57344 ≤ r ∧ r ≤ 65533) ∨ (65536 ≤ r ∧ r ≤ 1114111))

theorem chars_in_at (r : Int) (xs : List S115) (hlen : xs.length < 1000000) : ∀ d i k : Nat, i + d = xs.length → chars_in.l0 (k + d + 1) r xs (xs.length : Int) (i : Int) = some ((xs.drop i).any fun s => decide (s.f0 ≤ r) && decide (r ≤ s.f1)) := by
  intro d
  induction d with
  | zero =>
    intro i k hi
    rw [chars_in.l0, if_neg (by omega), List.drop_of_length_le (by omega)]; rfl
  | succ d ih =>
    intro i k hi
    have hlt : i < xs.length := by omega
    have e2 : wrap64 ((i : Int) + 1) = ((i + 1 : Nat) : Int) := by rw [w64 _ (by omega) (by omega)]; omega
    have hrd : rd_T115 xs (i : Int) = xs[i] := by simp [rd_T115, List.getD, hlt]
    rw [show k + (d + 1) + 1 = (k + d + 1) + 1 from by omega, chars_in.l0, if_pos (by omega), if_pos (by omega), if_pos (by omega), hrd, List.drop_eq_getElem_cons hlt, e2, ih (i + 1) k (by omega), List.any_cons]
    generalize ((xs.drop (i + 1)).any fun s => decide (s.f0 ≤ r) && decide (r ≤ s.f1)) = v
    by_cases c1 : (xs[i]).f0 ≤ r
    · by_cases c2 : r ≤ (xs[i]).f1
      · simp [c1, c2]
      · simp [c1, c2]
    · simp [c1]
theorem chars_in_spec (r : Int) (xs : List S115) (hlen : xs.length < 1000000) (k : Nat) (hk : xs.length + 1 ≤ k) : chars_in.f k r xs = some (xs.any fun s => decide (s.f0 ≤ r) && decide (r ≤ s.f1)) := by
  have := chars_in_at r xs hlen xs.length 0 (k - xs.length - 1) (by omega)
  rw [show k - xs.length - 1 + xs.length + 1 = k from by omega] at this
  exact this
theorem chars_ofXML_spec (k : Nat) (r : Int) : chars_ofXML.f (k + 10) r = some (xmlC r) := by
  unfold chars_ofXML.f
  rw [chars_in_spec r _ (by simp) _ (by simp), Option.bind_some]
  unfold xmlC
  congr 1
  simp only [List.any_cons, List.any_nil, Bool.or_false]
  rw [Bool.eq_iff_iff]
  simp only [Bool.or_eq_true, Bool.and_eq_true, decide_eq_true_eq]
  omega

/-- Between two of the numbers that stand by twos. -/
def inP (r : Int) : List Int → Bool
  | a :: b :: t => (decide (a ≤ r) && decide (r ≤ b)) || inP r t
  | _ => false
theorem within_at (r : Int) (xs : List Int) (hlen : xs.length < 1000000) : ∀ d i k : Nat, xs.length ≤ i + 2 * d → i ≤ xs.length → dossierref01_within.l0 (k + d + 1) r xs (i : Int) = some (inP r (xs.drop i)) := by
  intro d
  induction d with
  | zero =>
    intro i k hi hi2
    rw [dossierref01_within.l0, w64 ((i : Int) + 1) (by omega) (by omega), if_neg (by omega), List.drop_of_length_le (by omega)]; rfl
  | succ d ih =>
    intro i k hi hi2
    have e1 : wrap64 ((i : Int) + 1) = ((i + 1 : Nat) : Int) := by rw [w64 _ (by omega) (by omega)]; omega
    have e2 : wrap64 ((i : Int) + 2) = ((i + 2 : Nat) : Int) := by rw [w64 _ (by omega) (by omega)]; omega
    rw [show k + (d + 1) + 1 = (k + d + 1) + 1 from by omega, dossierref01_within.l0, e1, e2]
    by_cases hlt : i + 1 < xs.length
    · have h1 : i < xs.length := by omega
      have hrd : rd xs (i : Int) = xs[i] := by simp [rd, List.getD, h1]
      have hrd2 : rd xs ((i + 1 : Nat) : Int) = xs[i + 1] := by simp only [rd, List.getD, Int.toNat_natCast, List.getElem?_eq_getElem hlt, Option.getD_some]
      rw [if_pos (by omega), if_pos (by omega), if_pos (by omega), hrd, hrd2, List.drop_eq_getElem_cons h1, List.drop_eq_getElem_cons hlt, ih (i + 2) k (by omega) (by omega), inP]
      generalize inP r (xs.drop (i + 2)) = v
      by_cases c1 : xs[i] ≤ r
      · by_cases c2 : r ≤ xs[i + 1]
        · rw [if_pos c1, if_pos (by omega), if_pos c2]; simp [c1, c2]
        · rw [if_pos c1, if_pos (by omega), if_neg c2]; simp [c2]
      · rw [if_neg c1]; simp [c1]
    · rw [if_neg (by omega)]
      match hx : xs.drop i with
      | [] => rfl
      | [_] => rfl
      | _ :: _ :: _ => have := congrArg List.length hx; simp at this; omega
theorem within_spec (r : Int) (xs : List Int) (hlen : xs.length < 1000000) (k : Nat) (hk : xs.length + 1 ≤ k) : dossierref01_within.f k r xs = some (inP r xs) := by
  have := within_at r xs hlen xs.length 0 (k - xs.length - 1) (by omega) (by omega)
  rw [show k - xs.length - 1 + xs.length + 1 = k from by omega] at this
  exact this
theorem ref_OfXML_spec (k : Nat) (r : Int) : dossierref01_OfXML.f (k + 20) r = some (xmlC r) := by
  unfold dossierref01_OfXML.f
  rw [within_spec r _ (by simp) _ (by simp), Option.bind_some]
  unfold xmlC
  congr 1
  simp only [inP, Bool.or_false]
  rw [Bool.eq_iff_iff]
  simp only [Bool.or_eq_true, Bool.and_eq_true, decide_eq_true_eq]
  omega

/-- Both searches come to one answer, at enough rounds. -/
theorem wrong_from (l : List Int) (hl : Bytes l) (hlen : l.length ≤ 1000000000000000000) : ∀ (d : Nat) (at_ : Int), 0 ≤ at_ → at_ ≤ l.length → (l.length : Int) - at_ ≤ d →
    ∃ v : Int, (v = -1 ∨ (0 ≤ v ∧ v < l.length)) ∧ ∀ k, d + 30 ≤ k → chars_Wrong.l0 k l at_ = some v ∧ dossierref01_Wrong.l0 k l at_ = some v := by
  intro d
  induction d with
  | zero =>
    intro at_ h0 h1 hd
    refine ⟨-1, Or.inl rfl, fun k hk => ?_⟩
    obtain ⟨k, rfl⟩ : ∃ m, k = m + 1 := ⟨k - 1, by omega⟩
    rw [chars_Wrong.l0, dossierref01_Wrong.l0, if_neg (by omega), if_neg (by omega)]
    exact ⟨rfl, rfl⟩
  | succ d ih =>
    intro at_ h0 h1 hd
    by_cases hlt : at_ < (l.length : Int)
    · have hD := dec_two (hl.drop at_.toNat)
      have hdl : ((l.drop at_.toNat).length : Int) = l.length - at_ := by rw [List.length_drop]; omega
      by_cases hz : (dec (l.drop at_.toNat)).2 = 0
      · refine ⟨at_, Or.inr ⟨h0, hlt⟩, fun k hk => ?_⟩
        obtain ⟨k, rfl⟩ : ∃ m, k = m + 20 + 1 := ⟨k - 21, by omega⟩
        rw [chars_Wrong.l0, dossierref01_Wrong.l0]
        simp only [if_pos hlt, if_pos h0, if_pos h1, chars_Decode_spec _ (hl.drop _), ref_Decode_spec (k + 10) _ (hl.drop _), Option.bind_some, if_pos hz, and_self]
      · by_cases hx : xmlC (dec (l.drop at_.toNat)).1 = true
        · have hw : wrap64 (at_ + (dec (l.drop at_.toNat)).2) = at_ + (dec (l.drop at_.toNat)).2 := by unfold wrap64; omega
          obtain ⟨v, hv, hk⟩ := ih (at_ + (dec (l.drop at_.toNat)).2) (by omega) (by omega) (by omega)
          refine ⟨v, hv, fun k hk' => ?_⟩
          obtain ⟨k, rfl⟩ : ∃ m, k = m + 20 + 1 := ⟨k - 21, by omega⟩
          have hk2 := hk (k + 20) (by omega)
          rw [chars_Wrong.l0, dossierref01_Wrong.l0]
          simp only [if_pos hlt, if_pos h0, if_pos h1, chars_Decode_spec _ (hl.drop _), ref_Decode_spec (k + 10) _ (hl.drop _), Option.bind_some, if_neg hz, chars_ofXML_spec (k + 10), ref_OfXML_spec, if_pos hx, hw]
          exact hk2
        · refine ⟨at_, Or.inr ⟨h0, hlt⟩, fun k hk => ?_⟩
          obtain ⟨k, rfl⟩ : ∃ m, k = m + 20 + 1 := ⟨k - 21, by omega⟩
          rw [chars_Wrong.l0, dossierref01_Wrong.l0]
          simp only [if_pos hlt, if_pos h0, if_pos h1, chars_Decode_spec _ (hl.drop _), ref_Decode_spec (k + 10) _ (hl.drop _), Option.bind_some, if_neg hz, chars_ofXML_spec (k + 10), ref_OfXML_spec, if_neg hx, and_self]
    · refine ⟨-1, Or.inl rfl, fun k hk => ?_⟩
      obtain ⟨k, rfl⟩ : ∃ m, k = m + 1 := ⟨k - 1, by omega⟩
      rw [chars_Wrong.l0, dossierref01_Wrong.l0, if_neg hlt, if_neg hlt]
      exact ⟨rfl, rfl⟩

/-- Where the first byte stands that is no character; -1: nowhere. -/
def wrong (l : List Int) : Int := (chars_Wrong.f (l.length + 30) l).getD (-1)
theorem wrong_spec (l : List Int) (hl : Bytes l) (hlen : l.length ≤ 1000000000000000000) (k : Nat) (hk : l.length + 30 ≤ k) : chars_Wrong.f k l = some (wrong l) ∧ dossierref01_Wrong.f k l = some (wrong l) := by
  obtain ⟨v, _, h⟩ := wrong_from l hl hlen l.length 0 (by omega) (by omega) (by omega)
  have e : wrong l = v := by unfold wrong chars_Wrong.f; rw [(h _ (Nat.le_refl _)).1]; rfl
  unfold chars_Wrong.f dossierref01_Wrong.f
  rw [e]; exact h k hk
theorem wrong_nil : wrong [] = -1 := by
  have := wrong_from [] (fun x hx => by cases hx) (by simp) 0 0 (by omega) (by simp) (by simp)
  unfold wrong chars_Wrong.f
  rw [chars_Wrong.l0, if_neg (by simp)]; rfl
end Go.Proofs.YtifgpigicgaadaaGreatDoor.Chars
end
section
namespace Go.Proofs.YtifgpigicgaadaaGreatDoor.Q
open Go.RowKit Go.Proofs.YtifgpigicgaadaaGreatDoorH Go.Proofs.YtifgpigicgaadaaGreatDoorW.PrintWords Go.Proofs.YtifgpigicgaadaaGreatDoorW.PrintLast Go.Proofs.YtifgpigicgaadaaGreatDoorW.PrintMore
attribute [local go_sem] max2_int min2_int max_two min_two max_three min_three max_four min_four
set_option linter.unusedVariables false
set_option linter.unusedSimpArgs false
section
theorem eqA23 (d : Nat) (w : World) (x0 y0 : Int) (x1 y1 : Int) (x2 y2 : Bool) (x3 y3 : ByteArray) :
 (Op.equalIn (d + 2) 23 (.agg #[.int .i64 x0,.int .i64 x1,.bool x2,.string x3]) (.agg #[.int .i64 y0,.int .i64 y1,.bool y2,.string y3])).run Tryz.prog w = .ok (x0 == y0 && (x1 == y1 && (x2 == y2 && (x3.toList == y3.toList)))) w := by
 refine eqA_of Tryz.underlying23 (by kernel_rfl) ?_
 refine eqf_cons (by rfl) (by go_simp; rfl) (by go_simp; rfl) (by go_simp) ?_
 refine eqf_cons (by rfl) (by go_simp; rfl) (by go_simp; rfl) (by go_simp) ?_
 refine eqf_cons (by rfl) (by go_simp; rfl) (by go_simp; rfl) (by go_simp) ?_
 exact eqf_last (by rfl) (by go_simp; rfl) (by go_simp; rfl) (by go_simp)
end
section
attribute [local go_sem high] eqA23
/-! ### value_Can: function 12 -/
def value_Can.j0 : Nat → Int → Int → Bool → ByteArray → Int → Int → Bool → ByteArray → Option (Bool)
 | 0,_,_,_,_,_,_,_,_ => none
 | k + 1,x120000,x120001,x120002,x120003,x121000,x121001,x121002,x121003 => if (x120000 == x121000 && (x120001 == x121001 && (x120002 == x121002 && (x120003.toList == x121003.toList)))) = true then (if (x120003.size : Int) ≤ 256 then (if x120003.size < 140737488355328 then ((chars_Wrong.f k (bytesOf x120003)).bind fun t121 => (some (decide (t121 < 0)))) else (none)) else (some false)) else (some false)
def value_Can.f (k : Nat) (a0_0 : Int) (a0_1 : Int) (a0_2 : Bool) (a0_3 : ByteArray) : Option (Bool) := if a0_0 = 0 then (value_Can.j0 k a0_0 a0_1 a0_2 a0_3 a0_0 0 false (⟨#[]⟩ : ByteArray)) else (if a0_0 = 1 then (value_Can.j0 k a0_0 a0_1 a0_2 a0_3 a0_0 a0_1 false (⟨#[]⟩ : ByteArray)) else (if a0_0 = 2 then (value_Can.j0 k a0_0 a0_1 a0_2 a0_3 a0_0 0 a0_2 (⟨#[]⟩ : ByteArray)) else (if a0_0 = 3 then (value_Can.j0 k a0_0 a0_1 a0_2 a0_3 a0_0 0 false a0_3) else (some false))))
set_option maxHeartbeats 8000000 in
set_option maxRecDepth 100000 in
theorem value_Can.calls (k : Nat) (a0_0 : Int) (a0_1 : Int) (a0_2 : Bool) (a0_3 : ByteArray) (r : Bool) (w : World) (hL_ : Laid w) (h : value_Can.f k a0_0 a0_1 a0_2 a0_3 = some r) :
 Calls Tryz.prog 12 #[.agg #[.int .i64 a0_0,.int .i64 a0_1,.bool a0_2,.string a0_3]] w fun e w' => e = .returned (.bool r) ∧ Below w.heap.size w w' := by
 have hu23 := Tryz.underlying23
 have HB := Aside0.mk (Below.refl w.heap.size w)
 have HLd := Aside0.mk hL_
 clear hL_
 have H : (if a0_0 = 0 then (value_Can.j0 k a0_0 a0_1 a0_2 a0_3 a0_0 0 false (⟨#[]⟩ : ByteArray)) else (if a0_0 = 1 then (value_Can.j0 k a0_0 a0_1 a0_2 a0_3 a0_0 a0_1 false (⟨#[]⟩ : ByteArray)) else (if a0_0 = 2 then (value_Can.j0 k a0_0 a0_1 a0_2 a0_3 a0_0 0 a0_2 (⟨#[]⟩ : ByteArray)) else (if a0_0 = 3 then (value_Can.j0 k a0_0 a0_1 a0_2 a0_3 a0_0 0 false a0_3) else (some false))))) = some r := h
 clear h
 have HC2 := Aside0.mk H
 clear H
 go_enter Tryz.func12,Tryz.ntmps12
 go_upto_block 0 with (first | ((with_reducible refine gate_dst (N := 1) rfl ?_); (try (refine gate_guard (by rfl) ?_; dsimp only)); refine box_event ?hg (N := 1) ?hd (cs := #[.int .i64 a0_0,.int .i64 a0_1,.bool a0_2,.string a0_3]) (t := 23) ?hr ?_; (case hd => rfl); (case hg => rfl); (case hr => first | (go_simp; done) | (go_simp; rfl)); intro gb119 hg w3 hbox hb; have n0_ := Aside0.mk (below_step (by repeat (first | (with_reducible first | exact HB.out | apply below_alloc | apply pw_below_drewN | apply below_drew1 | apply bytes_below1) | exact HB.out)) hb); have n1_ := Aside0.mk (hbox); have n2_ := Aside0.mk ((by rw [hg]; exact (below_size (by repeat (first | (with_reducible first | exact HB.out | apply below_alloc | apply pw_below_drewN | apply below_drew1 | apply bytes_below1) | exact HB.out))) : w.heap.size ≤ gb119)); have n3_ := Aside0.mk ((by rw [hg]; exact (below_size (by repeat (first | (with_reducible first | exact HB.out | apply below_alloc | apply pw_below_drewN | apply below_drew1 | apply bytes_below1) | exact HB.out))) : w.heap.size ≤ gb119)); clear HB; have HB := n0_; have BK119 := n1_; have GW119 := n2_; have GE119 := n3_; clear n0_ n1_ n2_ n3_; clear hb hbox hg; have hcz4_0 : w3.cell? ⟨gb119,0,none⟩ = some (.int .i64 a0_0) := (blk_cell BK119.out 0).trans rfl; have hcz4_1 : w3.cell? ⟨gb119,1,none⟩ = some (.int .i64 a0_1) := (blk_cell BK119.out 1).trans rfl; have hcz4_2 : w3.cell? ⟨gb119,2,none⟩ = some (.bool a0_2) := (blk_cell BK119.out 2).trans rfl; have hcz4_3 : w3.cell? ⟨gb119,3,none⟩ = some (.string a0_3) := (blk_cell BK119.out 3).trans rfl; have hfz4_0 := blk_frozen BK119.out 0; have hfz4_1 := blk_frozen BK119.out 1; have hfz4_2 := blk_frozen BK119.out 2; have hfz4_3 := blk_frozen BK119.out 3) | ((with_reducible refine gate_dst (N := 3) rfl ?_); (try (refine gate_guard (by rfl) ?_; dsimp only)); refine box_event ?hg (N := 3) ?hd (cs := #[.int .i64 0,.int .i64 0,.bool false,.string (⟨#[]⟩ : ByteArray)]) (t := 23) ?hr ?_; (case hd => rfl); (case hg => rfl); (case hr => first | (go_simp; done) | (go_simp; rfl)); intro gb120 hg w5 hbox hb; have n0_ := Aside0.mk (blk_below (g := gb119) (o := .cells #[.int .i64 a0_0,.int .i64 a0_1,.bool a0_2,.string a0_3] 23 (0,0)) (by (with_reducible repeat (first | refine blk_bytes ?_ _ _ | refine blk_drewN ?_ _ | refine blk_drew ?_ | refine blk_alloc ?_ _)); exact BK119.out) hb); have n1_ := Aside0.mk (below_step (by repeat (first | (with_reducible first | exact HB.out | apply below_alloc | apply pw_below_drewN | apply below_drew1 | apply bytes_below1 | refine below_set ?_ GE119.out) | exact HB.out)) hb); have n2_ := Aside0.mk (hbox); have n3_ := Aside0.mk ((by rw [hg]; exact (below_size (by repeat (first | (with_reducible first | exact HB.out | apply below_alloc | apply pw_below_drewN | apply below_drew1 | apply bytes_below1 | refine below_set ?_ GE119.out) | exact HB.out))) : w.heap.size ≤ gb120)); have n4_ := Aside0.mk ((by rw [hg]; exact (below_size (by repeat (first | (with_reducible first | exact HB.out | apply below_alloc | apply pw_below_drewN | apply below_drew1 | apply bytes_below1 | refine below_set ?_ GE119.out) | exact HB.out))) : w.heap.size ≤ gb120)); have n5_ := Aside0.mk ((by rw [hg]; exact Nat.ne_of_lt (blk_lt (g := gb119) (o := .cells #[.int .i64 a0_0,.int .i64 a0_1,.bool a0_2,.string a0_3] 23 (0,0)) (by (with_reducible repeat (first | refine blk_bytes ?_ _ _ | refine blk_drewN ?_ _ | refine blk_drew ?_ | refine blk_alloc ?_ _)); exact BK119.out)) : gb119 ≠ gb120)); have n6_ := Aside0.mk ((by rw [hg]; exact Nat.ne_of_gt (blk_lt (g := gb119) (o := .cells #[.int .i64 a0_0,.int .i64 a0_1,.bool a0_2,.string a0_3] 23 (0,0)) (by (with_reducible repeat (first | refine blk_bytes ?_ _ _ | refine blk_drewN ?_ _ | refine blk_drew ?_ | refine blk_alloc ?_ _)); exact BK119.out)) : gb120 ≠ gb119)); clear BK119; clear HB; have BK119 := n0_; have HB := n1_; have BK120 := n2_; have GW120 := n3_; have GE120 := n4_; have NB119_120 := n5_; have NB120_119 := n6_; clear n0_ n1_ n2_ n3_ n4_ n5_ n6_; clear hb hbox hg; have hnb6 := NB120_119.out; have hnc6 := NB119_120.out; have hcz7_0 : w5.cell? ⟨gb120,0,none⟩ = some (.int .i64 0) := (blk_cell BK120.out 0).trans rfl; have hcz7_1 : w5.cell? ⟨gb120,1,none⟩ = some (.int .i64 0) := (blk_cell BK120.out 1).trans rfl; have hcz7_2 : w5.cell? ⟨gb120,2,none⟩ = some (.bool false) := (blk_cell BK120.out 2).trans rfl; have hcz7_3 : w5.cell? ⟨gb120,3,none⟩ = some (.string (⟨#[]⟩ : ByteArray)) := (blk_cell BK120.out 3).trans rfl; have hfz7_0 := blk_frozen BK120.out 0; have hfz7_1 := blk_frozen BK120.out 1; have hfz7_2 := blk_frozen BK120.out 2; have hfz7_3 := blk_frozen BK120.out 3; have hcz8_0 : w5.cell? ⟨gb119,0,none⟩ = some (.int .i64 a0_0) := (blk_cell BK119.out 0).trans rfl; have hcz8_1 : w5.cell? ⟨gb119,1,none⟩ = some (.int .i64 a0_1) := (blk_cell BK119.out 1).trans rfl; have hcz8_2 : w5.cell? ⟨gb119,2,none⟩ = some (.bool a0_2) := (blk_cell BK119.out 2).trans rfl; have hcz8_3 : w5.cell? ⟨gb119,3,none⟩ = some (.string a0_3) := (blk_cell BK119.out 3).trans rfl; have hfz8_0 := blk_frozen BK119.out 0; have hfz8_1 := blk_frozen BK119.out 1; have hfz8_2 := blk_frozen BK119.out 2; have hfz8_3 := blk_frozen BK119.out 3))
 (try simp only [Act.put,List.setIfInBounds_toArray,List.set_cons_zero,List.set_cons_succ])
 go_cut [] (fun wc => ∃ (kq : Nat) (x121001_1 : Int) (x121002_1 : Bool) (x121003_1 : ByteArray),Aside0 (value_Can.j0 kq a0_0 a0_1 a0_2 a0_3 a0_0 x121001_1 x121002_1 x121003_1 = some r) ∧ Aside0 (kq ≤ k) ∧ Aside0 (wc.heap[gb119]? = some (.cells #[.int .i64 a0_0,.int .i64 a0_1,.bool a0_2,.string a0_3] 23 (0,0))) ∧ Aside0 (wc.heap[gb120]? = some (.cells #[.int .i64 a0_0,.int .i64 x121001_1,.bool x121002_1,.string x121003_1] 23 (0,0))) ∧ Aside0 (Below w.heap.size w wc))
 case first =>
  have H := HC2.out
  clear HC2
  by_cases c9 : a0_0 = 0
  · rw [if_pos c9] at H
    have c9b0 : (a0_0 == 0) = true := beq_iff_eq.mpr c9
    have c9b1 : (a0_0 != 0) = false := bne_eq_false_iff_eq.mpr c9
    clear c9
    (first | rw [c9b0] | (simp only [i64_w,i32_w]; rw [c9b0]) | skip)
    have H' := Aside0.mk H
    clear H
    go_wp2
    go_meet
    case rel => exact ⟨_,(0),(false),((⟨#[]⟩ : ByteArray)),H',⟨by first | omega | exact Nat.le_refl _⟩,⟨by (with_reducible repeat (first | refine blk_bytes ?_ _ _ | refine blk_drewN ?_ _ | refine blk_drew ?_ | refine blk_alloc ?_ _)); refine blk_far ?_ NB119_120.out _; (with_reducible repeat (first | refine blk_bytes ?_ _ _ | refine blk_drewN ?_ _ | refine blk_drew ?_ | refine blk_alloc ?_ _)); refine blk_far ?_ NB119_120.out _; (with_reducible repeat (first | refine blk_bytes ?_ _ _ | refine blk_drewN ?_ _ | refine blk_drew ?_ | refine blk_alloc ?_ _)); refine blk_far ?_ NB119_120.out _; (with_reducible repeat (first | refine blk_bytes ?_ _ _ | refine blk_drewN ?_ _ | refine blk_drew ?_ | refine blk_alloc ?_ _)); refine blk_far ?_ NB119_120.out _; (with_reducible repeat (first | refine blk_bytes ?_ _ _ | refine blk_drewN ?_ _ | refine blk_drew ?_ | refine blk_alloc ?_ _)); exact BK119.out⟩,⟨by (with_reducible repeat (first | refine blk_bytes ?_ _ _ | refine blk_drewN ?_ _ | refine blk_drew ?_ | refine blk_alloc ?_ _)); refine blk_put (cs := #[.int .i64 a0_0,.int .i64 0,.bool false,.string (⟨#[]⟩ : ByteArray)]) ?_ 3 _ rfl; (with_reducible repeat (first | refine blk_bytes ?_ _ _ | refine blk_drewN ?_ _ | refine blk_drew ?_ | refine blk_alloc ?_ _)); refine blk_put (cs := #[.int .i64 a0_0,.int .i64 0,.bool false,.string (⟨#[]⟩ : ByteArray)]) ?_ 2 _ rfl; (with_reducible repeat (first | refine blk_bytes ?_ _ _ | refine blk_drewN ?_ _ | refine blk_drew ?_ | refine blk_alloc ?_ _)); refine blk_put (cs := #[.int .i64 a0_0,.int .i64 0,.bool false,.string (⟨#[]⟩ : ByteArray)]) ?_ 1 _ rfl; (with_reducible repeat (first | refine blk_bytes ?_ _ _ | refine blk_drewN ?_ _ | refine blk_drew ?_ | refine blk_alloc ?_ _)); refine blk_put (cs := #[.int .i64 0,.int .i64 0,.bool false,.string (⟨#[]⟩ : ByteArray)]) ?_ 0 _ rfl; (with_reducible repeat (first | refine blk_bytes ?_ _ _ | refine blk_drewN ?_ _ | refine blk_drew ?_ | refine blk_alloc ?_ _)); exact BK120.out⟩,⟨by repeat (first | (with_reducible first | exact HB.out | apply below_alloc | apply pw_below_drewN | apply below_drew1 | apply bytes_below1 | refine below_set ?_ GE119.out | refine below_set ?_ GE120.out) | exact HB.out)⟩⟩
  · rw [if_neg c9] at H
    have c9b0 : (a0_0 == 0) = false := beq_eq_false_iff_ne.mpr c9
    have c9b1 : (a0_0 != 0) = true := bne_iff_ne.mpr c9
    (first | rw [c9b0] | (simp only [i64_w,i32_w]; rw [c9b0]) | skip)
    by_cases c10 : a0_0 = 1
    · rw [if_pos c10] at H
      have c10b0 : (a0_0 == 1) = true := beq_iff_eq.mpr c10
      have c10b1 : (a0_0 != 1) = false := bne_eq_false_iff_eq.mpr c10
      clear c10
      have H' := Aside0.mk H
      clear H
      have hnb11 := NB119_120.out
      have hnc11 := NB120_119.out
      have hcz12_0 : w5.cell? ⟨gb119,0,none⟩ = some (.int .i64 a0_0) := (blk_cell BK119.out 0).trans rfl
      have hcz12_1 : w5.cell? ⟨gb119,1,none⟩ = some (.int .i64 a0_1) := (blk_cell BK119.out 1).trans rfl
      have hcz12_2 : w5.cell? ⟨gb119,2,none⟩ = some (.bool a0_2) := (blk_cell BK119.out 2).trans rfl
      have hcz12_3 : w5.cell? ⟨gb119,3,none⟩ = some (.string a0_3) := (blk_cell BK119.out 3).trans rfl
      have hfz12_0 := blk_frozen BK119.out 0
      have hfz12_1 := blk_frozen BK119.out 1
      have hfz12_2 := blk_frozen BK119.out 2
      have hfz12_3 := blk_frozen BK119.out 3
      have hcz13_0 : w5.cell? ⟨gb120,0,none⟩ = some (.int .i64 0) := (blk_cell BK120.out 0).trans rfl
      have hcz13_1 : w5.cell? ⟨gb120,1,none⟩ = some (.int .i64 0) := (blk_cell BK120.out 1).trans rfl
      have hcz13_2 : w5.cell? ⟨gb120,2,none⟩ = some (.bool false) := (blk_cell BK120.out 2).trans rfl
      have hcz13_3 : w5.cell? ⟨gb120,3,none⟩ = some (.string (⟨#[]⟩ : ByteArray)) := (blk_cell BK120.out 3).trans rfl
      have hfz13_0 := blk_frozen BK120.out 0
      have hfz13_1 := blk_frozen BK120.out 1
      have hfz13_2 := blk_frozen BK120.out 2
      have hfz13_3 := blk_frozen BK120.out 3
      go_wp2
      go_meet
      case rel => exact ⟨_,(a0_1),(false),((⟨#[]⟩ : ByteArray)),H',⟨by first | omega | exact Nat.le_refl _⟩,⟨by (with_reducible repeat (first | refine blk_bytes ?_ _ _ | refine blk_drewN ?_ _ | refine blk_drew ?_ | refine blk_alloc ?_ _)); refine blk_far ?_ NB119_120.out _; (with_reducible repeat (first | refine blk_bytes ?_ _ _ | refine blk_drewN ?_ _ | refine blk_drew ?_ | refine blk_alloc ?_ _)); refine blk_far ?_ NB119_120.out _; (with_reducible repeat (first | refine blk_bytes ?_ _ _ | refine blk_drewN ?_ _ | refine blk_drew ?_ | refine blk_alloc ?_ _)); refine blk_far ?_ NB119_120.out _; (with_reducible repeat (first | refine blk_bytes ?_ _ _ | refine blk_drewN ?_ _ | refine blk_drew ?_ | refine blk_alloc ?_ _)); refine blk_far ?_ NB119_120.out _; (with_reducible repeat (first | refine blk_bytes ?_ _ _ | refine blk_drewN ?_ _ | refine blk_drew ?_ | refine blk_alloc ?_ _)); refine blk_far ?_ NB119_120.out _; (with_reducible repeat (first | refine blk_bytes ?_ _ _ | refine blk_drewN ?_ _ | refine blk_drew ?_ | refine blk_alloc ?_ _)); exact BK119.out⟩,⟨by (with_reducible repeat (first | refine blk_bytes ?_ _ _ | refine blk_drewN ?_ _ | refine blk_drew ?_ | refine blk_alloc ?_ _)); refine blk_put (cs := #[.int .i64 a0_0,.int .i64 0,.bool false,.string (⟨#[]⟩ : ByteArray)]) ?_ 1 _ rfl; (with_reducible repeat (first | refine blk_bytes ?_ _ _ | refine blk_drewN ?_ _ | refine blk_drew ?_ | refine blk_alloc ?_ _)); refine blk_put (cs := #[.int .i64 a0_0,.int .i64 0,.bool false,.string (⟨#[]⟩ : ByteArray)]) ?_ 3 _ rfl; (with_reducible repeat (first | refine blk_bytes ?_ _ _ | refine blk_drewN ?_ _ | refine blk_drew ?_ | refine blk_alloc ?_ _)); refine blk_put (cs := #[.int .i64 a0_0,.int .i64 0,.bool false,.string (⟨#[]⟩ : ByteArray)]) ?_ 2 _ rfl; (with_reducible repeat (first | refine blk_bytes ?_ _ _ | refine blk_drewN ?_ _ | refine blk_drew ?_ | refine blk_alloc ?_ _)); refine blk_put (cs := #[.int .i64 a0_0,.int .i64 0,.bool false,.string (⟨#[]⟩ : ByteArray)]) ?_ 1 _ rfl; (with_reducible repeat (first | refine blk_bytes ?_ _ _ | refine blk_drewN ?_ _ | refine blk_drew ?_ | refine blk_alloc ?_ _)); refine blk_put (cs := #[.int .i64 0,.int .i64 0,.bool false,.string (⟨#[]⟩ : ByteArray)]) ?_ 0 _ rfl; (with_reducible repeat (first | refine blk_bytes ?_ _ _ | refine blk_drewN ?_ _ | refine blk_drew ?_ | refine blk_alloc ?_ _)); exact BK120.out⟩,⟨by repeat (first | (with_reducible first | exact HB.out | apply below_alloc | apply pw_below_drewN | apply below_drew1 | apply bytes_below1 | refine below_set ?_ GE119.out | refine below_set ?_ GE120.out) | exact HB.out)⟩⟩
    · rw [if_neg c10] at H
      have c10b0 : (a0_0 == 1) = false := beq_eq_false_iff_ne.mpr c10
      have c10b1 : (a0_0 != 1) = true := bne_iff_ne.mpr c10
      by_cases c14 : a0_0 = 2
      · rw [if_pos c14] at H
        have c14b0 : (a0_0 == 2) = true := beq_iff_eq.mpr c14
        have c14b1 : (a0_0 != 2) = false := bne_eq_false_iff_eq.mpr c14
        clear c14
        have H' := Aside0.mk H
        clear H
        have hnb15 := NB119_120.out
        have hnc15 := NB120_119.out
        have hcz16_0 : w5.cell? ⟨gb119,0,none⟩ = some (.int .i64 a0_0) := (blk_cell BK119.out 0).trans rfl
        have hcz16_1 : w5.cell? ⟨gb119,1,none⟩ = some (.int .i64 a0_1) := (blk_cell BK119.out 1).trans rfl
        have hcz16_2 : w5.cell? ⟨gb119,2,none⟩ = some (.bool a0_2) := (blk_cell BK119.out 2).trans rfl
        have hcz16_3 : w5.cell? ⟨gb119,3,none⟩ = some (.string a0_3) := (blk_cell BK119.out 3).trans rfl
        have hfz16_0 := blk_frozen BK119.out 0
        have hfz16_1 := blk_frozen BK119.out 1
        have hfz16_2 := blk_frozen BK119.out 2
        have hfz16_3 := blk_frozen BK119.out 3
        have hcz17_0 : w5.cell? ⟨gb120,0,none⟩ = some (.int .i64 0) := (blk_cell BK120.out 0).trans rfl
        have hcz17_1 : w5.cell? ⟨gb120,1,none⟩ = some (.int .i64 0) := (blk_cell BK120.out 1).trans rfl
        have hcz17_2 : w5.cell? ⟨gb120,2,none⟩ = some (.bool false) := (blk_cell BK120.out 2).trans rfl
        have hcz17_3 : w5.cell? ⟨gb120,3,none⟩ = some (.string (⟨#[]⟩ : ByteArray)) := (blk_cell BK120.out 3).trans rfl
        have hfz17_0 := blk_frozen BK120.out 0
        have hfz17_1 := blk_frozen BK120.out 1
        have hfz17_2 := blk_frozen BK120.out 2
        have hfz17_3 := blk_frozen BK120.out 3
        go_wp2
        go_meet
        case rel => exact ⟨_,(0),(a0_2),((⟨#[]⟩ : ByteArray)),H',⟨by first | omega | exact Nat.le_refl _⟩,⟨by (with_reducible repeat (first | refine blk_bytes ?_ _ _ | refine blk_drewN ?_ _ | refine blk_drew ?_ | refine blk_alloc ?_ _)); refine blk_far ?_ NB119_120.out _; (with_reducible repeat (first | refine blk_bytes ?_ _ _ | refine blk_drewN ?_ _ | refine blk_drew ?_ | refine blk_alloc ?_ _)); refine blk_far ?_ NB119_120.out _; (with_reducible repeat (first | refine blk_bytes ?_ _ _ | refine blk_drewN ?_ _ | refine blk_drew ?_ | refine blk_alloc ?_ _)); refine blk_far ?_ NB119_120.out _; (with_reducible repeat (first | refine blk_bytes ?_ _ _ | refine blk_drewN ?_ _ | refine blk_drew ?_ | refine blk_alloc ?_ _)); refine blk_far ?_ NB119_120.out _; (with_reducible repeat (first | refine blk_bytes ?_ _ _ | refine blk_drewN ?_ _ | refine blk_drew ?_ | refine blk_alloc ?_ _)); refine blk_far ?_ NB119_120.out _; (with_reducible repeat (first | refine blk_bytes ?_ _ _ | refine blk_drewN ?_ _ | refine blk_drew ?_ | refine blk_alloc ?_ _)); exact BK119.out⟩,⟨by (with_reducible repeat (first | refine blk_bytes ?_ _ _ | refine blk_drewN ?_ _ | refine blk_drew ?_ | refine blk_alloc ?_ _)); refine blk_put (cs := #[.int .i64 a0_0,.int .i64 0,.bool false,.string (⟨#[]⟩ : ByteArray)]) ?_ 2 _ rfl; (with_reducible repeat (first | refine blk_bytes ?_ _ _ | refine blk_drewN ?_ _ | refine blk_drew ?_ | refine blk_alloc ?_ _)); refine blk_put (cs := #[.int .i64 a0_0,.int .i64 0,.bool false,.string (⟨#[]⟩ : ByteArray)]) ?_ 3 _ rfl; (with_reducible repeat (first | refine blk_bytes ?_ _ _ | refine blk_drewN ?_ _ | refine blk_drew ?_ | refine blk_alloc ?_ _)); refine blk_put (cs := #[.int .i64 a0_0,.int .i64 0,.bool false,.string (⟨#[]⟩ : ByteArray)]) ?_ 2 _ rfl; (with_reducible repeat (first | refine blk_bytes ?_ _ _ | refine blk_drewN ?_ _ | refine blk_drew ?_ | refine blk_alloc ?_ _)); refine blk_put (cs := #[.int .i64 a0_0,.int .i64 0,.bool false,.string (⟨#[]⟩ : ByteArray)]) ?_ 1 _ rfl; (with_reducible repeat (first | refine blk_bytes ?_ _ _ | refine blk_drewN ?_ _ | refine blk_drew ?_ | refine blk_alloc ?_ _)); refine blk_put (cs := #[.int .i64 0,.int .i64 0,.bool false,.string (⟨#[]⟩ : ByteArray)]) ?_ 0 _ rfl; (with_reducible repeat (first | refine blk_bytes ?_ _ _ | refine blk_drewN ?_ _ | refine blk_drew ?_ | refine blk_alloc ?_ _)); exact BK120.out⟩,⟨by repeat (first | (with_reducible first | exact HB.out | apply below_alloc | apply pw_below_drewN | apply below_drew1 | apply bytes_below1 | refine below_set ?_ GE119.out | refine below_set ?_ GE120.out) | exact HB.out)⟩⟩
      · rw [if_neg c14] at H
        have c14b0 : (a0_0 == 2) = false := beq_eq_false_iff_ne.mpr c14
        have c14b1 : (a0_0 != 2) = true := bne_iff_ne.mpr c14
        by_cases c18 : a0_0 = 3
        · rw [if_pos c18] at H
          have c18b0 : (a0_0 == 3) = true := beq_iff_eq.mpr c18
          have c18b1 : (a0_0 != 3) = false := bne_eq_false_iff_eq.mpr c18
          clear c18
          have H' := Aside0.mk H
          clear H
          have hnb19 := NB119_120.out
          have hnc19 := NB120_119.out
          have hcz20_0 : w5.cell? ⟨gb119,0,none⟩ = some (.int .i64 a0_0) := (blk_cell BK119.out 0).trans rfl
          have hcz20_1 : w5.cell? ⟨gb119,1,none⟩ = some (.int .i64 a0_1) := (blk_cell BK119.out 1).trans rfl
          have hcz20_2 : w5.cell? ⟨gb119,2,none⟩ = some (.bool a0_2) := (blk_cell BK119.out 2).trans rfl
          have hcz20_3 : w5.cell? ⟨gb119,3,none⟩ = some (.string a0_3) := (blk_cell BK119.out 3).trans rfl
          have hfz20_0 := blk_frozen BK119.out 0
          have hfz20_1 := blk_frozen BK119.out 1
          have hfz20_2 := blk_frozen BK119.out 2
          have hfz20_3 := blk_frozen BK119.out 3
          have hcz21_0 : w5.cell? ⟨gb120,0,none⟩ = some (.int .i64 0) := (blk_cell BK120.out 0).trans rfl
          have hcz21_1 : w5.cell? ⟨gb120,1,none⟩ = some (.int .i64 0) := (blk_cell BK120.out 1).trans rfl
          have hcz21_2 : w5.cell? ⟨gb120,2,none⟩ = some (.bool false) := (blk_cell BK120.out 2).trans rfl
          have hcz21_3 : w5.cell? ⟨gb120,3,none⟩ = some (.string (⟨#[]⟩ : ByteArray)) := (blk_cell BK120.out 3).trans rfl
          have hfz21_0 := blk_frozen BK120.out 0
          have hfz21_1 := blk_frozen BK120.out 1
          have hfz21_2 := blk_frozen BK120.out 2
          have hfz21_3 := blk_frozen BK120.out 3
          go_wp2
          go_meet
          case rel => exact ⟨_,(0),(false),(a0_3),H',⟨by first | omega | exact Nat.le_refl _⟩,⟨by (with_reducible repeat (first | refine blk_bytes ?_ _ _ | refine blk_drewN ?_ _ | refine blk_drew ?_ | refine blk_alloc ?_ _)); refine blk_far ?_ NB119_120.out _; (with_reducible repeat (first | refine blk_bytes ?_ _ _ | refine blk_drewN ?_ _ | refine blk_drew ?_ | refine blk_alloc ?_ _)); refine blk_far ?_ NB119_120.out _; (with_reducible repeat (first | refine blk_bytes ?_ _ _ | refine blk_drewN ?_ _ | refine blk_drew ?_ | refine blk_alloc ?_ _)); refine blk_far ?_ NB119_120.out _; (with_reducible repeat (first | refine blk_bytes ?_ _ _ | refine blk_drewN ?_ _ | refine blk_drew ?_ | refine blk_alloc ?_ _)); refine blk_far ?_ NB119_120.out _; (with_reducible repeat (first | refine blk_bytes ?_ _ _ | refine blk_drewN ?_ _ | refine blk_drew ?_ | refine blk_alloc ?_ _)); refine blk_far ?_ NB119_120.out _; (with_reducible repeat (first | refine blk_bytes ?_ _ _ | refine blk_drewN ?_ _ | refine blk_drew ?_ | refine blk_alloc ?_ _)); exact BK119.out⟩,⟨by (with_reducible repeat (first | refine blk_bytes ?_ _ _ | refine blk_drewN ?_ _ | refine blk_drew ?_ | refine blk_alloc ?_ _)); refine blk_put (cs := #[.int .i64 a0_0,.int .i64 0,.bool false,.string (⟨#[]⟩ : ByteArray)]) ?_ 3 _ rfl; (with_reducible repeat (first | refine blk_bytes ?_ _ _ | refine blk_drewN ?_ _ | refine blk_drew ?_ | refine blk_alloc ?_ _)); refine blk_put (cs := #[.int .i64 a0_0,.int .i64 0,.bool false,.string (⟨#[]⟩ : ByteArray)]) ?_ 3 _ rfl; (with_reducible repeat (first | refine blk_bytes ?_ _ _ | refine blk_drewN ?_ _ | refine blk_drew ?_ | refine blk_alloc ?_ _)); refine blk_put (cs := #[.int .i64 a0_0,.int .i64 0,.bool false,.string (⟨#[]⟩ : ByteArray)]) ?_ 2 _ rfl; (with_reducible repeat (first | refine blk_bytes ?_ _ _ | refine blk_drewN ?_ _ | refine blk_drew ?_ | refine blk_alloc ?_ _)); refine blk_put (cs := #[.int .i64 a0_0,.int .i64 0,.bool false,.string (⟨#[]⟩ : ByteArray)]) ?_ 1 _ rfl; (with_reducible repeat (first | refine blk_bytes ?_ _ _ | refine blk_drewN ?_ _ | refine blk_drew ?_ | refine blk_alloc ?_ _)); refine blk_put (cs := #[.int .i64 0,.int .i64 0,.bool false,.string (⟨#[]⟩ : ByteArray)]) ?_ 0 _ rfl; (with_reducible repeat (first | refine blk_bytes ?_ _ _ | refine blk_drewN ?_ _ | refine blk_drew ?_ | refine blk_alloc ?_ _)); exact BK120.out⟩,⟨by repeat (first | (with_reducible first | exact HB.out | apply below_alloc | apply pw_below_drewN | apply below_drew1 | apply bytes_below1 | refine below_set ?_ GE119.out | refine below_set ?_ GE120.out) | exact HB.out)⟩⟩
        · rw [if_neg c18] at H
          have c18b0 : (a0_0 == 3) = false := beq_eq_false_iff_ne.mpr c18
          have c18b1 : (a0_0 != 3) = true := bne_iff_ne.mpr c18
          obtain rfl := Option.some.inj H
          go_wp2
          go_ret
          exact ⟨by first | rfl | (simp [errW_none,errW_some] <;> rfl) | (simp [*,errW_none,errW_some] <;> rfl),by repeat (first | (with_reducible first | exact HB.out | apply below_alloc | apply pw_below_drewN | apply below_drew1 | apply bytes_below1 | refine below_set ?_ GE119.out | refine below_set ?_ GE120.out) | exact HB.out)⟩
 case rest =>
  clear HC2
  try clear c1
  try clear p2
  try clear c6
  try clear c9
  try clear c9b0
  try clear c9b1
  try clear c10
  try clear c10b0
  try clear c10b1
  try clear c11
  try clear c12
  try clear c14
  try clear c14b0
  try clear c14b1
  try clear c15
  try clear c18
  try clear c18b0
  try clear c18b1
  try clear c19
  try clear hcz12_0
  try clear hcz12_1
  try clear hcz12_2
  try clear hcz12_3
  try clear hcz13_0
  try clear hcz13_1
  try clear hcz13_2
  try clear hcz13_3
  try clear hcz16_0
  try clear hcz16_1
  try clear hcz16_2
  try clear hcz16_3
  try clear hcz17_0
  try clear hcz17_1
  try clear hcz17_2
  try clear hcz17_3
  try clear hcz20_0
  try clear hcz20_1
  try clear hcz20_2
  try clear hcz20_3
  try clear hcz21_0
  try clear hcz21_1
  try clear hcz21_2
  try clear hcz21_3
  try clear hcz4_0
  try clear hcz4_1
  try clear hcz4_2
  try clear hcz4_3
  try clear hcz7_0
  try clear hcz7_1
  try clear hcz7_2
  try clear hcz7_3
  try clear hcz8_0
  try clear hcz8_1
  try clear hcz8_2
  try clear hcz8_3
  try clear hfz12_0
  try clear hfz12_1
  try clear hfz12_2
  try clear hfz12_3
  try clear hfz13_0
  try clear hfz13_1
  try clear hfz13_2
  try clear hfz13_3
  try clear hfz16_0
  try clear hfz16_1
  try clear hfz16_2
  try clear hfz16_3
  try clear hfz17_0
  try clear hfz17_1
  try clear hfz17_2
  try clear hfz17_3
  try clear hfz20_0
  try clear hfz20_1
  try clear hfz20_2
  try clear hfz20_3
  try clear hfz21_0
  try clear hfz21_1
  try clear hfz21_2
  try clear hfz21_3
  try clear hfz4_0
  try clear hfz4_1
  try clear hfz4_2
  try clear hfz4_3
  try clear hfz7_0
  try clear hfz7_1
  try clear hfz7_2
  try clear hfz7_3
  try clear hfz8_0
  try clear hfz8_1
  try clear hfz8_2
  try clear hfz8_3
  obtain ⟨kq,x121001_1,x121002_1,x121003_1,HA,HJ1,BK119,BK120,HB⟩ := hcut
  cases kq with
  | zero => exact absurd HA.out (by simp [value_Can.j0])
  | succ kj1 =>
   have H := HA.out
   clear HA
   simp only [value_Can.j0] at H
   by_cases c22 : (a0_0 == a0_0 && (a0_1 == x121001_1 && (a0_2 == x121002_1 && (a0_3.toList == x121003_1.toList)))) = true
   · rw [if_pos c22] at H
     have c22b0 : (a0_0 == a0_0 && (a0_1 == x121001_1 && (a0_2 == x121002_1 && (a0_3.toList == x121003_1.toList)))) = true := c22
     (try (have c22b1 : decide (a0_0 = a0_0 && (a0_1 == x121001_1 && (a0_2 == x121002_1 && (a0_3.toList == x121003_1.toList)))) = true := by simpa using c22))
     (try (have c22b2 : (a0_0 == a0_0 && (a0_1 == x121001_1 && (a0_2 == x121002_1 && (a0_3.toList == x121003_1.toList)))) = true := by simpa using c22))
     (try simp only [beq_self_eq_true,bne_self_eq_false,Bool.true_and,Bool.and_true,Bool.false_or,Bool.or_false] at c22b0)
     clear c22
     by_cases c23 : (a0_3.size : Int) ≤ 256
     · rw [if_pos c23] at H
       have c23b0 : decide ((a0_3.size : Int) ≤ 256) = true := decide_eq_true c23
       have c23b1 : decide (a0_3.size ≤ 256) = true := decide_eq_true (by omega)
       clear c23
       by_cases c24 : a0_3.size < 140737488355328
       · rw [if_pos c24] at H
         have LMc24 := Aside0.mk c24
         clear c24
         replace H := Option.bind_eq_some_iff.mp H
         obtain ⟨t121,A250,H⟩ := H
         replace H : (some (decide (t121 < 0))) = some r := H
         have A25 := Aside0.mk A250
         clear A250
         obtain rfl := Option.some.inj H
         have hnb26 := NB119_120.out
         have hnc26 := NB120_119.out
         have hcz27_0 : wc.cell? ⟨gb119,0,none⟩ = some (.int .i64 a0_0) := (blk_cell BK119.out 0).trans rfl
         have hcz27_1 : wc.cell? ⟨gb119,1,none⟩ = some (.int .i64 a0_1) := (blk_cell BK119.out 1).trans rfl
         have hcz27_2 : wc.cell? ⟨gb119,2,none⟩ = some (.bool a0_2) := (blk_cell BK119.out 2).trans rfl
         have hcz27_3 : wc.cell? ⟨gb119,3,none⟩ = some (.string a0_3) := (blk_cell BK119.out 3).trans rfl
         have hfz27_0 := blk_frozen BK119.out 0
         have hfz27_1 := blk_frozen BK119.out 1
         have hfz27_2 := blk_frozen BK119.out 2
         have hfz27_3 := blk_frozen BK119.out 3
         have hcz28_0 : wc.cell? ⟨gb120,0,none⟩ = some (.int .i64 a0_0) := (blk_cell BK120.out 0).trans rfl
         have hcz28_1 : wc.cell? ⟨gb120,1,none⟩ = some (.int .i64 x121001_1) := (blk_cell BK120.out 1).trans rfl
         have hcz28_2 : wc.cell? ⟨gb120,2,none⟩ = some (.bool x121002_1) := (blk_cell BK120.out 2).trans rfl
         have hcz28_3 : wc.cell? ⟨gb120,3,none⟩ = some (.string x121003_1) := (blk_cell BK120.out 3).trans rfl
         have hfz28_0 := blk_frozen BK120.out 0
         have hfz28_1 := blk_frozen BK120.out 1
         have hfz28_2 := blk_frozen BK120.out 2
         have hfz28_3 := blk_frozen BK120.out 3
         have kb29 := fun W => print_bytes (P := Tryz.prog) 9 24 5 Tryz.underlying9 Tryz.underlying24 Tryz.underlying5 a0_3 W
         go_wp2_with (first | (go_at_call 26; (with_reducible refine (chars_Wrong.callsB kj1 _ _ a0_3 t121 _ ?side1 ?side2 ?side3 A25.out).mono ?_); (case side1 => exact C_bytes_new _ _ _ _ (by first | rfl | omega) (LMc24.out)); (case side2 => exact grownCap_ge _ _ _ _); (case side3 => exact Laid_below HLd.out (by repeat (first | (with_reducible first | exact HB.out | apply below_alloc | apply pw_below_drewN | apply below_drew1 | apply bytes_below1 | refine below_set ?_ GE119.out | refine below_set ?_ GE120.out) | exact HB.out))); rintro e w30 ⟨rfl,hb⟩; have n0_ := Aside0.mk (blk_below (g := gb119) (o := .cells #[.int .i64 a0_0,.int .i64 a0_1,.bool a0_2,.string a0_3] 23 (0,0)) (by (with_reducible repeat (first | refine blk_bytes ?_ _ _ | refine blk_drewN ?_ _ | refine blk_drew ?_ | refine blk_alloc ?_ _)); exact BK119.out) hb); have n1_ := Aside0.mk (blk_below (g := gb120) (o := .cells #[.int .i64 a0_0,.int .i64 x121001_1,.bool x121002_1,.string x121003_1] 23 (0,0)) (by (with_reducible repeat (first | refine blk_bytes ?_ _ _ | refine blk_drewN ?_ _ | refine blk_drew ?_ | refine blk_alloc ?_ _)); exact BK120.out) hb); have n2_ := Aside0.mk (below_step (by repeat (first | (with_reducible first | exact HB.out | apply below_alloc | apply pw_below_drewN | apply below_drew1 | apply bytes_below1 | refine below_set ?_ GE119.out | refine below_set ?_ GE120.out) | exact HB.out)) hb); clear BK119; clear BK120; clear HB; have BK119 := n0_; have BK120 := n1_; have HB := n2_; clear n0_ n1_ n2_; (try clear hb); (try clear hb2); (try clear hk); (try clear hi)))
         go_ret
         exact ⟨by first | rfl | (simp [errW_none,errW_some] <;> rfl) | (simp [*,errW_none,errW_some] <;> rfl),by repeat (first | (with_reducible first | exact HB.out | apply below_alloc | apply pw_below_drewN | apply below_drew1 | apply bytes_below1 | refine below_set ?_ GE119.out | refine below_set ?_ GE120.out) | exact HB.out)⟩
       · rw [if_neg c24] at H
         exact absurd H (by simp)
     · rw [if_neg c23] at H
       have c23b0 : decide ((a0_3.size : Int) ≤ 256) = false := decide_eq_false c23
       have c23b1 : decide (a0_3.size ≤ 256) = false := decide_eq_false (by omega)
       clear c23
       obtain rfl := Option.some.inj H
       have hnb31 := NB119_120.out
       have hnc31 := NB120_119.out
       have hcz32_0 : wc.cell? ⟨gb119,0,none⟩ = some (.int .i64 a0_0) := (blk_cell BK119.out 0).trans rfl
       have hcz32_1 : wc.cell? ⟨gb119,1,none⟩ = some (.int .i64 a0_1) := (blk_cell BK119.out 1).trans rfl
       have hcz32_2 : wc.cell? ⟨gb119,2,none⟩ = some (.bool a0_2) := (blk_cell BK119.out 2).trans rfl
       have hcz32_3 : wc.cell? ⟨gb119,3,none⟩ = some (.string a0_3) := (blk_cell BK119.out 3).trans rfl
       have hfz32_0 := blk_frozen BK119.out 0
       have hfz32_1 := blk_frozen BK119.out 1
       have hfz32_2 := blk_frozen BK119.out 2
       have hfz32_3 := blk_frozen BK119.out 3
       have hcz33_0 : wc.cell? ⟨gb120,0,none⟩ = some (.int .i64 a0_0) := (blk_cell BK120.out 0).trans rfl
       have hcz33_1 : wc.cell? ⟨gb120,1,none⟩ = some (.int .i64 x121001_1) := (blk_cell BK120.out 1).trans rfl
       have hcz33_2 : wc.cell? ⟨gb120,2,none⟩ = some (.bool x121002_1) := (blk_cell BK120.out 2).trans rfl
       have hcz33_3 : wc.cell? ⟨gb120,3,none⟩ = some (.string x121003_1) := (blk_cell BK120.out 3).trans rfl
       have hfz33_0 := blk_frozen BK120.out 0
       have hfz33_1 := blk_frozen BK120.out 1
       have hfz33_2 := blk_frozen BK120.out 2
       have hfz33_3 := blk_frozen BK120.out 3
       go_wp2
       go_ret
       exact ⟨by first | rfl | (simp [errW_none,errW_some] <;> rfl) | (simp [*,errW_none,errW_some] <;> rfl),by repeat (first | (with_reducible first | exact HB.out | apply below_alloc | apply pw_below_drewN | apply below_drew1 | apply bytes_below1 | refine below_set ?_ GE119.out | refine below_set ?_ GE120.out) | exact HB.out)⟩
   · rw [if_neg c22] at H
     have c22b0 : (a0_0 == a0_0 && (a0_1 == x121001_1 && (a0_2 == x121002_1 && (a0_3.toList == x121003_1.toList)))) = false := by simpa using c22
     (try (have c22b1 : decide (a0_0 = a0_0 && (a0_1 == x121001_1 && (a0_2 == x121002_1 && (a0_3.toList == x121003_1.toList)))) = false := by simpa using c22))
     (try (have c22b2 : (a0_0 == a0_0 && (a0_1 == x121001_1 && (a0_2 == x121002_1 && (a0_3.toList == x121003_1.toList)))) = false := by simpa using c22))
     (try (have c22b3 : ¬ (a0_0 = a0_0 && (a0_1 == x121001_1 && (a0_2 == x121002_1 && (a0_3.toList == x121003_1.toList)))) := by simpa using c22))
     (try simp only [beq_self_eq_true,bne_self_eq_false,Bool.true_and,Bool.and_true,Bool.false_or,Bool.or_false] at c22b0)
     clear c22
     obtain rfl := Option.some.inj H
     have hnb34 := NB119_120.out
     have hnc34 := NB120_119.out
     have hcz35_0 : wc.cell? ⟨gb119,0,none⟩ = some (.int .i64 a0_0) := (blk_cell BK119.out 0).trans rfl
     have hcz35_1 : wc.cell? ⟨gb119,1,none⟩ = some (.int .i64 a0_1) := (blk_cell BK119.out 1).trans rfl
     have hcz35_2 : wc.cell? ⟨gb119,2,none⟩ = some (.bool a0_2) := (blk_cell BK119.out 2).trans rfl
     have hcz35_3 : wc.cell? ⟨gb119,3,none⟩ = some (.string a0_3) := (blk_cell BK119.out 3).trans rfl
     have hfz35_0 := blk_frozen BK119.out 0
     have hfz35_1 := blk_frozen BK119.out 1
     have hfz35_2 := blk_frozen BK119.out 2
     have hfz35_3 := blk_frozen BK119.out 3
     have hcz36_0 : wc.cell? ⟨gb120,0,none⟩ = some (.int .i64 a0_0) := (blk_cell BK120.out 0).trans rfl
     have hcz36_1 : wc.cell? ⟨gb120,1,none⟩ = some (.int .i64 x121001_1) := (blk_cell BK120.out 1).trans rfl
     have hcz36_2 : wc.cell? ⟨gb120,2,none⟩ = some (.bool x121002_1) := (blk_cell BK120.out 2).trans rfl
     have hcz36_3 : wc.cell? ⟨gb120,3,none⟩ = some (.string x121003_1) := (blk_cell BK120.out 3).trans rfl
     have hfz36_0 := blk_frozen BK120.out 0
     have hfz36_1 := blk_frozen BK120.out 1
     have hfz36_2 := blk_frozen BK120.out 2
     have hfz36_3 := blk_frozen BK120.out 3
     go_wp2
     go_ret
     exact ⟨by first | rfl | (simp [errW_none,errW_some] <;> rfl) | (simp [*,errW_none,errW_some] <;> rfl),by repeat (first | (with_reducible first | exact HB.out | apply below_alloc | apply pw_below_drewN | apply below_drew1 | apply bytes_below1 | refine below_set ?_ GE119.out | refine below_set ?_ GE120.out) | exact HB.out)⟩
end
section
/-! ### dossierref07_Int: function 7 -/
def dossierref07_Int.f (a0 : Int) : Option (Int × Int × Bool × ByteArray) := some (1,a0,false,(⟨#[]⟩ : ByteArray))
set_option maxHeartbeats 8000000 in
set_option maxRecDepth 100000 in
theorem dossierref07_Int.calls (a0 : Int) (r1 : Int) (r2 : Int) (r3 : Bool) (r4 : ByteArray) (w : World) (h : dossierref07_Int.f a0 = some (r1,r2,r3,r4)) :
 Calls Tryz.prog 7 #[.int .i64 a0] w fun e w' => e = .returned (.agg #[.int .i64 r1,.int .i64 r2,.bool r3,.string r4]) ∧ Below w.heap.size w w' := by
 have hu23 := Tryz.underlying23
 have HB := Aside0.mk (Below.refl w.heap.size w)
 have H : (some (1,a0,false,(⟨#[]⟩ : ByteArray))) = some (r1,r2,r3,r4) := h
 clear h
 simp only [Option.some.injEq,Prod.mk.injEq] at H
 obtain ⟨rfl,rfl,rfl,rfl⟩ := H
 go_enter Tryz.func7,Tryz.ntmps7
 go_wp2_with (first | ((with_reducible refine gate_dst (N := 2) rfl ?_); refine box_event ?hg (N := 2) ?hd (cs := #[.int .i64 0,.int .i64 0,.bool false,.string (⟨#[]⟩ : ByteArray)]) (t := 23) ?hr ?_; (case hd => rfl); (case hg => rfl); (case hr => first | (go_simp; done) | (go_simp; rfl)); intro gb102 hg w2 hbox hb; have n0_ := Aside0.mk (below_step (by repeat (first | (with_reducible first | exact HB.out | apply below_alloc | apply pw_below_drewN | apply below_drew1 | apply bytes_below1) | exact HB.out)) hb); have n1_ := Aside0.mk (hbox); have n2_ := Aside0.mk ((by rw [hg]; exact (below_size (by repeat (first | (with_reducible first | exact HB.out | apply below_alloc | apply pw_below_drewN | apply below_drew1 | apply bytes_below1) | exact HB.out))) : w.heap.size ≤ gb102)); have n3_ := Aside0.mk ((by rw [hg]; exact (below_size (by repeat (first | (with_reducible first | exact HB.out | apply below_alloc | apply pw_below_drewN | apply below_drew1 | apply bytes_below1) | exact HB.out))) : w.heap.size ≤ gb102)); clear HB; have HB := n0_; have BK102 := n1_; have GW102 := n2_; have GE102 := n3_; clear n0_ n1_ n2_ n3_; clear hb hbox hg; have hcz3_0 : w2.cell? ⟨gb102,0,none⟩ = some (.int .i64 0) := (blk_cell BK102.out 0).trans rfl; have hcz3_1 : w2.cell? ⟨gb102,1,none⟩ = some (.int .i64 0) := (blk_cell BK102.out 1).trans rfl; have hcz3_2 : w2.cell? ⟨gb102,2,none⟩ = some (.bool false) := (blk_cell BK102.out 2).trans rfl; have hcz3_3 : w2.cell? ⟨gb102,3,none⟩ = some (.string (⟨#[]⟩ : ByteArray)) := (blk_cell BK102.out 3).trans rfl; have hfz3_0 := blk_frozen BK102.out 0; have hfz3_1 := blk_frozen BK102.out 1; have hfz3_2 := blk_frozen BK102.out 2; have hfz3_3 := blk_frozen BK102.out 3))
 refine bodyPost_ret (results_cell_row rfl _ _ gb102 23 #[.int .i64 1,.int .i64 a0,.bool false,.string (⟨#[]⟩ : ByteArray)] (0,0) _ rfl (by (with_reducible repeat (first | refine blk_bytes ?_ _ _ | refine blk_drewN ?_ _ | refine blk_drew ?_ | refine blk_alloc ?_ _)); refine blk_put (cs := #[.int .i64 1,.int .i64 a0,.bool false,.string (⟨#[]⟩ : ByteArray)]) ?_ 3 _ rfl; (with_reducible repeat (first | refine blk_bytes ?_ _ _ | refine blk_drewN ?_ _ | refine blk_drew ?_ | refine blk_alloc ?_ _)); refine blk_put (cs := #[.int .i64 1,.int .i64 a0,.bool false,.string (⟨#[]⟩ : ByteArray)]) ?_ 2 _ rfl; (with_reducible repeat (first | refine blk_bytes ?_ _ _ | refine blk_drewN ?_ _ | refine blk_drew ?_ | refine blk_alloc ?_ _)); refine blk_put (cs := #[.int .i64 1,.int .i64 0,.bool false,.string (⟨#[]⟩ : ByteArray)]) ?_ 1 _ rfl; (with_reducible repeat (first | refine blk_bytes ?_ _ _ | refine blk_drewN ?_ _ | refine blk_drew ?_ | refine blk_alloc ?_ _)); refine blk_put (cs := #[.int .i64 0,.int .i64 0,.bool false,.string (⟨#[]⟩ : ByteArray)]) ?_ 0 _ rfl; (with_reducible repeat (first | refine blk_bytes ?_ _ _ | refine blk_drewN ?_ _ | refine blk_drew ?_ | refine blk_alloc ?_ _)); exact BK102.out) Tryz.underlying23 rfl (by kernel_rfl)) rfl ?_
 exact ⟨by first | rfl | (simp [errW_none,errW_some] <;> rfl) | (simp [*,errW_none,errW_some] <;> rfl),by repeat (first | (with_reducible first | exact HB.out | apply below_alloc | apply pw_below_drewN | apply below_drew1 | apply bytes_below1 | refine below_set ?_ GE102.out) | exact HB.out)⟩
end
section
/-! ### dossierref07_Bool: function 9 -/
def dossierref07_Bool.f (a0 : Bool) : Option (Int × Int × Bool × ByteArray) := some (2,0,a0,(⟨#[]⟩ : ByteArray))
set_option maxHeartbeats 8000000 in
set_option maxRecDepth 100000 in
theorem dossierref07_Bool.calls (a0 : Bool) (r1 : Int) (r2 : Int) (r3 : Bool) (r4 : ByteArray) (w : World) (h : dossierref07_Bool.f a0 = some (r1,r2,r3,r4)) :
 Calls Tryz.prog 9 #[.bool a0] w fun e w' => e = .returned (.agg #[.int .i64 r1,.int .i64 r2,.bool r3,.string r4]) ∧ Below w.heap.size w w' := by
 have hu23 := Tryz.underlying23
 have HB := Aside0.mk (Below.refl w.heap.size w)
 have H : (some (2,0,a0,(⟨#[]⟩ : ByteArray))) = some (r1,r2,r3,r4) := h
 clear h
 simp only [Option.some.injEq,Prod.mk.injEq] at H
 obtain ⟨rfl,rfl,rfl,rfl⟩ := H
 go_enter Tryz.func9,Tryz.ntmps9
 go_wp2_with (first | ((with_reducible refine gate_dst (N := 2) rfl ?_); refine box_event ?hg (N := 2) ?hd (cs := #[.int .i64 0,.int .i64 0,.bool false,.string (⟨#[]⟩ : ByteArray)]) (t := 23) ?hr ?_; (case hd => rfl); (case hg => rfl); (case hr => first | (go_simp; done) | (go_simp; rfl)); intro gb104 hg w2 hbox hb; have n0_ := Aside0.mk (below_step (by repeat (first | (with_reducible first | exact HB.out | apply below_alloc | apply pw_below_drewN | apply below_drew1 | apply bytes_below1) | exact HB.out)) hb); have n1_ := Aside0.mk (hbox); have n2_ := Aside0.mk ((by rw [hg]; exact (below_size (by repeat (first | (with_reducible first | exact HB.out | apply below_alloc | apply pw_below_drewN | apply below_drew1 | apply bytes_below1) | exact HB.out))) : w.heap.size ≤ gb104)); have n3_ := Aside0.mk ((by rw [hg]; exact (below_size (by repeat (first | (with_reducible first | exact HB.out | apply below_alloc | apply pw_below_drewN | apply below_drew1 | apply bytes_below1) | exact HB.out))) : w.heap.size ≤ gb104)); clear HB; have HB := n0_; have BK104 := n1_; have GW104 := n2_; have GE104 := n3_; clear n0_ n1_ n2_ n3_; clear hb hbox hg; have hcz3_0 : w2.cell? ⟨gb104,0,none⟩ = some (.int .i64 0) := (blk_cell BK104.out 0).trans rfl; have hcz3_1 : w2.cell? ⟨gb104,1,none⟩ = some (.int .i64 0) := (blk_cell BK104.out 1).trans rfl; have hcz3_2 : w2.cell? ⟨gb104,2,none⟩ = some (.bool false) := (blk_cell BK104.out 2).trans rfl; have hcz3_3 : w2.cell? ⟨gb104,3,none⟩ = some (.string (⟨#[]⟩ : ByteArray)) := (blk_cell BK104.out 3).trans rfl; have hfz3_0 := blk_frozen BK104.out 0; have hfz3_1 := blk_frozen BK104.out 1; have hfz3_2 := blk_frozen BK104.out 2; have hfz3_3 := blk_frozen BK104.out 3))
 refine bodyPost_ret (results_cell_row rfl _ _ gb104 23 #[.int .i64 2,.int .i64 0,.bool a0,.string (⟨#[]⟩ : ByteArray)] (0,0) _ rfl (by (with_reducible repeat (first | refine blk_bytes ?_ _ _ | refine blk_drewN ?_ _ | refine blk_drew ?_ | refine blk_alloc ?_ _)); refine blk_put (cs := #[.int .i64 2,.int .i64 0,.bool a0,.string (⟨#[]⟩ : ByteArray)]) ?_ 3 _ rfl; (with_reducible repeat (first | refine blk_bytes ?_ _ _ | refine blk_drewN ?_ _ | refine blk_drew ?_ | refine blk_alloc ?_ _)); refine blk_put (cs := #[.int .i64 2,.int .i64 0,.bool false,.string (⟨#[]⟩ : ByteArray)]) ?_ 2 _ rfl; (with_reducible repeat (first | refine blk_bytes ?_ _ _ | refine blk_drewN ?_ _ | refine blk_drew ?_ | refine blk_alloc ?_ _)); refine blk_put (cs := #[.int .i64 2,.int .i64 0,.bool false,.string (⟨#[]⟩ : ByteArray)]) ?_ 1 _ rfl; (with_reducible repeat (first | refine blk_bytes ?_ _ _ | refine blk_drewN ?_ _ | refine blk_drew ?_ | refine blk_alloc ?_ _)); refine blk_put (cs := #[.int .i64 0,.int .i64 0,.bool false,.string (⟨#[]⟩ : ByteArray)]) ?_ 0 _ rfl; (with_reducible repeat (first | refine blk_bytes ?_ _ _ | refine blk_drewN ?_ _ | refine blk_drew ?_ | refine blk_alloc ?_ _)); exact BK104.out) Tryz.underlying23 rfl (by kernel_rfl)) rfl ?_
 exact ⟨by first | rfl | (simp [errW_none,errW_some] <;> rfl) | (simp [*,errW_none,errW_some] <;> rfl),by repeat (first | (with_reducible first | exact HB.out | apply below_alloc | apply pw_below_drewN | apply below_drew1 | apply bytes_below1 | refine below_set ?_ GE104.out) | exact HB.out)⟩
end
section
/-! ### dossierref07_Text: function 11 -/
def dossierref07_Text.f (a0 : ByteArray) : Option (Int × Int × Bool × ByteArray) := some (3,0,false,a0)
set_option maxHeartbeats 8000000 in
set_option maxRecDepth 100000 in
theorem dossierref07_Text.calls (a0 : ByteArray) (r1 : Int) (r2 : Int) (r3 : Bool) (r4 : ByteArray) (w : World) (h : dossierref07_Text.f a0 = some (r1,r2,r3,r4)) :
 Calls Tryz.prog 11 #[.string a0] w fun e w' => e = .returned (.agg #[.int .i64 r1,.int .i64 r2,.bool r3,.string r4]) ∧ Below w.heap.size w w' := by
 have hu23 := Tryz.underlying23
 have HB := Aside0.mk (Below.refl w.heap.size w)
 have H : (some (3,0,false,a0)) = some (r1,r2,r3,r4) := h
 clear h
 simp only [Option.some.injEq,Prod.mk.injEq] at H
 obtain ⟨rfl,rfl,rfl,rfl⟩ := H
 go_enter Tryz.func11,Tryz.ntmps11
 go_wp2_with (first | ((with_reducible refine gate_dst (N := 2) rfl ?_); refine box_event ?hg (N := 2) ?hd (cs := #[.int .i64 0,.int .i64 0,.bool false,.string (⟨#[]⟩ : ByteArray)]) (t := 23) ?hr ?_; (case hd => rfl); (case hg => rfl); (case hr => first | (go_simp; done) | (go_simp; rfl)); intro gb106 hg w2 hbox hb; have n0_ := Aside0.mk (below_step (by repeat (first | (with_reducible first | exact HB.out | apply below_alloc | apply pw_below_drewN | apply below_drew1 | apply bytes_below1) | exact HB.out)) hb); have n1_ := Aside0.mk (hbox); have n2_ := Aside0.mk ((by rw [hg]; exact (below_size (by repeat (first | (with_reducible first | exact HB.out | apply below_alloc | apply pw_below_drewN | apply below_drew1 | apply bytes_below1) | exact HB.out))) : w.heap.size ≤ gb106)); have n3_ := Aside0.mk ((by rw [hg]; exact (below_size (by repeat (first | (with_reducible first | exact HB.out | apply below_alloc | apply pw_below_drewN | apply below_drew1 | apply bytes_below1) | exact HB.out))) : w.heap.size ≤ gb106)); clear HB; have HB := n0_; have BK106 := n1_; have GW106 := n2_; have GE106 := n3_; clear n0_ n1_ n2_ n3_; clear hb hbox hg; have hcz3_0 : w2.cell? ⟨gb106,0,none⟩ = some (.int .i64 0) := (blk_cell BK106.out 0).trans rfl; have hcz3_1 : w2.cell? ⟨gb106,1,none⟩ = some (.int .i64 0) := (blk_cell BK106.out 1).trans rfl; have hcz3_2 : w2.cell? ⟨gb106,2,none⟩ = some (.bool false) := (blk_cell BK106.out 2).trans rfl; have hcz3_3 : w2.cell? ⟨gb106,3,none⟩ = some (.string (⟨#[]⟩ : ByteArray)) := (blk_cell BK106.out 3).trans rfl; have hfz3_0 := blk_frozen BK106.out 0; have hfz3_1 := blk_frozen BK106.out 1; have hfz3_2 := blk_frozen BK106.out 2; have hfz3_3 := blk_frozen BK106.out 3))
 refine bodyPost_ret (results_cell_row rfl _ _ gb106 23 #[.int .i64 3,.int .i64 0,.bool false,.string a0] (0,0) _ rfl (by (with_reducible repeat (first | refine blk_bytes ?_ _ _ | refine blk_drewN ?_ _ | refine blk_drew ?_ | refine blk_alloc ?_ _)); refine blk_put (cs := #[.int .i64 3,.int .i64 0,.bool false,.string (⟨#[]⟩ : ByteArray)]) ?_ 3 _ rfl; (with_reducible repeat (first | refine blk_bytes ?_ _ _ | refine blk_drewN ?_ _ | refine blk_drew ?_ | refine blk_alloc ?_ _)); refine blk_put (cs := #[.int .i64 3,.int .i64 0,.bool false,.string (⟨#[]⟩ : ByteArray)]) ?_ 2 _ rfl; (with_reducible repeat (first | refine blk_bytes ?_ _ _ | refine blk_drewN ?_ _ | refine blk_drew ?_ | refine blk_alloc ?_ _)); refine blk_put (cs := #[.int .i64 3,.int .i64 0,.bool false,.string (⟨#[]⟩ : ByteArray)]) ?_ 1 _ rfl; (with_reducible repeat (first | refine blk_bytes ?_ _ _ | refine blk_drewN ?_ _ | refine blk_drew ?_ | refine blk_alloc ?_ _)); refine blk_put (cs := #[.int .i64 0,.int .i64 0,.bool false,.string (⟨#[]⟩ : ByteArray)]) ?_ 0 _ rfl; (with_reducible repeat (first | refine blk_bytes ?_ _ _ | refine blk_drewN ?_ _ | refine blk_drew ?_ | refine blk_alloc ?_ _)); exact BK106.out) Tryz.underlying23 rfl (by kernel_rfl)) rfl ?_
 exact ⟨by first | rfl | (simp [errW_none,errW_some] <;> rfl) | (simp [*,errW_none,errW_some] <;> rfl),by repeat (first | (with_reducible first | exact HB.out | apply below_alloc | apply pw_below_drewN | apply below_drew1 | apply bytes_below1 | refine below_set ?_ GE106.out) | exact HB.out)⟩
end
end Go.Proofs.YtifgpigicgaadaaGreatDoor.Q
end
