/- Several texts in one, in their order. -/
import Derived.Test.YtbcpnpbkbndkjaaGreatDoorBCheckTruths5
section
/- Characters: the program's decoder, the reference's and one plain function are the same at every list of bytes; so are the searches for a byte that is no character. -/
set_option linter.unusedSimpArgs false
set_option linter.unusedVariables false
namespace Go.Proofs.YtbcpnpbkbndkjaaGreatDoor.Chars
open Go.RowKit Go.Proofs.YtbcpnpbkbndkjaaGreatDoor.Q Go.Proofs.YtbcpnpbkbndkjaaGreatDoorW.PrintWords Go.Proofs.YtbcpnpbkbndkjaaGreatDoorW.PrintLast Go.Proofs.YtbcpnpbkbndkjaaGreatDoorH
/-- Each number of a list is a byte. -/
def Bytes (l : List Int) : Prop := ∀ x ∈ l,0 ≤ x ∧ x < 256
theorem bytes_of (s : ByteArray) : Bytes (bytesOf s) := by
 intro x hx
 unfold bytesOf at hx
 obtain ⟨b,_,rfl⟩ := List.mem_map.1 hx
 have := b.toNat_lt
 constructor <;> omega
theorem Bytes.drop {l : List Int} (h : Bytes l) (n : Nat) : Bytes (l.drop n) := fun x hx => h x (List.mem_of_mem_drop hx)
theorem Bytes.take {l : List Int} (h : Bytes l) (n : Nat) : Bytes (l.take n) := fun x hx => h x (List.mem_of_mem_take hx)
theorem Bytes.getD {l : List Int} (h : Bytes l) (n : Nat) : 0 ≤ l.getD n 0 ∧ l.getD n 0 < 256 := by
 by_cases hn : n < l.length
 · rw [List.getD_eq_getElem?_getD,List.getElem?_eq_getElem hn]; exact h _ (List.getElem_mem hn)
 · rw [List.getD_eq_getElem?_getD,List.getElem?_eq_none (by omega)]; simp
/-- The first character and how many bytes it has; (0, 0): there is none. -/
def decN (n : Nat) (b0 b1 b2 b3 : Int) : Int × Int :=
 if b0 < 128 then (b0,1)
 else if 192 ≤ b0 ∧ b0 < 224 ∧ 2 ≤ n ∧ 128 ≤ b1 ∧ b1 < 192 then
  (if (b0 - 192) * 64 + (b1 - 128) ≥ 128 then ((b0 - 192) * 64 + (b1 - 128),2) else (0,0))
 else if 224 ≤ b0 ∧ b0 < 240 ∧ 3 ≤ n ∧ (128 ≤ b1 ∧ b1 < 192) ∧ 128 ≤ b2 ∧ b2 < 192 then
  (if 2048 ≤ (b0 - 224) * 4096 + (b1 - 128) * 64 + (b2 - 128) ∧ ((b0 - 224) * 4096 + (b1 - 128) * 64 + (b2 - 128) < 55296 ∨ 57344 ≤ (b0 - 224) * 4096 + (b1 - 128) * 64 + (b2 - 128))
   then ((b0 - 224) * 4096 + (b1 - 128) * 64 + (b2 - 128),3) else (0,0))
 else if 240 ≤ b0 ∧ b0 < 248 ∧ 4 ≤ n ∧ (128 ≤ b1 ∧ b1 < 192) ∧ (128 ≤ b2 ∧ b2 < 192) ∧ 128 ≤ b3 ∧ b3 < 192 then
  (if 65536 ≤ (b0 - 240) * 262144 + (b1 - 128) * 4096 + (b2 - 128) * 64 + (b3 - 128) ∧ (b0 - 240) * 262144 + (b1 - 128) * 4096 + (b2 - 128) * 64 + (b3 - 128) ≤ 1114111
   then ((b0 - 240) * 262144 + (b1 - 128) * 4096 + (b2 - 128) * 64 + (b3 - 128),4) else (0,0))
 else (0,0)
def dec (l : List Int) : Int × Int := if l = [] then (0,0) else decN l.length (l.getD 0 0) (l.getD 1 0) (l.getD 2 0) (l.getD 3 0)
theorem decN_two (n : Nat) (b0 b1 b2 b3 : Int) (h0 : 0 ≤ b0) : (decN n b0 b1 b2 b3).2 ≤ 4 ∧ 0 ≤ (decN n b0 b1 b2 b3).2 ∧ 0 ≤ (decN n b0 b1 b2 b3).1 ∧ (decN n b0 b1 b2 b3).1 ≤ 1114111 ∧ (1 ≤ n → (decN n b0 b1 b2 b3).2 ≤ n) ∧ ((decN n b0 b1 b2 b3).2 = 0 → (decN n b0 b1 b2 b3).1 = 0) := by
 unfold decN
 repeat' split
 all_goals (simp only; refine ⟨by omega,by omega,by omega,by omega,fun _ => by omega,fun h_ => by omega⟩)
theorem dec_two {l : List Int} (hl : Bytes l) : (dec l).2 ≤ 4 ∧ 0 ≤ (dec l).2 ∧ 0 ≤ (dec l).1 ∧ (dec l).1 ≤ 1114111 ∧ (dec l).2 ≤ l.length ∧ ((dec l).2 = 0 → (dec l).1 = 0) := by
 unfold dec
 by_cases h : l = []
 · rw [if_pos h]; simp
 · rw [if_neg h]
   have hlen : 1 ≤ l.length := List.length_pos_iff.2 h
   have := decN_two l.length (l.getD 0 0) (l.getD 1 0) (l.getD 2 0) (l.getD 3 0) (hl.getD 0).1
   exact ⟨this.1,this.2.1,this.2.2.1,this.2.2.2.1,this.2.2.2.2.1 hlen,this.2.2.2.2.2⟩
theorem get!_at (l : List Int) (hl : Bytes l) (i : Nat) : (((strOfNums l).get! i).toNat : Int) = l.getD i 0 := by
 by_cases h : i < l.length
 · rw [strOfNums_get! l i h,List.getD_eq_getElem?_getD,List.getElem?_eq_getElem h]
   have := hl _ (List.getElem_mem h)
   simp only [Option.getD_some]
   generalize l[i] = x at *
   obtain ⟨y,rfl⟩ := Int.eq_ofNat_of_zero_le this.1
   simp; omega
 · rw [List.getD_eq_getElem?_getD,List.getElem?_eq_none (by omega)]
   have : ¬ i < (strOfNums l).data.size := by simp [strOfNums]; omega
   have e : (strOfNums l).data[i]! = 0 := by
    rw [Array.getElem!_eq_getD,Array.getD_eq_getD_getElem?,Array.getElem?_eq_none (by omega)]; rfl
   show (((strOfNums l).data[i]!).toNat : Int) = _
   rw [e]; rfl
set_option maxHeartbeats 4000000 in
/-- The model's decoder, with what it calls no character told as (0, 0). -/
theorem decN_go (n : Nat) (b0 b1 b2 b3 : Nat) (h0 : b0 < 256) (h1 : b1 < 256) (h2 : b2 < 256) (h3 : b3 < 256) :
 (if (Lib.decodeN n b0 b1 b2 b3).1 = 65533 ∧ (Lib.decodeN n b0 b1 b2 b3).2 ≤ 1 then ((0 : Int),(0 : Int)) else (((Lib.decodeN n b0 b1 b2 b3).1 : Int),((Lib.decodeN n b0 b1 b2 b3).2 : Int))) = decN n b0 b1 b2 b3 := by
 unfold Lib.decodeN decN
 repeat' split
 all_goals first
  | (exfalso; omega)
  | (simp only at *; first | (exfalso; omega) | (apply Prod.ext <;> simp only <;> omega))
  | (apply Prod.ext <;> simp only <;> omega)
theorem chars_Decode_spec (l : List Int) (hl : Bytes l) : chars_Decode.f l = some (dec l) := by
 have hall : (l.all fun x => decide (0 ≤ x) && decide (x < 256)) = true := by
  rw [List.all_eq_true]; intro x hx; have := hl x hx; simp [this.1,this.2]
 unfold chars_Decode.f utf8_DecodeRune.f
 rw [if_pos hall,Option.bind_some]
 by_cases h : l = []
 · subst h; rfl
 · have hlen : 1 ≤ l.length := List.length_pos_iff.2 h
   have hsz : (strOfNums l).size = l.length := strOfNums_size l
   have hd : Lib.decodeGo (strOfNums l) = Lib.decodeN l.length (l.getD 0 0).toNat (l.getD 1 0).toNat (l.getD 2 0).toNat (l.getD 3 0).toNat := by
    unfold Lib.decodeGo
    rw [if_neg (by omega),Lib.decode_at,hsz]
    have g := get!_at l hl
    have e : ∀ i,((strOfNums l).get! i).toNat = (l.getD i 0).toNat := fun i => by have := g i; omega
    simp only [Nat.zero_add,Nat.sub_zero,e]
   have hdec : dec l = decN l.length (l.getD 0 0) (l.getD 1 0) (l.getD 2 0) (l.getD 3 0) := by unfold dec; rw [if_neg h]
   have hb := hl.getD
   have key := decN_go l.length (l.getD 0 0).toNat (l.getD 1 0).toNat (l.getD 2 0).toNat (l.getD 3 0).toNat (by have := hb 0; omega) (by have := hb 1; omega) (by have := hb 2; omega) (by have := hb 3; omega)
   rw [Int.toNat_of_nonneg (hb 0).1,Int.toNat_of_nonneg (hb 1).1,Int.toNat_of_nonneg (hb 2).1,Int.toNat_of_nonneg (hb 3).1,← hdec,← hd] at key
   rw [← key]
   have hr : (Lib.decodeGo (strOfNums l)).1 ≤ 1114111 := by
    rw [hd]; unfold Lib.decodeN
    have := hb 0; have := hb 1
    repeat' split
    all_goals (simp only; omega)
   by_cases h1 : (Lib.decodeGo (strOfNums l)).1 = 65533
   · by_cases h2 : (Lib.decodeGo (strOfNums l)).2 ≤ 1
     · rw [if_pos (by omega),if_pos (by omega),if_pos ⟨h1,h2⟩]
     · rw [if_pos (by omega),if_neg (by omega),if_neg (fun x => h2 x.2)]; congr 2; unfold wrap64; omega
   · rw [if_neg (by omega),if_neg (fun x => h1 x.1)]; congr 2; unfold wrap64; omega
/-! ## The reference's -/
theorem tmod64 (x : Int) (h : 0 ≤ x) : Int.tmod x 64 = x % 64 := Int.tmod_eq_emod_of_nonneg h
/-- A character's bytes. -/
def enc (r : Int) : List Int :=
 if r < 0 ∨ r > 1114111 ∨ (55296 ≤ r ∧ r ≤ 57343) then []
 else if r < 128 then [r]
 else if r < 2048 then [192 + r / 64,128 + r % 64]
 else if r < 65536 then [224 + r / 4096,128 + r / 64 % 64,128 + r % 64]
 else [240 + r / 262144,128 + r / 4096 % 64,128 + r / 64 % 64,128 + r % 64]
theorem enc_spec (k : Nat) (r : Int) : dossierref01_Encode.f (k + 1) r = some (enc r) := by
 unfold dossierref01_Encode.f enc
 simp only [dossierref01_Encode.j0]
 have w : ∀ x : Int,0 ≤ x → x < 4000000 → wrap64 x = x := fun x h0 h1 => by unfold wrap64; omega
 by_cases h1 : r < 0
 · simp [h1]
 · by_cases h2 : r > 1114111
   · simp [h1,h2]
   · by_cases h3 : r ≥ 55296 ∧ r ≤ 57343
     · simp [h1,h2,h3.1,h3.2]
     · have hc : ¬ (r < 0 ∨ r > 1114111 ∨ (55296 ≤ r ∧ r ≤ 57343)) := by omega
       rw [if_neg h1,if_neg h2,if_neg hc]
       have e : (if r ≥ 55296 then (if (decide (r ≤ 57343)) = true then some ([] : List Int) else if r < 128 then some [r % 256] else if r < 2048 then some [wrap64 (192 + r / 64) % 256,wrap64 (128 + Int.tmod r 64) % 256] else if r < 65536 then some [wrap64 (224 + r / 4096) % 256,wrap64 (128 + Int.tmod (r / 64) 64) % 256,wrap64 (128 + Int.tmod r 64) % 256] else some [wrap64 (240 + r / 262144) % 256,wrap64 (128 + Int.tmod (r / 4096) 64) % 256,wrap64 (128 + Int.tmod (r / 64) 64) % 256,wrap64 (128 + Int.tmod r 64) % 256])
        else if false = true then some ([] : List Int) else if r < 128 then some [r % 256] else if r < 2048 then some [wrap64 (192 + r / 64) % 256,wrap64 (128 + Int.tmod r 64) % 256] else if r < 65536 then some [wrap64 (224 + r / 4096) % 256,wrap64 (128 + Int.tmod (r / 64) 64) % 256,wrap64 (128 + Int.tmod r 64) % 256] else some [wrap64 (240 + r / 262144) % 256,wrap64 (128 + Int.tmod (r / 4096) 64) % 256,wrap64 (128 + Int.tmod (r / 64) 64) % 256,wrap64 (128 + Int.tmod r 64) % 256])
        = (if r < 128 then some [r % 256] else if r < 2048 then some [wrap64 (192 + r / 64) % 256,wrap64 (128 + Int.tmod r 64) % 256] else if r < 65536 then some [wrap64 (224 + r / 4096) % 256,wrap64 (128 + Int.tmod (r / 64) 64) % 256,wrap64 (128 + Int.tmod r 64) % 256] else some [wrap64 (240 + r / 262144) % 256,wrap64 (128 + Int.tmod (r / 4096) 64) % 256,wrap64 (128 + Int.tmod (r / 64) 64) % 256,wrap64 (128 + Int.tmod r 64) % 256]) := by
        by_cases h4 : r ≥ 55296
        · rw [if_pos h4,if_neg (by simp; omega)]
        · rw [if_neg h4]; simp
       rw [e,tmod64 r (by omega),tmod64 (r / 64) (by omega),tmod64 (r / 4096) (by omega)]
       by_cases a1 : r < 128
       · simp only [a1,if_true]; congr 2; omega
       · simp only [a1,if_false]
         by_cases a2 : r < 2048
         · simp only [a2,if_true]; rw [w _ (by omega) (by omega),w _ (by omega) (by omega)]; congr 2; omega; congr 1; omega
         · simp only [a2,if_false]
           by_cases a3 : r < 65536
           · simp only [a3,if_true]; rw [w _ (by omega) (by omega),w _ (by omega) (by omega),w _ (by omega) (by omega)]; congr 2; omega; congr 1; omega; congr 1; omega
           · simp only [a3,if_false]; rw [w _ (by omega) (by omega),w _ (by omega) (by omega),w _ (by omega) (by omega),w _ (by omega) (by omega)]; congr 2; omega; congr 1; omega; congr 1; omega; congr 1; omega
/-- Bytes as a string are the same just where they are the same. -/
theorem str_inj {l m : List Int} (hl : Bytes l) (hm : Bytes m) : (strOfNums l).toList = (strOfNums m).toList ↔ l = m := by
 constructor
 · intro h
   rw [Lib.toList_data,Lib.toList_data,strOfNums_data,strOfNums_data] at h
   have hlen : l.length = m.length := by simpa using congrArg List.length h
   apply List.ext_getElem hlen
   intro i h1 h2
   have e : (l.map fun n => UInt8.ofNat n.toNat)[i]'(by simpa using h1) = (m.map fun n => UInt8.ofNat n.toNat)[i]'(by simpa using h2) := by simp only [h]
   simp only [List.getElem_map] at e
   have b1 := hl _ (List.getElem_mem h1)
   have b2 := hm _ (List.getElem_mem h2)
   have e' := congrArg UInt8.toNat e
   simp at e'
   omega
 · intro h; rw [h]
theorem enc_bytes (r : Int) : Bytes (enc r) := by
 unfold enc
 repeat' split
 all_goals (intro x hx; simp at hx)
 all_goals first | omega | (rcases hx with h | h <;> omega) | (rcases hx with h | h | h <;> omega) | (rcases hx with h | h | h | h <;> omega)
/-- What the reference does behind the first byte: the rest of the bytes, then the character's own bytes held against them. -/
def tailD (l : List Int) (n : Int) (r : Int) : Option (Int × Int) := if enc r = l.take n.toNat then some (r,n) else some (0,0)
theorem fin_spec (k : Nat) (l : List Int) (hl : Bytes l) (n r : Int) (h0 : 0 ≤ n) (hn : n ≤ l.length) :
 ((dossierref01_Encode.f (k + 1) r).bind fun t178 => (if 0 ≤ n then (if n ≤ (l.length : Int) then (if (strOfNums t178).toList = (strOfNums (l.take (n : Int).toNat)).toList then (some (r,n)) else (some (0,0))) else (none)) else (none))) = tailD l n r := by
 rw [enc_spec,Option.bind_some,if_pos h0,if_pos hn]
 unfold tailD
 by_cases h : enc r = l.take n.toNat
 · rw [if_pos h,if_pos ((str_inj (enc_bytes r) (hl.take _)).2 h)]
 · rw [if_neg h,if_neg (fun x => h ((str_inj (enc_bytes r) (hl.take _)).1 x))]
theorem w64 (x : Int) (h0 : -10000000 ≤ x) (h1 : x < 100000000) : wrap64 x = x := by unfold wrap64; omega
theorem loopD (l : List Int) (hl : Bytes l) (n : Int) (h0 : 0 ≤ n) (hn : n ≤ l.length) (xs : List Int) (hx : Bytes xs) (hlen : xs.length ≤ 3) : ∀ (d i k : Nat) (r : Int),i + d = xs.length → 0 ≤ r → ((i = 0 ∧ (r < 64 ∨ (xs = [] ∧ r < 4096))) ∨ (i = 1 ∧ r < 4096) ∨ (i = 2 ∧ r < 262144) ∨ (i = 3 ∧ r < 16777216)) →
 dossierref01_Decode.l0 (k + d + 2) l n r xs (xs.length : Int) (i : Int) = if (∀ x ∈ xs.drop i,128 ≤ x ∧ x < 192) then tailD l n ((xs.drop i).foldl (fun r x => r * 64 + (x - 128)) r) else some (0,0) := by
 intro d
 induction d with
 | zero =>
  intro i k r hi hr hb
  rw [show k + 0 + 2 = (k + 1) + 1 from rfl]
  rw [dossierref01_Decode.l0]
  rw [if_neg (by omega),fin_spec k l hl n r h0 hn,List.drop_of_length_le (by omega)]
  simp
 | succ d ih =>
  intro i k r hi hr hb
  have hlt : i < xs.length := by omega
  have hrd : rd xs (i : Int) = xs[i] := by simp [rd,List.getD,hlt]
  have hb' : (i = 0 ∧ r < 64) ∨ (i = 1 ∧ r < 4096) ∨ (i = 2 ∧ r < 262144) ∨ (i = 3 ∧ r < 16777216) := by
   rcases hb with ⟨h,h2 | ⟨h2,_⟩⟩ | h | h
   · exact Or.inl ⟨h,h2⟩
   · subst h2; simp at hlt
   · exact Or.inr (Or.inl h)
   · exact Or.inr (Or.inr h)
  clear hb
  have hbx := hx _ (List.getElem_mem hlt)
  rw [show k + (d + 1) + 2 = (k + d + 2) + 1 from by omega]
  rw [dossierref01_Decode.l0]
  rw [if_pos (by omega),if_pos (by omega),if_pos (by omega),hrd,List.drop_eq_getElem_cons hlt]
  by_cases c1 : xs[i] < 128
  · rw [if_pos c1,if_neg (fun h => by have := h xs[i] List.mem_cons_self; omega)]
  · by_cases c2 : xs[i] > 191
    · rw [if_neg c1,if_pos c2,if_neg (fun h => by have := h xs[i] List.mem_cons_self; omega)]
    · rw [if_neg c1,if_neg c2]
      generalize hy : xs[i] = y at *
      have e : wrap64 (wrap64 (wrap64 (r * 64) + wrap64 y) - 128) = r * 64 + (y - 128) := by
       rw [w64 (r * 64) (by omega) (by omega),w64 y (by omega) (by omega),w64 (r * 64 + y) (by omega) (by omega),w64 (r * 64 + y - 128) (by omega) (by omega)]; omega
      have e2 : wrap64 ((i : Int) + 1) = ((i + 1 : Nat) : Int) := by rw [w64 _ (by omega) (by omega)]; omega
      have hb2 : (i + 1 = 1 ∧ r * 64 + (y - 128) < 4096) ∨ (i + 1 = 2 ∧ r * 64 + (y - 128) < 262144) ∨ (i + 1 = 3 ∧ r * 64 + (y - 128) < 16777216) := by
       clear ih e e2 hx hl hrd
       rcases hb' with ⟨h1,h2⟩ | ⟨h1,h2⟩ | ⟨h1,h2⟩ | ⟨h1,h2⟩
       · exact Or.inl ⟨by omega,by omega⟩
       · exact Or.inr (Or.inl ⟨by omega,by omega⟩)
       · exact Or.inr (Or.inr ⟨by omega,by omega⟩)
       · omega
      rw [e,e2,ih (i + 1) k (r * 64 + (y - 128)) (by omega) (by omega) (Or.inr hb2)]
      have hy1 : 128 ≤ y ∧ y < 192 := by omega
      simp only [List.mem_cons,forall_eq_or_imp,hy1,true_and,List.foldl_cons,and_self]
theorem enc_len (r : Int) : (enc r).length = if r < 0 ∨ r > 1114111 ∨ (55296 ≤ r ∧ r ≤ 57343) then 0 else if r < 128 then 1 else if r < 2048 then 2 else if r < 65536 then 3 else 4 := by
 unfold enc; repeat' split
 all_goals rfl
theorem enc4 (r b0 b1 b2 b3 : Int) (h1 : 128 ≤ b1 ∧ b1 < 192) (h2 : 128 ≤ b2 ∧ b2 < 192) (h3 : 128 ≤ b3 ∧ b3 < 192) (hr : r = (b0 - 240) * 262144 + (b1 - 128) * 4096 + (b2 - 128) * 64 + (b3 - 128)) :
 enc r = [b0,b1,b2,b3] ↔ 65536 ≤ r ∧ r ≤ 1114111 := by
 constructor
 · intro h
   have hl := congrArg List.length h
   rw [enc_len] at hl
   simp only [List.length_cons,List.length_nil] at hl
   split at hl
   · omega
   · split at hl
     · omega
     · split at hl
       · omega
       · split at hl
         · omega
         · omega
 · intro h
   unfold enc
   rw [if_neg (by omega),if_neg (by omega),if_neg (by omega),if_neg (by omega)]
   have e0 : 240 + r / 262144 = b0 := by omega
   have e1 : 128 + r / 4096 % 64 = b1 := by omega
   have e2 : 128 + r / 64 % 64 = b2 := by omega
   have e3 : 128 + r % 64 = b3 := by omega
   rw [e0,e1,e2,e3]
theorem enc3 (r b0 b1 b2 : Int) (h1 : 128 ≤ b1 ∧ b1 < 192) (h2 : 128 ≤ b2 ∧ b2 < 192) (h0 : 224 ≤ b0 ∧ b0 < 240) (hr : r = (b0 - 224) * 4096 + (b1 - 128) * 64 + (b2 - 128)) :
 enc r = [b0,b1,b2] ↔ 2048 ≤ r ∧ (r < 55296 ∨ 57344 ≤ r) := by
 constructor
 · intro h
   have hl := congrArg List.length h
   rw [enc_len] at hl
   simp only [List.length_cons,List.length_nil] at hl
   split at hl
   · omega
   · split at hl
     · omega
     · split at hl
       · omega
       · omega
 · intro h
   unfold enc
   rw [if_neg (by omega),if_neg (by omega),if_neg (by omega),if_pos (by omega)]
   have e0 : 224 + r / 4096 = b0 := by omega
   have e1 : 128 + r / 64 % 64 = b1 := by omega
   have e2 : 128 + r % 64 = b2 := by omega
   rw [e0,e1,e2]
theorem enc2 (r b0 b1 : Int) (h1 : 128 ≤ b1 ∧ b1 < 192) (h0 : 192 ≤ b0 ∧ b0 < 224) (hr : r = (b0 - 192) * 64 + (b1 - 128)) : enc r = [b0,b1] ↔ 128 ≤ r := by
 constructor
 · intro h
   have hl := congrArg List.length h
   rw [enc_len] at hl
   simp only [List.length_cons,List.length_nil] at hl
   split at hl
   · omega
   · split at hl
     · omega
     · omega
 · intro h
   unfold enc
   rw [if_neg (by omega),if_neg (by omega),if_pos (by omega)]
   have e0 : 192 + r / 64 = b0 := by omega
   have e1 : 128 + r % 64 = b1 := by omega
   rw [e0,e1]
theorem enc1 (b0 : Int) (h0 : 0 ≤ b0 ∧ b0 < 192) : enc b0 = [b0] ↔ b0 < 128 := by
 constructor
 · intro h
   have hl := congrArg List.length h
   rw [enc_len] at hl
   simp only [List.length_cons,List.length_nil] at hl
   repeat' split at hl
   all_goals omega
 · intro h
   unfold enc
   rw [if_neg (by omega),if_pos h]
theorem decN4 (n : Nat) (b0 b1 b2 b3 : Int) (h : 240 ≤ b0) (hn : b0 < 256) : decN n b0 b1 b2 b3 = if 4 ≤ n ∧ ((128 ≤ b1 ∧ b1 < 192) ∧ (128 ≤ b2 ∧ b2 < 192) ∧ 128 ≤ b3 ∧ b3 < 192) ∧ 65536 ≤ (((b0 - 240) * 64 + (b1 - 128)) * 64 + (b2 - 128)) * 64 + (b3 - 128) ∧ (((b0 - 240) * 64 + (b1 - 128)) * 64 + (b2 - 128)) * 64 + (b3 - 128) ≤ 1114111
 then ((((b0 - 240) * 64 + (b1 - 128)) * 64 + (b2 - 128)) * 64 + (b3 - 128),4) else (0,0) := by
 unfold decN
 rw [if_neg (by omega),if_neg (by omega),if_neg (by omega)]
 repeat' split
 all_goals first | rfl | (exfalso; omega) | (congr 1; omega)
theorem decN3 (n : Nat) (b0 b1 b2 b3 : Int) (h : 224 ≤ b0) (hn : b0 < 240) : decN n b0 b1 b2 b3 = if 3 ≤ n ∧ ((128 ≤ b1 ∧ b1 < 192) ∧ 128 ≤ b2 ∧ b2 < 192) ∧ 2048 ≤ ((b0 - 224) * 64 + (b1 - 128)) * 64 + (b2 - 128) ∧ (((b0 - 224) * 64 + (b1 - 128)) * 64 + (b2 - 128) < 55296 ∨ 57344 ≤ ((b0 - 224) * 64 + (b1 - 128)) * 64 + (b2 - 128))
 then (((b0 - 224) * 64 + (b1 - 128)) * 64 + (b2 - 128),3) else (0,0) := by
 unfold decN
 rw [if_neg (by omega),if_neg (by omega)]
 repeat' split
 all_goals first | rfl | (exfalso; omega) | (congr 1; omega)
theorem decN2 (n : Nat) (b0 b1 b2 b3 : Int) (h : 192 ≤ b0) (hn : b0 < 224) : decN n b0 b1 b2 b3 = if 2 ≤ n ∧ (128 ≤ b1 ∧ b1 < 192) ∧ 128 ≤ (b0 - 192) * 64 + (b1 - 128) then ((b0 - 192) * 64 + (b1 - 128),2) else (0,0) := by
 unfold decN
 rw [if_neg (by omega)]
 repeat' split
 all_goals first | rfl | (exfalso; omega)
theorem decN1 (n : Nat) (b0 b1 b2 b3 : Int) (hn : b0 < 192) : decN n b0 b1 b2 b3 = if b0 < 128 then (b0,1) else (0,0) := by
 unfold decN
 by_cases h : b0 < 128
 · rw [if_pos h,if_pos h]
 · have a1 : ¬ (192 ≤ b0) := by omega
   have a2 : ¬ (224 ≤ b0) := by omega
   have a3 : ¬ (240 ≤ b0) := by omega
   rw [if_neg h,if_neg (fun x => a1 x.1),if_neg (fun x => a2 x.1),if_neg (fun x => a3 x.1),if_neg h]
theorem four (k : Nat) (b0 : Int) (t : List Int) (hl : Bytes (b0 :: t)) (c4 : 240 ≤ b0) : dossierref01_Decode.j0 (k + 10) (b0 :: t) 4 (b0 - 240) = some (decN (b0 :: t).length b0 (t.getD 0 0) (t.getD 1 0) (t.getD 2 0)) := by
 have hb0 := hl b0 (by simp)
 rw [show k + 10 = (k + 9) + 1 from rfl,dossierref01_Decode.j0,decN4 _ _ _ _ _ c4 hb0.2]
 match t,hl with
 | [],_ => rw [if_pos (by simp),if_neg (by simp)]
 | [_],_ => rw [if_pos (by simp),if_neg (by simp)]
 | [_,_],_ => rw [if_pos (by simp),if_neg (by simp)]
 | b1 :: b2 :: b3 :: u,hl =>
  have hx : Bytes [b1,b2,b3] := fun x hx => hl x (List.mem_cons_of_mem _ (show x ∈ [b1,b2,b3] ++ u from List.mem_append_left u hx))
  have hL := loopD (b0 :: b1 :: b2 :: b3 :: u) hl 4 (by decide) (by simp; omega) [b1,b2,b3] hx (by simp) 3 0 (k + 4) (b0 - 240) rfl (by omega) (Or.inl ⟨rfl,Or.inl (by omega)⟩)
  rw [if_neg (by simp; omega),if_pos (by decide),if_pos (by simp; omega)]
  rw [show dossierref01_Decode.l0 (k + 9) (b0 :: b1 :: b2 :: b3 :: u) 4 (b0 - 240) (((b0 :: b1 :: b2 :: b3 :: u).take (4 : Int).toNat).drop 1) ((((b0 :: b1 :: b2 :: b3 :: u).take (4 : Int).toNat).drop 1).length : Int) 0 = _ from hL]
  simp only [List.drop_zero,List.mem_cons,List.not_mem_nil,or_false,forall_eq_or_imp,forall_eq,List.foldl_cons,List.foldl_nil]
  unfold tailD
  rw [show (b0 :: b1 :: b2 :: b3 :: u).take (4 : Int).toNat = [b0,b1,b2,b3] from rfl]
  simp only [List.getD_cons_zero,List.getD_cons_succ]
  have hlen : 4 ≤ (b0 :: b1 :: b2 :: b3 :: u).length := by simp
  generalize (b0 :: b1 :: b2 :: b3 :: u).length = N at hlen ⊢
  by_cases hc : (128 ≤ b1 ∧ b1 < 192) ∧ (128 ≤ b2 ∧ b2 < 192) ∧ 128 ≤ b3 ∧ b3 < 192
  · have e := enc4 ((((b0 - 240) * 64 + (b1 - 128)) * 64 + (b2 - 128)) * 64 + (b3 - 128)) b0 b1 b2 b3 hc.1 hc.2.1 hc.2.2 (by omega)
    rw [if_pos hc]
    by_cases hr : 65536 ≤ (((b0 - 240) * 64 + (b1 - 128)) * 64 + (b2 - 128)) * 64 + (b3 - 128) ∧ (((b0 - 240) * 64 + (b1 - 128)) * 64 + (b2 - 128)) * 64 + (b3 - 128) ≤ 1114111
    · rw [if_pos (e.2 hr),if_pos ⟨hlen,hc,hr⟩]
    · rw [if_neg (fun x => hr (e.1 x)),if_neg (fun x => hr x.2.2)]
  · rw [if_neg hc,if_neg (fun x => hc x.2.1)]
theorem three (k : Nat) (b0 : Int) (t : List Int) (hl : Bytes (b0 :: t)) (c4 : 224 ≤ b0) (c5 : b0 < 240) : dossierref01_Decode.j0 (k + 10) (b0 :: t) 3 (b0 - 224) = some (decN (b0 :: t).length b0 (t.getD 0 0) (t.getD 1 0) (t.getD 2 0)) := by
 rw [show k + 10 = (k + 9) + 1 from rfl,dossierref01_Decode.j0,decN3 _ _ _ _ _ c4 c5]
 match t,hl with
 | [],_ => rw [if_pos (by simp),if_neg (by simp)]
 | [_],_ => rw [if_pos (by simp),if_neg (by simp)]
 | b1 :: b2 :: u,hl =>
  have hx : Bytes [b1,b2] := fun x hx => hl x (List.mem_cons_of_mem _ (show x ∈ [b1,b2] ++ u from List.mem_append_left u hx))
  have hL := loopD (b0 :: b1 :: b2 :: u) hl 3 (by decide) (by simp; omega) [b1,b2] hx (by simp) 2 0 (k + 5) (b0 - 224) rfl (by omega) (Or.inl ⟨rfl,Or.inl (by omega)⟩)
  rw [if_neg (by simp; omega),if_pos (by decide),if_pos (by simp; omega)]
  rw [show dossierref01_Decode.l0 (k + 9) (b0 :: b1 :: b2 :: u) 3 (b0 - 224) (((b0 :: b1 :: b2 :: u).take (3 : Int).toNat).drop 1) ((((b0 :: b1 :: b2 :: u).take (3 : Int).toNat).drop 1).length : Int) 0 = _ from hL]
  simp only [List.drop_zero,List.mem_cons,List.not_mem_nil,or_false,forall_eq_or_imp,forall_eq,List.foldl_cons,List.foldl_nil]
  unfold tailD
  rw [show (b0 :: b1 :: b2 :: u).take (3 : Int).toNat = [b0,b1,b2] from rfl]
  simp only [List.getD_cons_zero,List.getD_cons_succ]
  have hlen : 3 ≤ (b0 :: b1 :: b2 :: u).length := by simp
  generalize (b0 :: b1 :: b2 :: u).length = N at hlen ⊢
  by_cases hc : (128 ≤ b1 ∧ b1 < 192) ∧ 128 ≤ b2 ∧ b2 < 192
  · have e := enc3 (((b0 - 224) * 64 + (b1 - 128)) * 64 + (b2 - 128)) b0 b1 b2 hc.1 hc.2 ⟨c4,c5⟩ (by omega)
    rw [if_pos hc]
    by_cases hr : 2048 ≤ ((b0 - 224) * 64 + (b1 - 128)) * 64 + (b2 - 128) ∧ (((b0 - 224) * 64 + (b1 - 128)) * 64 + (b2 - 128) < 55296 ∨ 57344 ≤ ((b0 - 224) * 64 + (b1 - 128)) * 64 + (b2 - 128))
    · rw [if_pos (e.2 hr),if_pos ⟨hlen,hc,hr⟩]
    · rw [if_neg (fun x => hr (e.1 x)),if_neg (fun x => hr x.2.2)]
  · rw [if_neg hc,if_neg (fun x => hc x.2.1)]
theorem two (k : Nat) (b0 : Int) (t : List Int) (hl : Bytes (b0 :: t)) (c4 : 192 ≤ b0) (c5 : b0 < 224) : dossierref01_Decode.j0 (k + 10) (b0 :: t) 2 (b0 - 192) = some (decN (b0 :: t).length b0 (t.getD 0 0) (t.getD 1 0) (t.getD 2 0)) := by
 rw [show k + 10 = (k + 9) + 1 from rfl,dossierref01_Decode.j0,decN2 _ _ _ _ _ c4 c5]
 match t,hl with
 | [],_ => rw [if_pos (by simp),if_neg (by simp)]
 | b1 :: u,hl =>
  have hx : Bytes [b1] := fun x hx => hl x (List.mem_cons_of_mem _ (show x ∈ [b1] ++ u from List.mem_append_left u hx))
  have hL := loopD (b0 :: b1 :: u) hl 2 (by decide) (by simp; omega) [b1] hx (by simp) 1 0 (k + 6) (b0 - 192) rfl (by omega) (Or.inl ⟨rfl,Or.inl (by omega)⟩)
  rw [if_neg (by simp; omega),if_pos (by decide),if_pos (by simp; omega)]
  rw [show dossierref01_Decode.l0 (k + 9) (b0 :: b1 :: u) 2 (b0 - 192) (((b0 :: b1 :: u).take (2 : Int).toNat).drop 1) ((((b0 :: b1 :: u).take (2 : Int).toNat).drop 1).length : Int) 0 = _ from hL]
  simp only [List.drop_zero,List.mem_cons,List.not_mem_nil,or_false,forall_eq,List.foldl_cons,List.foldl_nil]
  unfold tailD
  rw [show (b0 :: b1 :: u).take (2 : Int).toNat = [b0,b1] from rfl]
  simp only [List.getD_cons_zero]
  have hlen : 2 ≤ (b0 :: b1 :: u).length := by simp
  generalize (b0 :: b1 :: u).length = N at hlen ⊢
  by_cases hc : 128 ≤ b1 ∧ b1 < 192
  · have e := enc2 ((b0 - 192) * 64 + (b1 - 128)) b0 b1 hc ⟨c4,c5⟩ rfl
    rw [if_pos hc]
    by_cases hr : 128 ≤ (b0 - 192) * 64 + (b1 - 128)
    · rw [if_pos (e.2 hr),if_pos ⟨hlen,hc,hr⟩]
    · rw [if_neg (fun x => hr (e.1 x)),if_neg (fun x => hr x.2.2)]
  · rw [if_neg hc,if_neg (fun x => hc x.2.1)]
theorem one (k : Nat) (b0 : Int) (t : List Int) (hl : Bytes (b0 :: t)) (c5 : b0 < 192) : dossierref01_Decode.j0 (k + 10) (b0 :: t) 1 b0 = some (decN (b0 :: t).length b0 (t.getD 0 0) (t.getD 1 0) (t.getD 2 0)) := by
 have hb0 := hl b0 (by simp)
 rw [show k + 10 = (k + 9) + 1 from rfl,dossierref01_Decode.j0,decN1 _ _ _ _ _ c5]
 have hL := loopD (b0 :: t) hl 1 (by decide) (by simp; omega) [] (fun x hx => by cases hx) (by simp) 0 0 (k + 7) b0 rfl (by omega) (Or.inl ⟨rfl,Or.inr ⟨rfl,by omega⟩⟩)
 rw [if_neg (by simp; omega),if_pos (by decide),if_pos (by simp; omega)]
 rw [show dossierref01_Decode.l0 (k + 9) (b0 :: t) 1 b0 (((b0 :: t).take (1 : Int).toNat).drop 1) ((((b0 :: t).take (1 : Int).toNat).drop 1).length : Int) 0 = _ from hL]
 simp only [List.drop_nil,List.not_mem_nil,false_implies,implies_true,if_true,List.foldl_nil]
 unfold tailD
 rw [show (b0 :: t).take (1 : Int).toNat = [b0] from rfl]
 have e := enc1 b0 ⟨hb0.1,c5⟩
 by_cases hr : b0 < 128
 · rw [if_pos (e.2 hr),if_pos hr]
 · rw [if_neg (fun x => hr (e.1 x)),if_neg hr]
theorem ref_Decode_spec (k : Nat) (l : List Int) (hl : Bytes l) : dossierref01_Decode.f (k + 10) l = some (dec l) := by
 cases l with
 | nil => simp [dossierref01_Decode.f,dec]
 | cons b0 t =>
  have hb0 := hl b0 (by simp)
  have hrd : rd (b0 :: t) 0 = b0 := rfl
  unfold dossierref01_Decode.f
  rw [if_neg (by simp; omega),if_pos (by simp),hrd]
  have hdec : dec (b0 :: t) = decN (b0 :: t).length b0 (t.getD 0 0) (t.getD 1 0) (t.getD 2 0) := by unfold dec; rw [if_neg (by simp)]; rfl
  rw [hdec,w64 b0 (by omega) (by omega),w64 (b0 - 240) (by omega) (by omega),w64 (b0 - 224) (by omega) (by omega),w64 (b0 - 192) (by omega) (by omega)]
  by_cases c4 : b0 ≥ 240
  · rw [if_pos c4]; exact four k b0 t hl c4
  · rw [if_neg c4]
    by_cases c3 : b0 ≥ 224
    · rw [if_pos c3]; exact three k b0 t hl c3 (by omega)
    · rw [if_neg c3]
      by_cases c2 : b0 ≥ 192
      · rw [if_pos c2]; exact two k b0 t hl c2 (by omega)
      · rw [if_neg c2]; exact one k b0 t hl (by omega)
/-! ## Characters of XML; where the first byte stands that is none -/
def xmlC (r : Int) : Bool := decide ((32 ≤ r ∧ r ≤ 55295) ∨ (9 ≤ r ∧ r ≤ 10) ∨ r = 13 ∨ (57344 ≤ r ∧ r ≤ 65533) ∨ (65536 ≤ r ∧ r ≤ 1114111))
theorem chars_in_at (r : Int) (xs : List S182) (hlen : xs.length < 1000000) : ∀ d i k : Nat,i + d = xs.length → chars_in.l0 (k + d + 1) r xs (xs.length : Int) (i : Int) = some ((xs.drop i).any fun s => decide (s.f0 ≤ r) && decide (r ≤ s.f1)) := by
 intro d
 induction d with
 | zero =>
  intro i k hi
  rw [chars_in.l0,if_neg (by omega),List.drop_of_length_le (by omega)]; rfl
 | succ d ih =>
  intro i k hi
  have hlt : i < xs.length := by omega
  have e2 : wrap64 ((i : Int) + 1) = ((i + 1 : Nat) : Int) := by rw [w64 _ (by omega) (by omega)]; omega
  have hrd : rd_T182 xs (i : Int) = xs[i] := by simp [rd_T182,List.getD,hlt]
  rw [show k + (d + 1) + 1 = (k + d + 1) + 1 from by omega,chars_in.l0,if_pos (by omega),if_pos (by omega),if_pos (by omega),hrd,List.drop_eq_getElem_cons hlt,e2,ih (i + 1) k (by omega),List.any_cons]
  generalize ((xs.drop (i + 1)).any fun s => decide (s.f0 ≤ r) && decide (r ≤ s.f1)) = v
  by_cases c1 : (xs[i]).f0 ≤ r
  · by_cases c2 : r ≤ (xs[i]).f1
    · simp [c1,c2]
    · simp [c1,c2]
  · simp [c1]
theorem chars_in_spec (r : Int) (xs : List S182) (hlen : xs.length < 1000000) (k : Nat) (hk : xs.length + 1 ≤ k) : chars_in.f k r xs = some (xs.any fun s => decide (s.f0 ≤ r) && decide (r ≤ s.f1)) := by
 have := chars_in_at r xs hlen xs.length 0 (k - xs.length - 1) (by omega)
 rw [show k - xs.length - 1 + xs.length + 1 = k from by omega] at this
 exact this
theorem chars_ofXML_spec (k : Nat) (r : Int) : chars_ofXML.f (k + 10) r = some (xmlC r) := by
 unfold chars_ofXML.f
 rw [chars_in_spec r _ (by simp) _ (by simp),Option.bind_some]
 unfold xmlC
 congr 1
 simp only [List.any_cons,List.any_nil,Bool.or_false]
 rw [Bool.eq_iff_iff]
 simp only [Bool.or_eq_true,Bool.and_eq_true,decide_eq_true_eq]
 omega
/-- Between two of the numbers that stand by twos. -/
def inP (r : Int) : List Int → Bool
 | a :: b :: t => (decide (a ≤ r) && decide (r ≤ b)) || inP r t
 | _ => false
theorem within_at (r : Int) (xs : List Int) (hlen : xs.length < 1000000) : ∀ d i k : Nat,xs.length ≤ i + 2 * d → i ≤ xs.length → dossierref01_within.l0 (k + d + 1) r xs (i : Int) = some (inP r (xs.drop i)) := by
 intro d
 induction d with
 | zero =>
  intro i k hi hi2
  rw [dossierref01_within.l0,w64 ((i : Int) + 1) (by omega) (by omega),if_neg (by omega),List.drop_of_length_le (by omega)]; rfl
 | succ d ih =>
  intro i k hi hi2
  have e1 : wrap64 ((i : Int) + 1) = ((i + 1 : Nat) : Int) := by rw [w64 _ (by omega) (by omega)]; omega
  have e2 : wrap64 ((i : Int) + 2) = ((i + 2 : Nat) : Int) := by rw [w64 _ (by omega) (by omega)]; omega
  rw [show k + (d + 1) + 1 = (k + d + 1) + 1 from by omega,dossierref01_within.l0,e1,e2]
  by_cases hlt : i + 1 < xs.length
  · have h1 : i < xs.length := by omega
    have hrd : rd xs (i : Int) = xs[i] := by simp [rd,List.getD,h1]
    have hrd2 : rd xs ((i + 1 : Nat) : Int) = xs[i + 1] := by simp only [rd,List.getD,Int.toNat_natCast,List.getElem?_eq_getElem hlt,Option.getD_some]
    rw [if_pos (by omega),if_pos (by omega),if_pos (by omega),hrd,hrd2,List.drop_eq_getElem_cons h1,List.drop_eq_getElem_cons hlt,ih (i + 2) k (by omega) (by omega),inP]
    generalize inP r (xs.drop (i + 2)) = v
    by_cases c1 : xs[i] ≤ r
    · by_cases c2 : r ≤ xs[i + 1]
      · rw [if_pos c1,if_pos (by omega),if_pos c2]; simp [c1,c2]
      · rw [if_pos c1,if_pos (by omega),if_neg c2]; simp [c2]
    · rw [if_neg c1]; simp [c1]
  · rw [if_neg (by omega)]
    match hx : xs.drop i with
    | [] => rfl
    | [_] => rfl
    | _ :: _ :: _ => have := congrArg List.length hx; simp at this; omega
theorem within_spec (r : Int) (xs : List Int) (hlen : xs.length < 1000000) (k : Nat) (hk : xs.length + 1 ≤ k) : dossierref01_within.f k r xs = some (inP r xs) := by
 have := within_at r xs hlen xs.length 0 (k - xs.length - 1) (by omega) (by omega)
 rw [show k - xs.length - 1 + xs.length + 1 = k from by omega] at this
 exact this
theorem ref_OfXML_spec (k : Nat) (r : Int) : dossierref01_OfXML.f (k + 20) r = some (xmlC r) := by
 unfold dossierref01_OfXML.f
 rw [within_spec r _ (by simp) _ (by simp),Option.bind_some]
 unfold xmlC
 congr 1
 simp only [inP,Bool.or_false]
 rw [Bool.eq_iff_iff]
 simp only [Bool.or_eq_true,Bool.and_eq_true,decide_eq_true_eq]
 omega
/-- Both searches come to one answer, at enough rounds. -/
theorem wrong_from (l : List Int) (hl : Bytes l) (hlen : l.length ≤ 1000000000000000000) : ∀ (d : Nat) (at_ : Int),0 ≤ at_ → at_ ≤ l.length → (l.length : Int) - at_ ≤ d →
 ∃ v : Int,(v = -1 ∨ (0 ≤ v ∧ v < l.length)) ∧ ∀ k,d + 30 ≤ k → chars_Wrong.l0 k l at_ = some v ∧ dossierref01_Wrong.l0 k l at_ = some v := by
 intro d
 induction d with
 | zero =>
  intro at_ h0 h1 hd
  refine ⟨-1,Or.inl rfl,fun k hk => ?_⟩
  obtain ⟨k,rfl⟩ : ∃ m,k = m + 1 := ⟨k - 1,by omega⟩
  rw [chars_Wrong.l0,dossierref01_Wrong.l0,if_neg (by omega),if_neg (by omega)]
  exact ⟨rfl,rfl⟩
 | succ d ih =>
  intro at_ h0 h1 hd
  by_cases hlt : at_ < (l.length : Int)
  · have hD := dec_two (hl.drop at_.toNat)
    have hdl : ((l.drop at_.toNat).length : Int) = l.length - at_ := by rw [List.length_drop]; omega
    by_cases hz : (dec (l.drop at_.toNat)).2 = 0
    · refine ⟨at_,Or.inr ⟨h0,hlt⟩,fun k hk => ?_⟩
      obtain ⟨k,rfl⟩ : ∃ m,k = m + 20 + 1 := ⟨k - 21,by omega⟩
      rw [chars_Wrong.l0,dossierref01_Wrong.l0]
      simp only [if_pos hlt,if_pos h0,if_pos h1,chars_Decode_spec _ (hl.drop _),ref_Decode_spec (k + 10) _ (hl.drop _),Option.bind_some,if_pos hz,and_self]
    · by_cases hx : xmlC (dec (l.drop at_.toNat)).1 = true
      · have hw : wrap64 (at_ + (dec (l.drop at_.toNat)).2) = at_ + (dec (l.drop at_.toNat)).2 := by unfold wrap64; omega
        obtain ⟨v,hv,hk⟩ := ih (at_ + (dec (l.drop at_.toNat)).2) (by omega) (by omega) (by omega)
        refine ⟨v,hv,fun k hk' => ?_⟩
        obtain ⟨k,rfl⟩ : ∃ m,k = m + 20 + 1 := ⟨k - 21,by omega⟩
        have hk2 := hk (k + 20) (by omega)
        rw [chars_Wrong.l0,dossierref01_Wrong.l0]
        simp only [if_pos hlt,if_pos h0,if_pos h1,chars_Decode_spec _ (hl.drop _),ref_Decode_spec (k + 10) _ (hl.drop _),Option.bind_some,if_neg hz,chars_ofXML_spec (k + 10),ref_OfXML_spec,if_pos hx,hw]
        exact hk2
      · refine ⟨at_,Or.inr ⟨h0,hlt⟩,fun k hk => ?_⟩
        obtain ⟨k,rfl⟩ : ∃ m,k = m + 20 + 1 := ⟨k - 21,by omega⟩
        rw [chars_Wrong.l0,dossierref01_Wrong.l0]
        simp only [if_pos hlt,if_pos h0,if_pos h1,chars_Decode_spec _ (hl.drop _),ref_Decode_spec (k + 10) _ (hl.drop _),Option.bind_some,if_neg hz,chars_ofXML_spec (k + 10),ref_OfXML_spec,if_neg hx,and_self]
  · refine ⟨-1,Or.inl rfl,fun k hk => ?_⟩
    obtain ⟨k,rfl⟩ : ∃ m,k = m + 1 := ⟨k - 1,by omega⟩
    rw [chars_Wrong.l0,dossierref01_Wrong.l0,if_neg hlt,if_neg hlt]
    exact ⟨rfl,rfl⟩
/-- Where the first byte stands that is no character; -1: nowhere. -/
def wrong (l : List Int) : Int := (chars_Wrong.f (l.length + 30) l).getD (-1)
theorem wrong_spec (l : List Int) (hl : Bytes l) (hlen : l.length ≤ 1000000000000000000) (k : Nat) (hk : l.length + 30 ≤ k) : chars_Wrong.f k l = some (wrong l) ∧ dossierref01_Wrong.f k l = some (wrong l) := by
 obtain ⟨v,_,h⟩ := wrong_from l hl hlen l.length 0 (by omega) (by omega) (by omega)
 have e : wrong l = v := by unfold wrong chars_Wrong.f; rw [(h _ (Nat.le_refl _)).1]; rfl
 unfold chars_Wrong.f dossierref01_Wrong.f
 rw [e]; exact h k hk
theorem wrong_nil : wrong [] = -1 := by
 unfold wrong chars_Wrong.f
 rw [chars_Wrong.l0,if_neg (by simp)]; rfl
end Go.Proofs.YtbcpnpbkbndkjaaGreatDoor.Chars
end
section
/- Values: what the program and the reference make of any operator and any two values, told by one plain function. -/
set_option linter.unusedSimpArgs false
set_option linter.unusedVariables false
namespace Go.Proofs.YtbcpnpbkbndkjaaGreatDoor.Values
open Go.RowKit Go.Proofs.YtbcpnpbkbndkjaaGreatDoor.Q Go.Proofs.YtbcpnpbkbndkjaaGreatDoorW.PrintWords Go.Proofs.YtbcpnpbkbndkjaaGreatDoorW.PrintLast Go.Proofs.YtbcpnpbkbndkjaaGreatDoorH Go.Proofs.YtbcpnpbkbndkjaaGreatDoor.Chars

/-! ## Kinds -/
def kindV (op a b : Int) : Int × Bool :=
  if op = 5 then (if a = 2 ∧ b = 0 then (2, true) else (0, false))
  else if op = 6 then (if a = 1 ∧ b = 0 then (1, true) else (0, false))
  else if 7 ≤ op ∧ op ≤ 11 then (if a = 1 ∧ b = 1 then (1, true) else (0, false))
  else if 12 ≤ op ∧ op ≤ 15 then (if a = b ∧ (a = 1 ∨ a = 3) then (2, true) else (0, false))
  else if 16 ≤ op ∧ op ≤ 17 then (if a = b ∧ (1 ≤ a ∧ a ≤ 3) then (2, true) else (0, false))
  else if 18 ≤ op ∧ op ≤ 19 then (if a = 2 ∧ b = 2 then (2, true) else (0, false))
  else (0, false)
def sortV (op : Int) : Int := if op = 5 then 1 else if op = 6 then 2 else if 7 ≤ op ∧ op ≤ 11 then 3 else if 12 ≤ op ∧ op ≤ 15 then 4 else if 16 ≤ op ∧ op ≤ 17 then 5 else if 18 ≤ op ∧ op ≤ 19 then 6 else 0
theorem op_in (op : Int) (h : ¬ (op < 5 ∨ 19 < op)) : op = 5 ∨ op = 6 ∨ op = 7 ∨ op = 8 ∨ op = 9 ∨ op = 10 ∨ op = 11 ∨ op = 12 ∨ op = 13 ∨ op = 14 ∨ op = 15 ∨ op = 16 ∨ op = 17 ∨ op = 18 ∨ op = 19 := by omega
theorem kindV_out (op a b : Int) (h : op < 5 ∨ 19 < op) : kindV op a b = (0, false) := by
  unfold kindV
  rw [if_neg (by omega), if_neg (by omega), if_neg (by omega), if_neg (by omega), if_neg (by omega), if_neg (by omega)]
theorem sortV_out (op : Int) (h : op < 5 ∨ 19 < op) : sortV op = 0 := by
  unfold sortV
  rw [if_neg (by omega), if_neg (by omega), if_neg (by omega), if_neg (by omega), if_neg (by omega), if_neg (by omega)]
/-! ## What may be -/
def canV (k i : Int) (y : Bool) (t : ByteArray) : Bool :=
  if k = 0 then i == 0 && (!y && t.toList.isEmpty)
  else if k = 1 then !y && t.toList.isEmpty
  else if k = 2 then i == 0 && t.toList.isEmpty
  else if k = 3 then i == 0 && (!y && (decide (t.size ≤ 256) && decide (wrong (bytesOf t) < 0)))
  else false
theorem empty_of {t : ByteArray} (h : t.toList = []) : t = ⟨#[]⟩ := by
  rw [Lib.toList_data] at h
  cases t with
  | mk d => congr 1; exact Array.toList_eq_nil_iff.1 h
theorem wrong_none : wrong (bytesOf ⟨#[]⟩) = -1 := wrong_nil
end Go.Proofs.YtbcpnpbkbndkjaaGreatDoor.Values
end
section
/- Strings as lists of numbers. -/

set_option linter.unusedSimpArgs false
set_option linter.unusedVariables false
namespace Go.Proofs.YtbcpnpbkbndkjaaGreatDoor.Bytes
open Go.RowKit Go.Proofs.YtbcpnpbkbndkjaaGreatDoor.Q Go.Proofs.YtbcpnpbkbndkjaaGreatDoorW.PrintWords Go.Proofs.YtbcpnpbkbndkjaaGreatDoorW.PrintLast Go.Proofs.YtbcpnpbkbndkjaaGreatDoorH Go.Proofs.YtbcpnpbkbndkjaaGreatDoor.Chars Go.Proofs.YtbcpnpbkbndkjaaGreatDoor.Values

theorem b_extract (s : ByteArray) (i j : Nat) : bytesOf (s.extract i j) = ((bytesOf s).drop i).take (j - i) := by
  unfold bytesOf
  rw [ByteArray.data_extract, Array.toList_extract, List.extract_eq_take_drop, ← List.map_drop, ← List.map_take]
theorem b_append (s t : ByteArray) : bytesOf (s ++ t) = bytesOf s ++ bytesOf t := by
  unfold bytesOf
  rw [ByteArray.data_append, Array.toList_append, List.map_append]
theorem b_inj {s t : ByteArray} (h : bytesOf s = bytesOf t) : s = t := by
  unfold bytesOf at h
  have := List.map_inj_right (f := fun b : UInt8 => (b.toNat : Int)) (fun x y hxy => UInt8.toNat_inj.1 (Int.ofNat_inj.1 hxy)) |>.1 h
  cases s with
  | mk a => cases t with
    | mk b => congr 1; exact Array.toList_inj.1 this
theorem bt_get (s : ByteArray) (i : Int) : bt s i = (bytesOf s).getD i.toNat 0 := (rd_bytesOf s i).symm
theorem b_str {l : List Int} (h : Bytes l) : bytesOf (strOfNums l) = l := by
  unfold bytesOf
  rw [strOfNums_data, List.map_map]
  conv => rhs; rw [← List.map_id l]
  apply List.map_congr_left
  intro x hx
  have := h x hx
  simp only [Function.comp, id]
  obtain ⟨y, rfl⟩ := Int.eq_ofNat_of_zero_le this.1
  simp
  omega
theorem toList_iff (s : ByteArray) (l : List UInt8) : s.toList = l ↔ bytesOf s = l.map fun b => (b.toNat : Int) := by
  rw [Lib.toList_data]
  unfold bytesOf
  constructor
  · intro h; rw [h]
  · intro h
    exact List.map_inj_right (f := fun b : UInt8 => (b.toNat : Int)) (fun x y hxy => UInt8.toNat_inj.1 (Int.ofNat_inj.1 hxy)) |>.1 h
theorem toList_iff2 (s t : ByteArray) : s.toList = t.toList ↔ bytesOf s = bytesOf t := by
  rw [toList_iff, Lib.toList_data]; rfl
theorem b_size (s : ByteArray) : s.size = (bytesOf s).length := (bytesOf_length s).symm
theorem w64' (x : Int) (h0 : -1000000000000 ≤ x) (h1 : x < 1000000000000) : wrap64 x = x := by unfold wrap64; omega
theorem drop_cons {l : List Int} {i : Nat} (h : i < l.length) : l.drop i = l[i] :: l.drop (i + 1) := List.drop_eq_getElem_cons h
theorem bt_at' {s : ByteArray} {i : Nat} (h : i < (bytesOf s).length) : bt s (i : Int) = (bytesOf s)[i] := by
  rw [bt_get, Int.toNat_natCast, List.getD_eq_getElem?_getD, List.getElem?_eq_getElem h]; rfl

end Go.Proofs.YtbcpnpbkbndkjaaGreatDoor.Bytes
end
section
/- Bytes of a kind; runs. -/
set_option linter.unusedSimpArgs false
set_option linter.unusedVariables false
namespace Go.Proofs.YtbcpnpbkbndkjaaGreatDoor.Bytes
open Go.RowKit Go.Proofs.YtbcpnpbkbndkjaaGreatDoor.Q Go.Proofs.YtbcpnpbkbndkjaaGreatDoorW.PrintWords Go.Proofs.YtbcpnpbkbndkjaaGreatDoorW.PrintLast Go.Proofs.YtbcpnpbkbndkjaaGreatDoorH Go.Proofs.YtbcpnpbkbndkjaaGreatDoor.Chars Go.Proofs.YtbcpnpbkbndkjaaGreatDoor.Values
/-! ## Bytes of a kind -/
def letterV (x : Int) : Bool := (decide (65 ≤ x) && decide (x ≤ 90)) || (decide (97 ≤ x) && decide (x ≤ 122)) || decide (x = 95)
def digitV (x : Int) : Bool := decide (48 ≤ x) && decide (x ≤ 57)
theorem indexByte_neg : ∀ (l : List UInt8) (c : UInt8),(decide (Lib.indexByte l c ≥ 0)) = l.contains c
 | [],c => by simp [Lib.indexByte]
 | b :: l,c => by
  have ih := indexByte_neg l c
  have hg := Lib.indexByte_ge l c
  unfold Lib.indexByte
  by_cases h : b = c
  · subst h; simp
  · have h2 : (b == c) = false := by simp [h]
    have h3 : (c == b) = false := by simp; exact fun x => h x.symm
    rw [List.contains_cons,h3,Bool.false_or,← ih,if_neg (by simp [h])]
    by_cases h4 : Lib.indexByte l c = -1
    · simp [h4]
    · rw [if_neg (by simp [h4])]
      rw [decide_eq_decide]; omega
theorem is_spec (x : Int) (h : 0 ≤ x ∧ x < 256) (t : ByteArray) : lexer_is.f x t = some ((bytesOf t).contains x) := by
 unfold lexer_is.f strings_IndexByte.f
 rw [Option.bind_some,indexByte_neg]
 congr 1
 unfold bytesOf
 obtain ⟨y,rfl⟩ := Int.eq_ofNat_of_zero_le h.1
 have hy : y < 256 := by omega
 rw [Bool.eq_iff_iff,List.contains_iff_mem,List.contains_iff_mem,List.mem_map]
 constructor
 · intro hm
   exact ⟨_,hm,by simp; omega⟩
 · rintro ⟨b,hb,he⟩
   have : b = (y : Int).toNat.toUInt8 := by
    apply UInt8.toNat_inj.1
    have : b.toNat = y := by exact_mod_cast he
    simp [this]; omega
   rw [← this]; exact hb
def LET : ByteArray := ⟨#[65,66,67,68,69,70,71,72,73,74,75,76,77,78,79,80,81,82,83,84,85,86,87,88,89,90,97,98,99,100,101,102,103,104,105,106,107,108,109,110,111,112,113,114,115,116,117,118,119,120,121,122,95]⟩
def LETDIG : ByteArray := ⟨#[65,66,67,68,69,70,71,72,73,74,75,76,77,78,79,80,81,82,83,84,85,86,87,88,89,90,97,98,99,100,101,102,103,104,105,106,107,108,109,110,111,112,113,114,115,116,117,118,119,120,121,122,95,48,49,50,51,52,53,54,55,56,57]⟩
def DIG : ByteArray := ⟨#[48,49,50,51,52,53,54,55,56,57]⟩
theorem sets_are : ∀ y : Fin 256,(bytesOf LET).contains (y.val : Int) = letterV y.val ∧ (bytesOf LETDIG).contains (y.val : Int) = (letterV y.val || digitV y.val) ∧ (bytesOf DIG).contains (y.val : Int) = digitV y.val ∧ (bytesOf ⟨#[34,92]⟩).contains (y.val : Int) = (decide ((y.val : Int) = 34) || decide ((y.val : Int) = 92)) := of_decide_eq_true (by kernel_rfl)
theorem sets_at (x : Int) (h : 0 ≤ x ∧ x < 256) : lexer_is.f x LET = some (letterV x) ∧ lexer_is.f x LETDIG = some (letterV x || digitV x) ∧ lexer_is.f x DIG = some (digitV x) ∧ lexer_is.f x ⟨#[34,92]⟩ = some (decide (x = 34) || decide (x = 92)) := by
 obtain ⟨y,rfl⟩ := Int.eq_ofNat_of_zero_le h.1
 have hy := sets_are ⟨y,by omega⟩
 rw [is_spec _ h,is_spec _ h,is_spec _ h,is_spec _ h]
 exact ⟨congrArg some hy.1,congrArg some hy.2.1,congrArg some hy.2.2.1,congrArg some hy.2.2.2⟩
theorem letter_spec (x : Int) : dossierref08_letter.f x = some (letterV x) := by
 unfold dossierref08_letter.f letterV
 repeat' split
 all_goals (congr 1; rw [Bool.eq_iff_iff]; simp; omega)
theorem digit_spec (x : Int) : dossierref08_digit.f x = some (digitV x) := by
 unfold dossierref08_digit.f digitV
 split
 all_goals (congr 1; rw [Bool.eq_iff_iff]; simp; omega)
/-! ## The longest run -/
theorem run_at (s t : ByteArray) (p : Int → Bool) (hp : ∀ x,0 ≤ x ∧ x < 256 → lexer_is.f x t = some (p x)) (hs : (bytesOf s).length ≤ 1000000) : ∀ d i k : Nat,i + d = (bytesOf s).length →
 lexer_run.l0 (k + d + 1) s t (i : Int) = some (s.extract 0 (i + (((bytesOf s).drop i).takeWhile p).length)) := by
 intro d
 induction d with
 | zero =>
  intro i k hi
  rw [lexer_run.l0,b_size,if_neg (by omega),if_pos (by omega),if_pos (by omega),List.drop_of_length_le (by omega)]
  simp
 | succ d ih =>
  intro i k hi
  have hlt : i < (bytesOf s).length := by omega
  have e2 : wrap64 ((i : Int) + 1) = ((i + 1 : Nat) : Int) := by rw [w64' _ (by omega) (by omega)]; omega
  have hb := bytes_of s _ (List.getElem_mem hlt)
  rw [show k + (d + 1) + 1 = (k + d + 1) + 1 from by omega,lexer_run.l0,b_size,if_pos (by omega),if_pos (by omega),bt_at' hlt,hp _ hb,Option.bind_some,drop_cons hlt,List.takeWhile_cons,e2,ih (i + 1) k (by omega)]
  by_cases h : p (bytesOf s)[i] = true
  · rw [if_pos h,if_pos h,List.length_cons]; congr 2; omega
  · rw [if_neg h,if_neg h,if_pos (by omega)]; simp
theorem run_spec (s t : ByteArray) (p : Int → Bool) (hp : ∀ x,0 ≤ x ∧ x < 256 → lexer_is.f x t = some (p x)) (hs : (bytesOf s).length ≤ 1000000) (k : Nat) (hk : (bytesOf s).length + 1 ≤ k) : lexer_run.f k s t = some (s.extract 0 ((bytesOf s).takeWhile p).length) := by
 have := run_at s t p hp hs _ 0 (k - (bytesOf s).length - 1) (Nat.zero_add _)
 rw [show k - (bytesOf s).length - 1 + (bytesOf s).length + 1 = k from by omega] at this
 unfold lexer_run.f
 simpa using this
theorem name_at (s : ByteArray) (hs : (bytesOf s).length ≤ 1000000) : ∀ d i k : Nat,i + d = (bytesOf s).length →
 dossierref08_word.l0 (k + d + 1) s (i : Int) = some (1,s.extract 0 (i + (((bytesOf s).drop i).takeWhile fun x => letterV x || digitV x).length),0,((i + (((bytesOf s).drop i).takeWhile fun x => letterV x || digitV x).length : Nat) : Int),true) := by
 intro d
 induction d with
 | zero =>
  intro i k hi
  rw [dossierref08_word.l0,b_size,if_neg (by omega),if_pos (by omega),if_pos (by omega),List.drop_of_length_le (by omega)]
  simp
 | succ d ih =>
  intro i k hi
  have hlt : i < (bytesOf s).length := by omega
  have e2 : wrap64 ((i : Int) + 1) = ((i + 1 : Nat) : Int) := by rw [w64' _ (by omega) (by omega)]; omega
  rw [show k + (d + 1) + 1 = (k + d + 1) + 1 from by omega,dossierref08_word.l0,b_size,if_pos (by omega),if_pos (by omega),bt_at' hlt,letter_spec,digit_spec,Option.bind_some,Option.bind_some,drop_cons hlt,List.takeWhile_cons,e2,ih (i + 1) k (by omega)]
  by_cases h : letterV (bytesOf s)[i] = true
  · simp only [h,if_true,Bool.true_or,List.length_cons]
    rw [show i + 1 + (((bytesOf s).drop (i + 1)).takeWhile fun x => letterV x || digitV x).length = i + ((((bytesOf s).drop (i + 1)).takeWhile fun x => letterV x || digitV x).length + 1) from by omega]
  · by_cases h2 : digitV (bytesOf s)[i] = true
    · simp only [h,h2,if_true,Bool.or_true,List.length_cons]
      rw [show i + 1 + (((bytesOf s).drop (i + 1)).takeWhile fun x => letterV x || digitV x).length = i + ((((bytesOf s).drop (i + 1)).takeWhile fun x => letterV x || digitV x).length + 1) from by omega]
      simp
    · simp [h,h2]
      omega
theorem integer_at (s : ByteArray) (hs : (bytesOf s).length ≤ 1000000) (B : Nat) (r : Int × Int) (n : Nat) (hN : ∀ k,B ≤ k → dossierref01_Number.f k (s.extract 0 n) = some r) : ∀ d i k : Nat,i + d = (bytesOf s).length → i + (((bytesOf s).drop i).takeWhile digitV).length = n →
 dossierref08_integer.l0 (B + k + d + 1) s (i : Int) = some (2,⟨#[]⟩,r.1,(n : Int),(r.2 == 0)) := by
 intro d
 induction d with
 | zero =>
  intro i k hi hn
  rw [List.drop_of_length_le (by omega)] at hn
  have hn2 : n = i := by simpa using hn.symm
  subst hn2
  rw [dossierref08_integer.l0,b_size,if_neg (by omega),if_pos (by omega),if_pos (by omega),Int.toNat_natCast,hN _ (by omega)]
  rfl
 | succ d ih =>
  intro i k hi hn
  have hlt : i < (bytesOf s).length := by omega
  have e2 : wrap64 ((i : Int) + 1) = ((i + 1 : Nat) : Int) := by rw [w64' _ (by omega) (by omega)]; omega
  rw [show B + k + (d + 1) + 1 = (B + k + d + 1) + 1 from by omega,dossierref08_integer.l0,b_size,if_pos (by omega),if_pos (by omega),bt_at' hlt,digit_spec,Option.bind_some,e2]
  rw [drop_cons hlt,List.takeWhile_cons] at hn
  by_cases h : digitV (bytesOf s)[i] = true
  · rw [if_pos h] at hn ⊢
    rw [List.length_cons] at hn
    exact ih (i + 1) k (by omega) (by omega)
  · rw [if_neg h] at hn ⊢
    have hn2 : n = i := by simpa using hn.symm
    subst hn2
    rw [if_pos (by omega),Int.toNat_natCast,hN _ (by omega)]; rfl
end Go.Proofs.YtbcpnpbkbndkjaaGreatDoor.Bytes
end
section
/- Numbers: a text of digits is the same number to the program and to the reference. -/
set_option linter.unusedSimpArgs false
set_option linter.unusedVariables false
namespace Go.Proofs.YtbcpnpbkbndkjaaGreatDoor.Num
open Go.RowKit Go.Proofs.YtbcpnpbkbndkjaaGreatDoor.Q Go.Proofs.YtbcpnpbkbndkjaaGreatDoorW.PrintWords Go.Proofs.YtbcpnpbkbndkjaaGreatDoorW.PrintLast Go.Proofs.YtbcpnpbkbndkjaaGreatDoorH Go.Proofs.YtbcpnpbkbndkjaaGreatDoor.Chars Go.Proofs.YtbcpnpbkbndkjaaGreatDoor.Values Go.Proofs.YtbcpnpbkbndkjaaGreatDoor.Bytes
def val (l : List Int) : Int := l.foldl (fun a x => 10 * a + (x - 48)) 0
def Digits (l : List Int) : Prop := ∀ x ∈ l,48 ≤ x ∧ x ≤ 57
theorem val_snoc (l : List Int) (x : Int) : val (l ++ [x]) = 10 * val l + (x - 48) := by unfold val; rw [List.foldl_append]; rfl
theorem Digits.left {l m : List Int} (h : Digits (l ++ m)) : Digits l := fun x hx => h x (List.mem_append_left m hx)
theorem val_range : ∀ (n : Nat) (l : List Int),l.length = n → Digits l → 0 ≤ val l ∧ val l < 10 ^ n := by
 intro n
 induction n with
 | zero => intro l hl _; rw [List.length_eq_zero_iff.1 hl]; decide
 | succ n ih =>
  intro l hl hd
  rcases List.eq_nil_or_concat l with rfl | ⟨m,x,rfl⟩
  · simp at hl
  · rw [List.concat_eq_append] at *
    have hm := ih m (by simpa using hl) hd.left
    have hx := hd x (by simp)
    rw [val_snoc,Int.pow_succ]
    omega
theorem val_take_succ (l : List Int) (i : Nat) (h : i < l.length) : val (l.take (i + 1)) = 10 * val (l.take i) + (l[i] - 48) := by
 have e : l.take (i + 1) = l.take i ++ [l[i]] := by rw [List.take_add_one,List.getElem?_eq_getElem h]; rfl
 rw [e,val_snoc]
theorem val_19 (l : List Int) (h : l.length ≤ 19) (hd : Digits l) : 0 ≤ val l ∧ val l < 10000000000000000000 := by
 have := val_range l.length l rfl hd
 have h2 : (10 : Int) ^ l.length ≤ 10 ^ 19 := by exact_mod_cast Nat.pow_le_pow_right (n := 10) (by decide) h
 have h3 : (10 : Int) ^ 19 = 10000000000000000000 := by decide
 omega
theorem Digits.take {l : List Int} (h : Digits l) (n : Nat) : Digits (l.take n) := fun x hx => h x (List.mem_of_mem_take hx)
/-! ## The program's -/
def endV (V : Int) : Int × Int := if V > 9223372036854775807 then (0,4) else (V,0)
theorem j5_near (k : Nat) (V : Int) (h : 0 ≤ V) : chars_Number.j5 (k + 2) false V false 9223372036854775807 = some (endV V) := by
 rw [chars_Number.j5,if_neg (by decide),chars_Number.j6]
 unfold endV
 by_cases h2 : V > 9223372036854775807
 · rw [if_pos (by simpa using h2),if_pos h2]
 · rw [if_neg (by simpa using h2),if_neg h2,if_neg (by decide)]; congr 2; unfold wrap64; omega
theorem j5_far (k : Nat) (V : Int) : chars_Number.j5 (k + 2) false V true 9223372036854775807 = some (0,4) := by
 rw [chars_Number.j5,if_pos rfl,chars_Number.j6,if_pos rfl]
theorem near_at (s : ByteArray) (hd : Digits (bytesOf s)) (hlen : (bytesOf s).length ≤ 19) : ∀ d i k : Nat,i + d = (bytesOf s).length →
 chars_Number.l0 (k + 2 * d + 3) false (val ((bytesOf s).take i)) false s ((bytesOf s).length : Int) (i : Int) = some (endV (val (bytesOf s))) := by
 intro d
 induction d with
 | zero =>
  intro i k hi
  rw [show k + 2 * 0 + 3 = (k + 2) + 1 from rfl,chars_Number.l0,if_neg (by omega),if_neg (by decide),List.take_of_length_le (by omega)]
  exact j5_near k _ (val_19 _ hlen hd).1
 | succ d ih =>
  intro i k hi
  have hlt : i < (bytesOf s).length := by omega
  have e2 : wrap64 ((i : Int) + 1) = ((i + 1 : Nat) : Int) := by rw [w64' _ (by omega) (by omega)]; omega
  have hx := hd _ (List.getElem_mem hlt)
  have hv := val_19 _ (show ((bytesOf s).take (i + 1)).length ≤ 19 by rw [List.length_take]; omega) (hd.take _)
  have hv0 := val_19 _ (show ((bytesOf s).take i).length ≤ 19 by rw [List.length_take]; omega) (hd.take _)
  have hs := val_take_succ (bytesOf s) i hlt
  rw [show k + 2 * (d + 1) + 3 = ((k + 2 * d + 3) + 1) + 1 from by omega,chars_Number.l0,if_pos (by omega),if_pos (by omega),if_pos (by rw [b_size]; omega),bt_at' hlt,if_neg (by omega),chars_Number.j4,if_neg (by simp; omega),if_neg (by decide),e2]
  have e : IntKind.u64.wrap (IntKind.u64.wrap (10 * val ((bytesOf s).take i)) + ((bytesOf s)[i] - 48) % 256) = val ((bytesOf s).take (i + 1)) := by
   rw [IntKind.wrap_u64,IntKind.wrap_u64]; omega
  rw [e]
  exact ih (i + 1) k (by omega)
theorem far_at (s : ByteArray) (hd : Digits (bytesOf s)) (hs : (bytesOf s).length ≤ 1000000) : ∀ (d i k : Nat) (V : Int),i + d = (bytesOf s).length →
 chars_Number.l0 (k + 2 * d + 3) false V true s ((bytesOf s).length : Int) (i : Int) = some (0,4) := by
 intro d
 induction d with
 | zero =>
  intro i k V hi
  rw [show k + 2 * 0 + 3 = (k + 2) + 1 from rfl,chars_Number.l0,if_neg (by omega),if_neg (by decide)]
  exact j5_far k _
 | succ d ih =>
  intro i k V hi
  have hlt : i < (bytesOf s).length := by omega
  have e2 : wrap64 ((i : Int) + 1) = ((i + 1 : Nat) : Int) := by rw [w64' _ (by omega) (by omega)]; omega
  have hx := hd _ (List.getElem_mem hlt)
  rw [show k + 2 * (d + 1) + 3 = ((k + 2 * d + 3) + 1) + 1 from by omega,chars_Number.l0,if_pos (by omega),if_pos (by omega),if_pos (by rw [b_size]; omega),bt_at' hlt,if_neg (by omega),chars_Number.j4,if_neg (by simp; omega),if_pos rfl,e2]
  exact ih (i + 1) k V (by omega)
/-- What a text of digits is. -/
def numV (l : List Int) : Int × Int := if l.getD 0 0 = 48 ∧ 1 < l.length then (0,5) else if 19 < l.length then (0,4) else endV (val l)
theorem number_spec (s : ByteArray) (hd : Digits (bytesOf s)) (h0 : bytesOf s ≠ []) (hs : (bytesOf s).length ≤ 1000000) (k : Nat) (hk : 2 * (bytesOf s).length + 10 ≤ k) : chars_Number.f k s = some (numV (bytesOf s)) := by
 have hl : 0 < (bytesOf s).length := List.length_pos_iff.2 h0
 have hb : bt s 0 = (bytesOf s)[0] := bt_at' hl
 have hx := hd _ (List.getElem_mem hl)
 have hg : (bytesOf s).getD 0 0 = (bytesOf s)[0] := by rw [List.getD_eq_getElem?_getD,List.getElem?_eq_getElem hl]; rfl
 obtain ⟨k,rfl⟩ : ∃ m,k = m + 2 * (bytesOf s).length + 3 + 3 := ⟨k - 2 * (bytesOf s).length - 6,by omega⟩
 unfold chars_Number.f numV
 rw [b_size,hb,hg,if_pos (by omega),if_pos (by omega),show ((bytesOf s)[0] == 45) = false from by simp; omega]
 rw [chars_Number.j0,if_neg (by decide),chars_Number.j1]
 have hne : ¬ s.toList = [] := by rw [toList_iff]; simpa using h0
 rw [if_neg hne,b_size,if_pos (by omega),hb]
 by_cases h1 : (bytesOf s)[0] = 48
 · rw [if_pos h1]
   by_cases h2 : 1 < (bytesOf s).length
   · rw [if_pos ⟨h1,h2⟩,chars_Number.j2,if_pos (by simp; omega)]
   · rw [if_neg (fun x => h2 x.2),if_neg (by omega),chars_Number.j2,if_neg (by simp; omega),b_size,if_pos (by omega),show (decide (((bytesOf s).length : Int) > 19)) = false from by simp; omega]
     have := near_at s hd (by omega) _ 0 k (Nat.zero_add _)
     exact this
 · rw [if_neg h1,if_neg (fun x => h1 x.1),chars_Number.j2,if_neg (by decide),b_size,if_pos (by omega)]
   by_cases h3 : 19 < (bytesOf s).length
   · rw [if_pos h3,show (decide (((bytesOf s).length : Int) > 19)) = true from by simp; omega]
     exact far_at s hd hs _ 0 k 0 (Nat.zero_add _)
   · rw [if_neg h3,show (decide (((bytesOf s).length : Int) > 19)) = false from by simp; omega]
     exact near_at s hd (by omega) _ 0 k (Nat.zero_add _)
/-! ## The reference's -/
/-- A number has a text, and not a long one. -/
theorem text_total : ∀ (n : Nat) (x : Int),n ≤ 100 → -(10 ^ n : Int) < x → x < 10 ^ n → -9223372036854775808 ≤ x → x ≤ 9223372036854775807 → ∀ k,n + 3 ≤ k → ∃ t,dossierref01_Text.f k x = some t ∧ t.size ≤ n + 2 := by
 intro n
 induction n with
 | zero =>
  intro x _ h1 h2 _ _ k hk
  obtain ⟨k,rfl⟩ : ∃ m,k = m + 1 := ⟨k - 1,by omega⟩
  have : x = 0 := by simp at h1 h2; omega
  subst this
  refine ⟨⟨#[48]⟩,?_,by decide⟩
  rw [dossierref01_Text.f,if_neg (by decide),if_pos (by decide),if_pos (by decide),w64' _ (by decide) (by decide),if_pos (by decide),if_pos (by decide)]
  rfl
 | succ n ih =>
  intro x hn9 h1 h2 h3 h4 k hk
  obtain ⟨k,rfl⟩ : ∃ m,k = m + 1 := ⟨k - 1,by omega⟩
  rw [Int.pow_succ] at h1 h2
  have small : ∀ y : Int,0 ≤ y → y < 10 → ∀ k,1 ≤ k → ∃ t,dossierref01_Text.f k y = some t ∧ t.size = 1 := by
   intro y g1 g2 k hk
   obtain ⟨k,rfl⟩ : ∃ m,k = m + 1 := ⟨k - 1,by omega⟩
   refine ⟨(⟨#[48,49,50,51,52,53,54,55,56,57]⟩ : ByteArray).extract y.toNat (y + 1).toNat,?_,?_⟩
   · rw [dossierref01_Text.f,if_neg (by omega),if_pos (by omega),if_pos (by omega),w64' _ (by omega) (by omega),if_pos (by omega),if_pos (by omega)]
   · rw [b_size,b_extract,List.length_take,List.length_drop]
     have : (bytesOf (⟨#[48,49,50,51,52,53,54,55,56,57]⟩ : ByteArray)).length = 10 := by kernel_rfl
     omega
  rw [dossierref01_Text.f]
  by_cases c1 : x < 0
  · rw [if_pos c1]
    by_cases c2 : x > -10
    · obtain ⟨t,ht,hs⟩ := small (-x) (by omega) (by omega) k (by omega)
      refine ⟨_,by rw [if_pos c2,w64' _ (by omega) (by omega),ht,Option.bind_some,if_pos (by omega)],?_⟩
      rw [ByteArray.size_append,hs]; show 1 + 1 ≤ _; omega
    · have hq : Int.tdiv x 10 = -((-x) / 10) := by rw [show x = -(-x) from by omega,Int.neg_tdiv,Int.tdiv_eq_ediv_of_nonneg (by omega)]; simp
      have hr : Int.tmod x 10 = -((-x) % 10) := by rw [show x = -(-x) from by omega,Int.neg_tmod,Int.tmod_eq_emod_of_nonneg (by omega)]; simp
      obtain ⟨t,ht,hs⟩ := ih (Int.tdiv x 10) (by omega) (by omega) (by omega) (by omega) (by omega) k (by omega)
      obtain ⟨u,hu,hs2⟩ := small (-(Int.tmod x 10)) (by omega) (by omega) k (by omega)
      have e1 : wrap64 (Int.tdiv x 10) = Int.tdiv x 10 := by unfold wrap64; omega
      have e2 : wrap64 (-(Int.tmod x 10)) = -(Int.tmod x 10) := by unfold wrap64; omega
      refine ⟨t ++ u,by rw [if_neg c2,e1,e2,ht,hu,Option.bind_some,Option.bind_some,if_pos (by omega)],?_⟩
      rw [ByteArray.size_append]; omega
  · rw [if_neg c1]
    by_cases c2 : x < 10
    · obtain ⟨t,ht,hs⟩ := small x (by omega) c2 1 (by omega)
      rw [dossierref01_Text.f,if_neg c1,if_pos c2] at ht
      exact ⟨t,by rw [if_pos c2]; exact ht,by omega⟩
    · have hq : Int.tdiv x 10 = x / 10 := Int.tdiv_eq_ediv_of_nonneg (by omega)
      have hr : Int.tmod x 10 = x % 10 := Int.tmod_eq_emod_of_nonneg (by omega)
      obtain ⟨t,ht,hs⟩ := ih (Int.tdiv x 10) (by omega) (by omega) (by omega) (by omega) (by omega) k (by omega)
      obtain ⟨u,hu,hs2⟩ := small (Int.tmod x 10) (by omega) (by omega) k (by omega)
      have e1 : wrap64 (Int.tdiv x 10) = Int.tdiv x 10 := by unfold wrap64; omega
      refine ⟨t ++ u,by rw [if_neg c2,e1,ht,hu,Option.bind_some,Option.bind_some,if_pos (by omega)],?_⟩
      rw [ByteArray.size_append]; omega
theorem text_neg : ∀ (k : Nat) (x : Int) (t : ByteArray),x < 0 → -9223372036854775808 ≤ x → dossierref01_Text.f k x = some t → ∃ u,bytesOf t = 45 :: u := by
 intro k
 induction k with
 | zero => intro x t _ _ h; simp [dossierref01_Text.f] at h
 | succ k ih =>
  intro x t h1 h3 h
  rw [dossierref01_Text.f,if_pos h1] at h
  by_cases c2 : x > -10
  · rw [if_pos c2] at h
    obtain ⟨u,_,h⟩ := Option.bind_eq_some_iff.1 h
    split at h
    · obtain rfl := Option.some.inj h
      exact ⟨bytesOf u,by rw [b_append]; rfl⟩
    · cases h
  · rw [if_neg c2] at h
    obtain ⟨u,hu,h⟩ := Option.bind_eq_some_iff.1 h
    obtain ⟨v,_,h⟩ := Option.bind_eq_some_iff.1 h
    have hq : Int.tdiv x 10 = -((-x) / 10) := by rw [show x = -(-x) from by omega,Int.neg_tdiv,Int.tdiv_eq_ediv_of_nonneg (by omega)]; simp
    have e1 : wrap64 (Int.tdiv x 10) = Int.tdiv x 10 := by unfold wrap64; omega
    rw [e1] at hu
    obtain ⟨u',hu'⟩ := ih _ u (by omega) (by omega) hu
    split at h
    · obtain rfl := Option.some.inj h
      exact ⟨u' ++ bytesOf v,by rw [b_append,hu']; rfl⟩
    · cases h
/-- The text of a number of digits, without a zero ahead, is the digits. -/
theorem text_val : ∀ (n : Nat) (l : List Int),l.length = n → l ≠ [] → Digits l → (l.getD 0 0 = 48 → n = 1) → n ≤ 100 → val l ≤ 9223372036854775807 → ∀ k,n + 1 ≤ k → ∃ t,dossierref01_Text.f k (val l) = some t ∧ bytesOf t = l := by
 intro n
 induction n with
 | zero => intro l hl h0; exact absurd (List.length_eq_zero_iff.1 hl) h0
 | succ n ih =>
  intro l hl h0 hd hz hn hv k hk
  obtain ⟨k,rfl⟩ : ∃ m,k = m + 1 := ⟨k - 1,by omega⟩
  have one : ∀ y : Int,0 ≤ y → y < 10 → ∀ k,1 ≤ k → ∃ t,dossierref01_Text.f k y = some t ∧ bytesOf t = [y + 48] := by
   intro y g1 g2 k hk
   obtain ⟨k,rfl⟩ : ∃ m,k = m + 1 := ⟨k - 1,by omega⟩
   refine ⟨(⟨#[48,49,50,51,52,53,54,55,56,57]⟩ : ByteArray).extract y.toNat (y + 1).toNat,?_,?_⟩
   · rw [dossierref01_Text.f,if_neg (by omega),if_pos (by omega),if_pos (by omega),w64' _ (by omega) (by omega),if_pos (by omega),if_pos (by omega)]
   · rw [b_extract,show bytesOf (⟨#[48,49,50,51,52,53,54,55,56,57]⟩ : ByteArray) = [48,49,50,51,52,53,54,55,56,57] from rfl]
     have hy : y = 0 ∨ y = 1 ∨ y = 2 ∨ y = 3 ∨ y = 4 ∨ y = 5 ∨ y = 6 ∨ y = 7 ∨ y = 8 ∨ y = 9 := by omega
     rcases hy with rfl | rfl | rfl | rfl | rfl | rfl | rfl | rfl | rfl | rfl <;> rfl
  rcases List.eq_nil_or_concat l with rfl | ⟨m,x,rfl⟩
  · exact absurd rfl h0
  · rw [List.concat_eq_append] at *
    have hx := hd x (by simp)
    have hlm : m.length = n := by simpa using hl
    cases hm : m with
    | nil =>
     rw [List.nil_append]
     obtain ⟨t,ht,hb⟩ := one (x - 48) (by omega) (by omega) (k + 1) (by omega)
     have : val [x] = x - 48 := by unfold val; simp
     exact ⟨t,by rw [this]; exact ht,by rw [hb]; congr 1; omega⟩
    | cons y m' =>
     have hm0 : m ≠ [] := by rw [hm]; simp
     have hy : (m ++ [x]).getD 0 0 = y := by rw [hm]; rfl
     have hyd := hd y (by rw [hm]; simp)
     have hn2 : 1 ≤ n := by rw [← hlm,hm]; simp
     have hy48 : y ≠ 48 := fun h => by have := hz (hy.trans h); omega
     have hvm := val_range n m hlm hd.left
     have hpos : 1 ≤ val m := by
      have : ∀ (l : List Int) (a : Int),Digits l → 1 ≤ a → 1 ≤ l.foldl (fun a x => 10 * a + (x - 48)) a := by
       intro l
       induction l with
       | nil => intro a _ h; exact h
       | cons z l ih => intro a hd h; rw [List.foldl_cons]; have := hd z (by simp); exact ih _ (fun w hw => hd w (by simp [hw])) (by omega)
      rw [hm]; unfold val; rw [List.foldl_cons]
      exact this m' _ (fun w hw => hd w (by rw [hm]; simp [hw])) (by omega)
     rw [← hm]
     rw [val_snoc] at hv ⊢
     obtain ⟨t,ht,hb⟩ := ih m hlm hm0 hd.left (fun h => by rw [hm] at h; exact absurd h hy48) (by omega) (by omega) k (by omega)
     obtain ⟨u,hu,hb2⟩ := one (x - 48) (by omega) (by omega) k (by omega)
     have hq : Int.tdiv (10 * val m + (x - 48)) 10 = val m := by rw [Int.tdiv_eq_ediv_of_nonneg (by omega)]; omega
     have hr : Int.tmod (10 * val m + (x - 48)) 10 = x - 48 := by rw [Int.tmod_eq_emod_of_nonneg (by omega)]; omega
     have e1 : wrap64 (val m) = val m := by unfold wrap64; omega
     have s1 : t.size = n := by rw [b_size,hb,hlm]
     have s2 : u.size = 1 := by rw [b_size,hb2]; rfl
     refine ⟨t ++ u,?_,?_⟩
     · rw [dossierref01_Text.f,if_neg (by omega),if_neg (by omega),hq,hr,e1,ht,hu,Option.bind_some,Option.bind_some,if_pos (by omega)]
     · rw [b_append,hb,hb2]; congr 2; omega
/-- The reference's last step: the number's text held against the digits. -/
theorem last_step (s : ByteArray) (hd : Digits (bytesOf s)) (h0 : bytesOf s ≠ []) (hz : (bytesOf s).getD 0 0 = 48 → (bytesOf s).length = 1) (hlen : (bytesOf s).length ≤ 19) (k : Nat) (hk : 30 ≤ k) (x : Int) (hx : x = wrap64 (val (bytesOf s))) :
 ((dossierref01_Text.f k x).bind fun t => (if t.toList = s.toList then (some (x,(0 : Int))) else (some (0,4)))) = some (endV (val (bytesOf s))) := by
 have hv := val_19 _ hlen hd
 unfold endV
 by_cases h : val (bytesOf s) > 9223372036854775807
 · rw [if_pos h]
   have e : x = val (bytesOf s) - 18446744073709551616 := by rw [hx]; unfold wrap64; omega
   obtain ⟨t,ht,_⟩ := text_total 19 x (by omega) (by have : (10 : Int) ^ 19 = 10000000000000000000 := by decide
                                                     omega) (by have : (10 : Int) ^ 19 = 10000000000000000000 := by decide
                                                                omega) (by omega) (by omega) k (by omega)
   obtain ⟨u,hu⟩ := text_neg k x t (by omega) (by omega) ht
   rw [ht,Option.bind_some,if_neg]
   rw [toList_iff2,hu]
   intro hc
   have := hd 45 (by rw [← hc]; simp)
   omega
 · rw [if_neg h]
   have e : x = val (bytesOf s) := by rw [hx]; unfold wrap64; omega
   obtain ⟨t,ht,hb⟩ := text_val _ _ rfl h0 hd hz (by omega) (by omega) k (by omega)
   rw [e,ht,Option.bind_some,if_pos ((toList_iff2 _ _).2 hb)]
theorem ref_l1 (s : ByteArray) (hd : Digits (bytesOf s)) (h0 : bytesOf s ≠ []) (hz : (bytesOf s).getD 0 0 = 48 → (bytesOf s).length = 1) (hlen : (bytesOf s).length ≤ 19) : ∀ d i k : Nat,i + d = (bytesOf s).length →
 dossierref01_Number.l1 (k + d + 31) s s (wrap64 (-(val ((bytesOf s).take i)))) ((bytesOf s).length : Int) (i : Int) = some (endV (val (bytesOf s))) := by
 intro d
 induction d with
 | zero =>
  intro i k hi
  rw [show k + 0 + 31 = (k + 30) + 1 from rfl,dossierref01_Number.l1,if_neg (by omega),if_pos rfl,List.take_of_length_le (by omega)]
  exact last_step s hd h0 hz hlen (k + 30) (by omega) _ (by unfold wrap64; omega)
 | succ d ih =>
  intro i k hi
  have hlt : i < (bytesOf s).length := by omega
  have e2 : wrap64 ((i : Int) + 1) = ((i + 1 : Nat) : Int) := by rw [w64' _ (by omega) (by omega)]; omega
  have hx := hd _ (List.getElem_mem hlt)
  have hs := val_take_succ (bytesOf s) i hlt
  rw [show k + (d + 1) + 31 = (k + d + 31) + 1 from by omega,dossierref01_Number.l1,if_pos (by omega),if_pos (by omega),if_pos (by rw [b_size]; omega),bt_at' hlt,e2]
  have e : wrap64 (wrap64 (10 * wrap64 (-(val ((bytesOf s).take i)))) - ((bytesOf s)[i] - 48) % 256) = wrap64 (-(val ((bytesOf s).take (i + 1)))) := by
   rw [hs]; unfold wrap64; omega
  rw [e]
  exact ih (i + 1) k (by omega)
theorem ref_l0 (s : ByteArray) (hd : Digits (bytesOf s)) (h0 : bytesOf s ≠ []) (hz : (bytesOf s).getD 0 0 = 48 → (bytesOf s).length = 1) (hs : (bytesOf s).length ≤ 1000000) : ∀ d i k : Nat,i + d = (bytesOf s).length →
 dossierref01_Number.l0 (k + d + 60) s s ((bytesOf s).length : Int) (i : Int) = some (if 19 < (bytesOf s).length then (0,4) else endV (val (bytesOf s))) := by
 intro d
 induction d with
 | zero =>
  intro i k hi
  rw [show k + 0 + 60 = (k + 59) + 1 from rfl,dossierref01_Number.l0,if_neg (by omega),b_size]
  by_cases h : 19 < (bytesOf s).length
  · rw [if_pos (by omega),if_pos h]
  · rw [if_neg (by omega),if_neg h]
    have := ref_l1 s hd h0 hz (by omega) _ 0 (k + 28 - (bytesOf s).length) (Nat.zero_add _)
    rw [show k + 28 - (bytesOf s).length + (bytesOf s).length + 31 = k + 59 from by omega] at this
    have e : wrap64 (-(val ((bytesOf s).take 0))) = 0 := by unfold val wrap64; simp
    rw [e] at this
    exact this
 | succ d ih =>
  intro i k hi
  have hlt : i < (bytesOf s).length := by omega
  have e2 : wrap64 ((i : Int) + 1) = ((i + 1 : Nat) : Int) := by rw [w64' _ (by omega) (by omega)]; omega
  have hx := hd _ (List.getElem_mem hlt)
  rw [show k + (d + 1) + 60 = (k + d + 60) + 1 from by omega,dossierref01_Number.l0,if_pos (by omega),if_pos (by omega),if_pos (by rw [b_size]; omega),bt_at' hlt,if_neg (by omega),if_neg (by omega),e2]
  exact ih (i + 1) k (by omega)
theorem ref_number_spec (s : ByteArray) (hd : Digits (bytesOf s)) (h0 : bytesOf s ≠ []) (hs : (bytesOf s).length ≤ 1000000) (k : Nat) (hk : (bytesOf s).length + 70 ≤ k) : dossierref01_Number.f k s = some (numV (bytesOf s)) := by
 have hl : 0 < (bytesOf s).length := List.length_pos_iff.2 h0
 have hb : bt s 0 = (bytesOf s)[0] := bt_at' hl
 have hx := hd _ (List.getElem_mem hl)
 have hg : (bytesOf s).getD 0 0 = (bytesOf s)[0] := by rw [List.getD_eq_getElem?_getD,List.getElem?_eq_getElem hl]; rfl
 obtain ⟨k,rfl⟩ : ∃ m,k = m + (bytesOf s).length + 60 + 3 := ⟨k - (bytesOf s).length - 63,by omega⟩
 unfold dossierref01_Number.f numV
 rw [b_size,hb,hg,if_pos (by omega),if_pos (by omega),show ((bytesOf s)[0] == 45) = false from by simp; omega]
 rw [dossierref01_Number.j0,if_neg (by decide),dossierref01_Number.j1]
 rw [b_size,if_neg (by omega),if_pos (by omega),hb]
 by_cases h1 : (bytesOf s)[0] = 48
 · rw [if_pos h1]
   by_cases h2 : 1 < (bytesOf s).length
   · rw [if_pos ⟨h1,h2⟩,dossierref01_Number.j2,if_pos (by simp; omega)]
   · rw [if_neg (fun x => h2 x.2),dossierref01_Number.j2,if_neg (by simp; omega),b_size]
     exact ref_l0 s hd h0 (fun _ => by omega) hs _ 0 k (Nat.zero_add _)
 · rw [if_neg h1,if_neg (fun x => h1 x.1),dossierref01_Number.j2,if_neg (by decide),b_size]
   exact ref_l0 s hd h0 (fun h => absurd (hg.symm.trans h) h1) hs _ 0 k (Nat.zero_add _)
end Go.Proofs.YtbcpnpbkbndkjaaGreatDoor.Num
end
section
/- Words of texts: what the program and the reference read at the head of a text. -/
set_option linter.unusedSimpArgs false
set_option linter.unusedVariables false
namespace Go.Proofs.YtbcpnpbkbndkjaaGreatDoor.Lex
open Go.RowKit Go.Proofs.YtbcpnpbkbndkjaaGreatDoor.Q Go.Proofs.YtbcpnpbkbndkjaaGreatDoorW.PrintWords Go.Proofs.YtbcpnpbkbndkjaaGreatDoorW.PrintLast Go.Proofs.YtbcpnpbkbndkjaaGreatDoorH Go.Proofs.YtbcpnpbkbndkjaaGreatDoor.Chars Go.Proofs.YtbcpnpbkbndkjaaGreatDoor.Values Go.Proofs.YtbcpnpbkbndkjaaGreatDoor.Bytes Go.Proofs.YtbcpnpbkbndkjaaGreatDoor.Num
/-! ## Good characters -/
inductive Good : List Int → Prop
 | nil : Good []
 | step (l : List Int) : l ≠ [] → (dec l).2 ≠ 0 → xmlC (dec l).1 = true → Good (l.drop (dec l).2.toNat) → Good l
theorem good_iff {l : List Int} (h : l ≠ []) : Good l ↔ (dec l).2 ≠ 0 ∧ xmlC (dec l).1 = true ∧ Good (l.drop (dec l).2.toNat) := by
 constructor
 · intro g
   cases g with
   | nil => exact absurd rfl h
   | step _ _ h1 h2 h3 => exact ⟨h1,h2,h3⟩
 · rintro ⟨h1,h2,h3⟩; exact .step l h h1 h2 h3
theorem good_from (l : List Int) (hl : Bytes l) (hlen : l.length ≤ 1000000000000000000) : ∀ (d : Nat) (at_ : Int),0 ≤ at_ → at_ ≤ l.length → (l.length : Int) - at_ ≤ d →
 ∃ v : Int,(v < 0 ↔ Good (l.drop at_.toNat)) ∧ ∀ k,d + 30 ≤ k → chars_Wrong.l0 k l at_ = some v := by
 intro d
 induction d with
 | zero =>
  intro at_ h0 h1 hd
  refine ⟨-1,?_,fun k hk => ?_⟩
  · rw [List.drop_of_length_le (by omega)]; exact ⟨fun _ => .nil,fun _ => by decide⟩
  · obtain ⟨k,rfl⟩ : ∃ m,k = m + 1 := ⟨k - 1,by omega⟩
    rw [chars_Wrong.l0,if_neg (by omega)]
 | succ d ih =>
  intro at_ h0 h1 hd
  by_cases hlt : at_ < (l.length : Int)
  · have hD := dec_two (hl.drop at_.toNat)
    have hdl : ((l.drop at_.toNat).length : Int) = l.length - at_ := by rw [List.length_drop]; omega
    have hne : l.drop at_.toNat ≠ [] := fun h => by rw [h] at hdl; simp at hdl; omega
    rw [good_iff hne]
    by_cases hz : (dec (l.drop at_.toNat)).2 = 0
    · refine ⟨at_,⟨fun h => by omega,fun h => absurd hz h.1⟩,fun k hk => ?_⟩
      obtain ⟨k,rfl⟩ : ∃ m,k = m + 20 + 1 := ⟨k - 21,by omega⟩
      rw [chars_Wrong.l0]
      simp only [if_pos hlt,if_pos h0,if_pos h1,chars_Decode_spec _ (hl.drop _),Option.bind_some,if_pos hz]
    · by_cases hx : xmlC (dec (l.drop at_.toNat)).1 = true
      · have hw : wrap64 (at_ + (dec (l.drop at_.toNat)).2) = at_ + (dec (l.drop at_.toNat)).2 := by unfold wrap64; omega
        obtain ⟨v,hv,hk⟩ := ih (at_ + (dec (l.drop at_.toNat)).2) (by omega) (by omega) (by omega)
        refine ⟨v,?_,fun k hk' => ?_⟩
        · rw [hv,List.drop_drop,show at_.toNat + (dec (l.drop at_.toNat)).2.toNat = (at_ + (dec (l.drop at_.toNat)).2).toNat from by omega]
          exact ⟨fun h => ⟨hz,hx,h⟩,fun h => h.2.2⟩
        · obtain ⟨k,rfl⟩ : ∃ m,k = m + 20 + 1 := ⟨k - 21,by omega⟩
          have hk2 := hk (k + 20) (by omega)
          rw [chars_Wrong.l0]
          simp only [if_pos hlt,if_pos h0,if_pos h1,chars_Decode_spec _ (hl.drop _),Option.bind_some,if_neg hz,chars_ofXML_spec (k + 10),if_pos hx,hw]
          exact hk2
      · refine ⟨at_,⟨fun h => by omega,fun h => absurd h.2.1 hx⟩,fun k hk => ?_⟩
        obtain ⟨k,rfl⟩ : ∃ m,k = m + 20 + 1 := ⟨k - 21,by omega⟩
        rw [chars_Wrong.l0]
        simp only [if_pos hlt,if_pos h0,if_pos h1,chars_Decode_spec _ (hl.drop _),Option.bind_some,if_neg hz,chars_ofXML_spec (k + 10),if_neg hx]
  · have : at_ = l.length := by omega
    refine ⟨-1,?_,fun k hk => ?_⟩
    · rw [List.drop_of_length_le (by omega)]; exact ⟨fun _ => .nil,fun _ => by decide⟩
    · obtain ⟨k,rfl⟩ : ∃ m,k = m + 1 := ⟨k - 1,by omega⟩
      rw [chars_Wrong.l0,if_neg hlt]
theorem wrong_at (l : List Int) (hl : Bytes l) (hlen : l.length ≤ 1000000000000000000) (k : Nat) (hk : l.length + 30 ≤ k) : chars_Wrong.f k l = some (wrong l) := by
 obtain ⟨v,_,h⟩ := good_from l hl (by omega) l.length 0 (by omega) (by omega) (by omega)
 have e : wrong l = v := by unfold wrong chars_Wrong.f; rw [h _ (Nat.le_refl _)]; rfl
 unfold chars_Wrong.f
 rw [e]; exact h k hk
theorem wrong_good (l : List Int) (hl : Bytes l) (hlen : l.length ≤ 1000000) : wrong l < 0 ↔ Good l := by
 obtain ⟨v,hv,h⟩ := good_from l hl (by omega) l.length 0 (by omega) (by omega) (by omega)
 have e := wrong_at l hl (by omega) (l.length + 30) (by omega)
 unfold chars_Wrong.f at e
 rw [h _ (by omega)] at e
 rw [← Option.some.inj e]
 exact hv
/-! ## A character hangs on its own bytes alone -/
theorem decN_stable (n1 n2 : Nat) (a0 a1 a2 a3 b1 b2 b3 : Int) (c : Int) (h : (decN n1 a0 a1 a2 a3).2 = c) (h0 : c ≠ 0) (e1 : 2 ≤ c → a1 = b1) (e2 : 3 ≤ c → a2 = b2) (e3 : 4 ≤ c → a3 = b3) (hn : c ≤ n2) : decN n2 a0 b1 b2 b3 = decN n1 a0 a1 a2 a3 := by
 subst h
 unfold decN at h0 e1 e2 e3 hn ⊢
 by_cases c1 : a0 < 128
 · simp only [c1,if_true]
 · simp only [c1,if_false] at h0 e1 e2 e3 hn ⊢
   by_cases c2 : 192 ≤ a0 ∧ a0 < 224 ∧ 2 ≤ n1 ∧ 128 ≤ a1 ∧ a1 < 192
   · rw [if_pos c2] at h0 e1 e2 e3 hn ⊢
     by_cases d2 : (a0 - 192) * 64 + (a1 - 128) ≥ 128
     · rw [if_pos d2] at h0 e1 e2 e3 hn ⊢
       have := e1 (by simp)
       subst this
       rw [if_pos ⟨c2.1,c2.2.1,by simp at hn; omega,c2.2.2.2⟩,if_pos d2]
     · rw [if_neg d2] at h0; exact absurd rfl h0
   · rw [if_neg c2] at h0 e1 e2 e3 hn ⊢
     by_cases c3 : 224 ≤ a0 ∧ a0 < 240 ∧ 3 ≤ n1 ∧ (128 ≤ a1 ∧ a1 < 192) ∧ 128 ≤ a2 ∧ a2 < 192
     · rw [if_pos c3] at h0 e1 e2 e3 hn ⊢
       by_cases d3 : 2048 ≤ (a0 - 224) * 4096 + (a1 - 128) * 64 + (a2 - 128) ∧ ((a0 - 224) * 4096 + (a1 - 128) * 64 + (a2 - 128) < 55296 ∨ 57344 ≤ (a0 - 224) * 4096 + (a1 - 128) * 64 + (a2 - 128))
       · rw [if_pos d3] at h0 e1 e2 e3 hn ⊢
         have h1 := e1 (by simp)
         have h2 := e2 (by simp)
         subst h1 h2
         rw [if_neg (fun x => by omega),if_pos ⟨c3.1,c3.2.1,by simp at hn; omega,c3.2.2.2⟩,if_pos d3]
       · rw [if_neg d3] at h0; exact absurd rfl h0
     · rw [if_neg c3] at h0 e1 e2 e3 hn ⊢
       by_cases c4 : 240 ≤ a0 ∧ a0 < 248 ∧ 4 ≤ n1 ∧ (128 ≤ a1 ∧ a1 < 192) ∧ (128 ≤ a2 ∧ a2 < 192) ∧ 128 ≤ a3 ∧ a3 < 192
       · rw [if_pos c4] at h0 e1 e2 e3 hn ⊢
         by_cases d4 : 65536 ≤ (a0 - 240) * 262144 + (a1 - 128) * 4096 + (a2 - 128) * 64 + (a3 - 128) ∧ (a0 - 240) * 262144 + (a1 - 128) * 4096 + (a2 - 128) * 64 + (a3 - 128) ≤ 1114111
         · rw [if_pos d4] at h0 e1 e2 e3 hn ⊢
           have h1 := e1 (by simp)
           have h2 := e2 (by simp)
           have h3 := e3 (by simp)
           subst h1 h2 h3
           rw [if_neg (fun x => by omega),if_neg (fun x => by omega),if_pos ⟨c4.1,c4.2.1,by simp at hn; omega,c4.2.2.2⟩,if_pos d4]
         · rw [if_neg d4] at h0; exact absurd rfl h0
       · rw [if_neg c4] at h0; exact absurd rfl h0
theorem decN_cont (n : Nat) (a0 a1 a2 a3 : Int) : (2 ≤ (decN n a0 a1 a2 a3).2 → 192 ≤ a0 ∧ 128 ≤ a1) ∧ (3 ≤ (decN n a0 a1 a2 a3).2 → 128 ≤ a2) ∧ (4 ≤ (decN n a0 a1 a2 a3).2 → 128 ≤ a3) := by
 unfold decN
 repeat' split
 all_goals (simp only; refine ⟨fun h => ?_,fun h => ?_,fun h => ?_⟩ <;> omega)
theorem getD_take (l m : List Int) (n j : Nat) (h : l.take n = m.take n) (hj : j < n) : l.getD j 0 = m.getD j 0 := by
 have e := congrArg (fun x => x.getD j 0) h
 simp only [List.getD_eq_getElem?_getD,List.getElem?_take,if_pos hj] at e
 simpa [List.getD_eq_getElem?_getD] using e
theorem dec_prefix (l m : List Int) (hm : Bytes m) (h : (dec m).2 ≠ 0) (ht : l.take (dec m).2.toNat = m.take (dec m).2.toNat) : dec l = dec m := by
 have hD := dec_two hm
 have hm0 : m ≠ [] := fun x => h (by rw [x]; rfl)
 have hlen := congrArg List.length ht
 rw [List.length_take,List.length_take] at hlen
 have hl0 : l ≠ [] := fun x => by rw [x] at hlen; simp at hlen; omega
 have e := decN_stable m.length l.length (m.getD 0 0) (m.getD 1 0) (m.getD 2 0) (m.getD 3 0) (l.getD 1 0) (l.getD 2 0) (l.getD 3 0) (dec m).2
  (by unfold dec; rw [if_neg hm0]) h (fun h => (getD_take l m _ 1 ht (by omega)).symm) (fun h => (getD_take l m _ 2 ht (by omega)).symm) (fun h => (getD_take l m _ 3 ht (by omega)).symm) (by omega)
 have e0 := getD_take l m _ 0 ht (by omega)
 unfold dec
 rw [if_neg hl0,if_neg hm0,e0]
 exact e
theorem dec_cont (m : List Int) (hm : Bytes m) (j : Nat) (h1 : 1 ≤ j) (h2 : (j : Int) < (dec m).2) : 128 ≤ m.getD j 0 := by
 have hm0 : m ≠ [] := fun x => by rw [x] at h2; simp [dec] at h2; omega
 have hD := dec_two hm
 unfold dec at h2 hD
 rw [if_neg hm0] at h2 hD
 have := decN_cont m.length (m.getD 0 0) (m.getD 1 0) (m.getD 2 0) (m.getD 3 0)
 have hj : j = 1 ∨ j = 2 ∨ j = 3 := by omega
 rcases hj with rfl | rfl | rfl
 · exact (this.1 (by omega)).2
 · exact this.2.1 (by omega)
 · exact this.2.2 (by omega)
theorem dec_ascii (x : Int) (t : List Int) (h : x < 128) : dec (x :: t) = (x,1) := by
 unfold dec decN
 rw [if_neg (by simp)]
 simp [h]
end Go.Proofs.YtbcpnpbkbndkjaaGreatDoor.Lex
end
section
/- Texts between quotes. -/
set_option linter.unusedSimpArgs false
set_option linter.unusedVariables false
namespace Go.Proofs.YtbcpnpbkbndkjaaGreatDoor.Quoted
open Go.RowKit Go.Proofs.YtbcpnpbkbndkjaaGreatDoor.Q Go.Proofs.YtbcpnpbkbndkjaaGreatDoorW.PrintWords Go.Proofs.YtbcpnpbkbndkjaaGreatDoorW.PrintLast Go.Proofs.YtbcpnpbkbndkjaaGreatDoorH Go.Proofs.YtbcpnpbkbndkjaaGreatDoor.Chars Go.Proofs.YtbcpnpbkbndkjaaGreatDoor.Values Go.Proofs.YtbcpnpbkbndkjaaGreatDoor.Bytes Go.Proofs.YtbcpnpbkbndkjaaGreatDoor.Num Go.Proofs.YtbcpnpbkbndkjaaGreatDoor.Lex
/-- What stands up to the closing quote, without its escapes; and how many bytes that is, with the quote. -/
def scan : List Int → Option (List Int × Nat)
 | [] => none
 | [x] => if x = 34 then some ([],1) else none
 | x :: c :: u =>
  if x = 34 then some ([],1)
  else if x = 92 then (if c = 34 ∨ c = 92 then (scan u).map fun r => (c :: r.1,r.2 + 2) else none)
  else (scan (c :: u)).map fun r => (x :: r.1,r.2 + 1)
theorem scan_quote (t : List Int) : scan (34 :: t) = some ([],1) := by cases t <;> simp [scan]
theorem scan_plain (x : Int) (t : List Int) (h1 : x ≠ 34) (h2 : x ≠ 92) : scan (x :: t) = (scan t).map fun r => (x :: r.1,r.2 + 1) := by
 cases t with
 | nil => simp [scan,h1]
 | cons c u => rw [scan,if_neg h1,if_neg h2]
theorem scan_esc (c : Int) (u : List Int) : scan (92 :: c :: u) = if c = 34 ∨ c = 92 then (scan u).map fun r => (c :: r.1,r.2 + 2) else none := by
 rw [scan,if_neg (by decide),if_pos rfl]
theorem scan_end : scan [92] = none := by simp [scan]
theorem scan_bytes : ∀ (n : Nat) (l : List Int),l.length = n → Bytes l → ∀ o m,scan l = some (o,m) → Bytes o ∧ 1 ≤ m ∧ m ≤ l.length ∧ o.length < m := by
 intro n
 induction n using Nat.strongRecOn with
 | ind n ih =>
  intro l hl hb o m h
  match l,hl,hb,h with
  | [],_,_,h => cases h
  | x :: t,hl,hb,h =>
   by_cases h1 : x = 34
   · subst h1; rw [scan_quote] at h; cases h
     exact ⟨fun x hx => absurd hx (by simp),by simp,by simp,by simp⟩
   · by_cases h2 : x = 92
     · subst h2
       match t,hl,hb,h with
       | [],_,_,h => rw [scan_end] at h; cases h
       | c :: u,hl,hb,h =>
        rw [scan_esc] at h
        split at h
        · obtain ⟨⟨o',m'⟩,hs,he⟩ := Option.map_eq_some_iff.1 h
          cases he
          have := ih u.length (by simp at hl; omega) u rfl (fun x hx => hb x (by simp [hx])) o' m' hs
          refine ⟨fun x hx => ?_,by omega,by simp; omega,by simp; omega⟩
          rcases List.mem_cons.1 hx with rfl | hx
          · exact hb _ (by simp)
          · exact this.1 x hx
        · cases h
     · rw [scan_plain x t h1 h2] at h
       obtain ⟨⟨o',m'⟩,hs,he⟩ := Option.map_eq_some_iff.1 h
       cases he
       have := ih t.length (by simp at hl; omega) t rfl (fun x hx => hb x (by simp [hx])) o' m' hs
       refine ⟨fun y hy => ?_,by omega,by simp; omega,by simp; omega⟩
       rcases List.mem_cons.1 hy with rfl | hy
       · exact hb _ (by simp)
       · exact this.1 y hy
theorem scan_skip : ∀ (n : Nat) (l : List Int),n ≤ l.length → (∀ j,j < n → l.getD j 0 ≠ 34 ∧ l.getD j 0 ≠ 92) → scan l = (scan (l.drop n)).map fun r => (l.take n ++ r.1,r.2 + n) := by
 intro n
 induction n with
 | zero => intro l _ _; simp
 | succ n ih =>
  intro l hl h
  match l,hl,h with
  | x :: t,hl,h =>
   have h0 := h 0 (by omega)
   have ht := ih t (by simpa using hl) (fun j hj => by have := h (j + 1) (by omega); simpa using this)
   rw [scan_plain x t (by simpa using h0.1) (by simpa using h0.2),ht,Option.map_map]
   simp only [List.drop_succ_cons,List.take_succ_cons,List.cons_append]
   rfl
theorem scan_same : ∀ (n : Nat) (l o : List Int) (m : Nat),scan l = some (o,m) → n ≤ o.length → (∀ j,j < n → o.getD j 0 ≠ 34 ∧ o.getD j 0 ≠ 92) → l.take n = o.take n := by
 intro n
 induction n with
 | zero => intro l o m _ _ _; simp
 | succ n ih =>
  intro l o m h hn hj
  match l,h with
  | [],h => cases h
  | x :: t,h =>
   by_cases h1 : x = 34
   · subst h1; rw [scan_quote] at h; cases h; simp at hn
   · by_cases h2 : x = 92
     · subst h2
       match t,h with
       | [],h => rw [scan_end] at h; cases h
       | c :: u,h =>
        rw [scan_esc] at h
        split at h
        · rename_i hc
          obtain ⟨⟨o',m'⟩,hs,he⟩ := Option.map_eq_some_iff.1 h
          cases he
          have := hj 0 (by omega)
          simp at this
          omega
        · cases h
     · rw [scan_plain x t h1 h2] at h
       obtain ⟨⟨o',m'⟩,hs,he⟩ := Option.map_eq_some_iff.1 h
       cases he
       rw [List.take_succ_cons,List.take_succ_cons,ih t o' m' hs (by simpa using hn) (fun j hj2 => by have := hj (j + 1) (by omega); simpa using this)]
/-! ## The program's -/
open Classical in
noncomputable def quoE (w : List Int) (e : Int) : ByteArray × Int := if 256 < w.length ∨ ¬ Lex.Good w then (⟨#[]⟩,0) else (strOfNums w,e)
noncomputable def quoP (out : List Int) (i : Nat) (r : Option (List Int × Nat)) : ByteArray × Int :=
 match r with
 | none => (⟨#[]⟩,0)
 | some (o,n) => quoE (out ++ o) ((i + n : Nat) : Int)
theorem quoP_map (out : List Int) (i : Nat) (r : Option (List Int × Nat)) (c : Int) (n : Nat) : quoP out i (r.map fun r => (c :: r.1,r.2 + n)) = quoP (out ++ [c]) (i + n) r := by
 cases r with
 | none => rfl
 | some r => simp only [Option.map_some,quoP,List.append_assoc,List.cons_append,List.nil_append,show i + (r.2 + n) = i + n + r.2 from by omega]
theorem quoted_at (s : ByteArray) (hs : (bytesOf s).length ≤ 1000) : ∀ (d i k : Nat) (out : List Int),i + d = (bytesOf s).length → Bytes out → out.length ≤ i →
 lexer_quoted.l0 (k + d + 400) s out (i : Int) = some (quoP out i (scan ((bytesOf s).drop i))) := by
 intro d
 induction d using Nat.strongRecOn with
 | ind d ih =>
  intro i k out hi hb ho
  by_cases hlt : i < (bytesOf s).length
  · have hbx := bytes_of s _ (List.getElem_mem hlt)
    have e2 : wrap64 ((i : Int) + 1) = ((i + 1 : Nat) : Int) := by rw [w64' _ (by omega) (by omega)]; omega
    have e3 : wrap64 (((i + 1 : Nat) : Int) + 1) = ((i + 2 : Nat) : Int) := by rw [w64' _ (by omega) (by omega)]; omega
    obtain ⟨d',rfl⟩ : ∃ d',d = d' + 1 := ⟨d - 1,by omega⟩
    rw [show k + (d' + 1) + 400 = (k + d' + 400) + 1 from by omega,lexer_quoted.l0,b_size,if_pos (by omega),if_pos (by omega),bt_at' hlt,e2,drop_cons hlt]
    by_cases h1 : (bytesOf s)[i] = 34
    · rw [if_pos h1,h1,scan_quote]
      have j : ∀ (b : Bool),lexer_quoted.j1 (k + d' + 400) out (i : Int) b = some (if b = true then (⟨#[]⟩,0) else (strOfNums out,((i + 1 : Nat) : Int))) := by
       intro b
       rw [show k + d' + 400 = (k + d' + 399) + 1 from rfl,lexer_quoted.j1,e2]
       cases b <;> rfl
      simp only [quoP,List.append_nil]
      unfold quoE
      by_cases h2 : (out.length : Int) > 256
      · rw [if_pos h2,j,if_pos rfl,if_pos (Or.inl (by omega))]
      · rw [if_neg h2,wrong_at out hb (by omega) _ (by omega),Option.bind_some,j]
        have hg := wrong_good out hb (by omega)
        by_cases h3 : Lex.Good out
        · have := hg.2 h3
          rw [if_neg (by simp; omega),if_neg (fun x => x.elim (fun y => by omega) (fun y => y h3))]
        · have : ¬ wrong out < 0 := fun x => h3 (hg.1 x)
          rw [if_pos (by simp; omega),if_pos (Or.inr h3)]
    · rw [if_neg h1]
      by_cases h2 : (bytesOf s)[i] = 92
      · rw [if_pos h2,h2]
        by_cases h3 : i + 1 < (bytesOf s).length
        · have hbx2 := bytes_of s _ (List.getElem_mem h3)
          obtain ⟨d'',rfl⟩ : ∃ d'',d' = d'' + 1 := ⟨d' - 1,by omega⟩
          rw [if_neg (by omega),if_pos (by omega),if_pos (by omega),bt_at' h3,(sets_at _ hbx2).2.2.2,Option.bind_some,drop_cons h3,scan_esc,e3]
          by_cases h4 : (bytesOf s)[i + 1] = 34 ∨ (bytesOf s)[i + 1] = 92
          · rw [if_pos (by simpa using h4),if_pos h4,if_pos (by omega),quoP_map]
            have := ih d'' (by omega) (i + 2) (k + 1) (out ++ [(bytesOf s)[i + 1]]) (by omega) (fun x hx => by
             rcases List.mem_append.1 hx with hx | hx
             · exact hb x hx
             · simp at hx; omega) (by simp; omega)
            rw [show k + 1 + d'' + 400 = k + (d'' + 1) + 400 from by omega] at this
            exact this
          · rw [if_neg (by simpa using h4),if_neg h4]; rfl
        · rw [if_pos (by omega),List.drop_of_length_le (by omega : (bytesOf s).length ≤ i + 1),scan_end]; rfl
      · rw [if_neg h2,if_pos (by omega),scan_plain _ _ h1 h2,quoP_map]
        exact ih d' (by omega) (i + 1) k _ (by omega) (fun x hx => by
         rcases List.mem_append.1 hx with hx | hx
         · exact hb x hx
         · simp at hx; omega) (by simp; omega)
  · rw [show k + d + 400 = (k + d + 399) + 1 from rfl,lexer_quoted.l0,b_size,if_neg (by omega),List.drop_of_length_le (by omega)]; rfl
/-! ## The reference's -/
theorem good_ascii (x : Int) (t : List Int) (h : x < 128) (hx : xmlC x = true) : Lex.Good (x :: t) ↔ Lex.Good t := by
 rw [good_iff (by simp),dec_ascii x t h]
 simp [hx]
theorem ext_all (s : ByteArray) (i : Nat) : bytesOf (s.extract i s.size) = (bytesOf s).drop i := by
 rw [b_extract,List.take_of_length_le]
 rw [List.length_drop,bytesOf_length]; omega
def Told (x5 : ByteArray) (i : Nat) (sc : Option (List Int × Nat)) (r : Int × ByteArray × Int × Int × Bool) : Prop :=
 (∀ o n,sc = some (o,n) → Lex.Good o → r = (3,x5 ++ strOfNums o,0,((i + n : Nat) : Int),decide (((x5.size + o.length : Nat) : Int) ≤ 256))) ∧
 ((∀ o n,sc = some (o,n) → ¬ Lex.Good o) → r.2.2.2.2 = false)
theorem str_size (l : List Int) : (strOfNums l).size = l.length := strOfNums_size l
theorem str_append {l m : List Int} (hl : Bytes l) (hm : Bytes m) : strOfNums (l ++ m) = strOfNums l ++ strOfNums m := by
 apply b_inj
 rw [b_append,b_str hl,b_str hm,b_str]
 intro x hx
 rcases List.mem_append.1 hx with hx | hx
 · exact hl x hx
 · exact hm x hx
theorem app_assoc (a b c : ByteArray) : a ++ b ++ c = a ++ (b ++ c) := by
 apply b_inj; simp only [b_append,List.append_assoc]
theorem ext_str (s : ByteArray) (i j : Nat) : s.extract i j = strOfNums (((bytesOf s).drop i).take (j - i)) := by
 apply b_inj
 rw [b_extract,b_str]
 exact ((bytes_of s).drop i).take _
theorem nil_append (s : ByteArray) : (⟨#[]⟩ : ByteArray) ++ s = s := by apply b_inj; rw [b_append]; rfl
/-- The rest told makes the whole told: of 'p' bytes written and 'q' read. -/
theorem Told.front {x5 : ByteArray} {i : Nat} {sc : Option (List Int × Nat)} {r : Int × ByteArray × Int × Int × Bool} (p : List Int) (q : Nat) (hp : Bytes p) (hsc : ∀ o n,sc = some (o,n) → Bytes o) (hg : ∀ o,Lex.Good (p ++ o) ↔ Lex.Good o)
 (h : Told (x5 ++ strOfNums p) (i + q) sc r) : Told x5 i (sc.map fun r => (p ++ r.1,r.2 + q)) r := by
 constructor
 · intro o n ho hgo
   obtain ⟨⟨o',n'⟩,hs,he⟩ := Option.map_eq_some_iff.1 ho
   cases he
   rw [h.1 o' n' hs ((hg o').1 hgo),str_append hp (hsc o' n' hs),app_assoc]
   simp only [Prod.mk.injEq,true_and]
   refine ⟨by omega,?_⟩
   rw [ByteArray.size_append,str_size,List.length_append,decide_eq_decide]; omega
 · intro hn
   refine h.2 fun o n hs hgo => ?_
   exact hn (p ++ o) (n + q) (by rw [hs]; rfl) ((hg o).2 hgo)
theorem Told.fail {x5 : ByteArray} {i : Nat} {sc : Option (List Int × Nat)} (h : ∀ o n,sc = some (o,n) → ¬ Lex.Good o) : Told x5 i sc (0,⟨#[]⟩,0,0,false) :=
 ⟨fun o n hs hg => absurd hg (h o n hs),fun _ => rfl⟩
theorem good_head (x : Int) (t o : List Int) (m : Nat) (hb : Bytes (x :: t)) (h1 : x ≠ 34) (h2 : x ≠ 92) (h : scan (x :: t) = some (o,m)) (g : Lex.Good o) : dec (x :: t) = dec o ∧ (dec o).2 ≠ 0 ∧ xmlC (dec o).1 = true := by
 have hO := scan_bytes _ _ rfl hb o m h
 have h' := h
 rw [scan_plain x t h1 h2] at h'
 obtain ⟨⟨o',m'⟩,_,he⟩ := Option.map_eq_some_iff.1 h'
 have ho : o = x :: o' := by cases he; rfl
 have hne : o ≠ [] := by rw [ho]; simp
 have hg := (good_iff hne).1 g
 have hD := dec_two hO.1
 refine ⟨dec_prefix _ _ hO.1 hg.1 (scan_same _ _ _ m h (by omega) fun j hj => ?_),hg.1,hg.2.1⟩
 cases j with
 | zero => rw [ho]; exact ⟨h1,h2⟩
 | succ j => have := dec_cont o hO.1 (j + 1) (by omega) (by omega); omega
theorem good_front (L o : List Int) (hb : Bytes L) (hz : (dec L).2 ≠ 0) (hx : xmlC (dec L).1 = true) : Lex.Good (L.take (dec L).2.toNat ++ o) ↔ Lex.Good o := by
 have hD := dec_two hb
 have hl : (L.take (dec L).2.toNat).length = (dec L).2.toNat := by rw [List.length_take]; omega
 have e : dec (L.take (dec L).2.toNat ++ o) = dec L := dec_prefix _ _ hb hz (by rw [List.take_append_of_le_length (by omega),List.take_of_length_le (by omega)])
 have hne : L.take (dec L).2.toNat ++ o ≠ [] := fun h => by
  have := congrArg List.length h
  rw [List.length_append,hl,List.length_nil] at this
  omega
 rw [good_iff hne,e,List.drop_append_of_le_length (by omega),List.drop_of_length_le (by omega)]
 exact ⟨fun h => h.2.2,fun h => ⟨hz,hx,h⟩⟩
set_option maxHeartbeats 1000000 in
theorem text_at (s : ByteArray) (hs : (bytesOf s).length ≤ 1000) : ∀ (d i k : Nat) (x5 : ByteArray),i + d = (bytesOf s).length → x5.size ≤ i →
 ∃ r,dossierref08_text.l0 (k + d + 60) s x5 (i : Int) = some r ∧ Told x5 i (scan ((bytesOf s).drop i)) r := by
 intro d
 induction d using Nat.strongRecOn with
 | ind d ih =>
  intro i k x5 hi ho
  by_cases hlt : i < (bytesOf s).length
  · have hbx := bytes_of s _ (List.getElem_mem hlt)
    have e2 : wrap64 ((i : Int) + 1) = ((i + 1 : Nat) : Int) := by rw [w64' _ (by omega) (by omega)]; omega
    have e3 : wrap64 ((i : Int) + 2) = ((i + 2 : Nat) : Int) := by rw [w64' _ (by omega) (by omega)]; omega
    obtain ⟨d',rfl⟩ : ∃ d',d = d' + 1 := ⟨d - 1,by omega⟩
    have hss := b_size s
    rw [show k + (d' + 1) + 60 = (k + d' + 60) + 1 from by omega,dossierref08_text.l0,if_pos (by omega),if_pos (by omega),bt_at' hlt,e2,e3]
    by_cases h1 : (bytesOf s)[i] = 34
    · rw [if_pos h1,drop_cons hlt,h1,scan_quote]
      refine ⟨_,rfl,fun o n h g => ?_,fun h => absurd .nil (h [] 1 rfl)⟩
      cases h
      have : x5 ++ strOfNums [] = x5 := by apply b_inj; rw [b_append]; exact List.append_nil _
      rw [this]; rfl
    · rw [if_neg h1]
      by_cases h2 : (bytesOf s)[i] = 92
      · rw [if_pos h2]
        by_cases h3 : i + 1 < (bytesOf s).length
        · have hbx2 := bytes_of s _ (List.getElem_mem h3)
          obtain ⟨d'',rfl⟩ : ∃ d'',d' = d'' + 1 := ⟨d' - 1,by omega⟩
          rw [if_neg (by omega),if_pos (by omega),if_pos (by omega),bt_at' h3,drop_cons hlt,h2,drop_cons h3,scan_esc]
          have hx : s.extract (((i + 1 : Nat) : Int)).toNat (((i + 2 : Nat) : Int)).toNat = strOfNums [(bytesOf s)[i + 1]] := by
           rw [ext_str,Int.toNat_natCast,Int.toNat_natCast,drop_cons h3,show i + 2 - (i + 1) = 1 from by omega]; rfl
          have hsz : (strOfNums [(bytesOf s)[i + 1]]).size = 1 := rfl
          obtain ⟨r,hr,ht⟩ := ih d'' (by omega) (i + 2) (k + 1) (x5 ++ strOfNums [(bytesOf s)[i + 1]]) (by omega) (by rw [ByteArray.size_append,hsz]; omega)
          rw [show k + 1 + d'' + 60 = k + (d'' + 1) + 60 from by omega] at hr
          have hcase : (bytesOf s)[i + 1] = 34 ∨ (bytesOf s)[i + 1] = 92 → Told x5 i ((scan ((bytesOf s).drop (i + 1 + 1))).map fun r => ((bytesOf s)[i + 1] :: r.1,r.2 + 2)) r := fun hc =>
           Told.front [(bytesOf s)[i + 1]] 2 (fun x hx => by simp at hx; omega) (fun o n h => (scan_bytes _ _ rfl ((bytes_of s).drop _) o n h).1)
            (fun o => good_ascii _ o (by omega) (by rcases hc with h | h <;> rw [h] <;> decide)) ht
          by_cases h4 : (bytesOf s)[i + 1] = 34
          · refine ⟨r,?_,?_⟩
            · rw [if_pos h4,if_pos (by omega),if_pos (by omega),hx,hsz,if_pos (by omega)]; exact hr
            · rw [if_pos (Or.inl h4)]; exact hcase (Or.inl h4)
          · by_cases h5 : (bytesOf s)[i + 1] = 92
            · refine ⟨r,?_,?_⟩
              · rw [if_neg h4,if_pos h5,if_pos (by omega),if_pos (by omega),hx,hsz,if_pos (by omega)]; exact hr
              · rw [if_pos (Or.inr h5)]; exact hcase (Or.inr h5)
            · refine ⟨_,by rw [if_neg h4,if_neg h5],?_⟩
              rw [if_neg (fun x => x.elim h4 h5)]
              exact Told.fail fun o n h => by cases h
        · refine ⟨_,by rw [if_pos (by omega)],?_⟩
          rw [drop_cons hlt,h2,List.drop_of_length_le (by omega : (bytesOf s).length ≤ i + 1),scan_end]
          exact Told.fail fun o n h => by cases h
      · rw [if_neg h2,if_pos (by omega)]
        have hb := (bytes_of s).drop i
        have hD := dec_two hb
        have hdl : ((bytesOf s).drop i).length = (bytesOf s).length - i := List.length_drop
        have hex : bytesOf (s.extract ((i : Int)).toNat s.size) = (bytesOf s).drop i := by rw [Int.toNat_natCast,ext_all]
        have hexs : (s.extract ((i : Int)).toNat s.size).size < 140737488355328 := by rw [b_size,hex]; omega
        rw [if_pos hexs,hex,show k + d' + 60 = (k + d' + 50) + 10 from rfl,ref_Decode_spec _ _ hb,Option.bind_some]
        have gh := fun o m => good_head (bytesOf s)[i] ((bytesOf s).drop (i + 1)) o m (by rw [← drop_cons hlt]; exact hb) h1 h2
        rw [← drop_cons hlt] at gh
        by_cases hz : (dec ((bytesOf s).drop i)).2 = 0
        · refine ⟨_,by rw [if_pos hz],Told.fail fun o n h g => ?_⟩
          have := gh o n h g
          rw [← this.1] at this
          exact this.2.1 hz
        · rw [if_neg hz,show k + d' + 50 + 10 = (k + d' + 40) + 20 from rfl,ref_OfXML_spec,Option.bind_some]
          by_cases hx : xmlC (dec ((bytesOf s).drop i)).1 = true
          · have ew : wrap64 ((i : Int) + (dec ((bytesOf s).drop i)).2) = ((i + (dec ((bytesOf s).drop i)).2.toNat : Nat) : Int) := by rw [w64' _ (by omega) (by omega)]; omega
            generalize hn : (dec ((bytesOf s).drop i)).2.toNat = n at ew
            have hxx : s.extract ((i : Int)).toNat (((i + n : Nat) : Int)).toNat = strOfNums (((bytesOf s).drop i).take n) := by
             rw [ext_str,Int.toNat_natCast,Int.toNat_natCast,show i + n - i = n from by omega]
            have hsz : (strOfNums (((bytesOf s).drop i).take n)).size = n := by rw [str_size,List.length_take]; omega
            obtain ⟨r,hr,ht⟩ := ih (d' + 1 - n) (by omega) (i + n) (k + n - 1) (x5 ++ strOfNums (((bytesOf s).drop i).take n)) (by omega) (by rw [ByteArray.size_append,hsz]; omega)
            rw [show k + n - 1 + (d' + 1 - n) + 60 = k + d' + 40 + 20 from by omega] at hr
            refine ⟨r,?_,?_⟩
            · rw [if_pos hx,ew,if_pos (by omega),if_pos (by omega),hxx,hsz,if_pos (by omega)]; exact hr
            · have hsk := scan_skip n ((bytesOf s).drop i) (by omega) fun j hj => by
               cases j with
               | zero => rw [drop_cons hlt]; exact ⟨h1,h2⟩
               | succ j => have := dec_cont _ hb (j + 1) (by omega) (by omega); omega
              rw [hsk,List.drop_drop]
              exact Told.front _ n (hb.take n) (fun o m h => (scan_bytes _ _ rfl ((bytes_of s).drop _) o m h).1) (fun o => by rw [← hn]; exact good_front _ o hb hz hx) ht
          · refine ⟨_,by rw [if_neg hx],Told.fail fun o n h g => ?_⟩
            have := gh o n h g
            rw [← this.1] at this
            exact hx this.2.2
  · rw [show k + d + 60 = (k + d + 59) + 1 from rfl,dossierref08_text.l0,b_size,if_neg (by omega),List.drop_of_length_le (by omega)]
    exact ⟨_,rfl,Told.fail fun o n h => by cases h⟩
end Go.Proofs.YtbcpnpbkbndkjaaGreatDoor.Quoted
end
