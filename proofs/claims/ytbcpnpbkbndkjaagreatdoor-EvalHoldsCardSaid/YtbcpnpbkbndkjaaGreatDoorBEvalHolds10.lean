/- Several texts in one, in their order. -/
import Derived.Test.YtbcpnpbkbndkjaaGreatDoorBEvalHolds6
import Derived.Test.YtbcpnpbkbndkjaaGreatDoorBEvalHolds9
section
/- Numbers: a text of digits is the same number to the program and to the reference. -/
set_option linter.unusedSimpArgs false
set_option linter.unusedVariables false
namespace Go.Proofs.YtbcpnpbkbndkjaaGreatDoor.Num
open Go.RowKit Go.Proofs.YtbcpnpbkbndkjaaGreatDoor.Q Go.Proofs.YtbcpnpbkbndkjaaGreatDoorW.PrintWords Go.Proofs.YtbcpnpbkbndkjaaGreatDoorW.PrintLast Go.Proofs.YtbcpnpbkbndkjaaGreatDoorH Go.Proofs.YtbcpnpbkbndkjaaGreatDoor.Chars Go.Proofs.YtbcpnpbkbndkjaaGreatDoor.Values Go.Proofs.YtbcpnpbkbndkjaaGreatDoor.Bytes
def val (l : List Int) : Int := l.foldl (fun a x => 10 * a + (x - 48)) 0
def Digits (l : List Int) : Prop := ∀ x ∈ l,48 ≤ x ∧ x ≤ 57
theorem val_snoc (l : List Int) (x : Int) : val (l ++ [x]) = 10 * val l + (x - 48) := by unfold val; rw [List.foldl_append]; rfl
theorem Digits.left {l m : List Int} (h : Digits (l ++ m)) : Digits l := fun x hx => h x (List.mem_append_left m hx)
theorem val_range : ∀ (n : Nat) (l : List Int),l.length = n → Digits l → 0 ≤ val l ∧ val l < 10 ^ n := by
 intro n
 induction n with
 | zero => intro l hl _; rw [List.length_eq_zero_iff.1 hl]; decide
 | succ n ih =>
  intro l hl hd
  rcases List.eq_nil_or_concat l with rfl | ⟨m,x,rfl⟩
  · simp at hl
  · rw [List.concat_eq_append] at *
    have hm := ih m (by simpa using hl) hd.left
    have hx := hd x (by simp)
    rw [val_snoc,Int.pow_succ]
    omega
theorem val_take_succ (l : List Int) (i : Nat) (h : i < l.length) : val (l.take (i + 1)) = 10 * val (l.take i) + (l[i] - 48) := by
 have e : l.take (i + 1) = l.take i ++ [l[i]] := by rw [List.take_add_one,List.getElem?_eq_getElem h]; rfl
 rw [e,val_snoc]
theorem val_19 (l : List Int) (h : l.length ≤ 19) (hd : Digits l) : 0 ≤ val l ∧ val l < 10000000000000000000 := by
 have := val_range l.length l rfl hd
 have h2 : (10 : Int) ^ l.length ≤ 10 ^ 19 := by exact_mod_cast Nat.pow_le_pow_right (n := 10) (by decide) h
 have h3 : (10 : Int) ^ 19 = 10000000000000000000 := by decide
 omega
theorem Digits.take {l : List Int} (h : Digits l) (n : Nat) : Digits (l.take n) := fun x hx => h x (List.mem_of_mem_take hx)
/-! ## The program's -/
def endV (V : Int) : Int × Int := if V > 9223372036854775807 then (0,4) else (V,0)
theorem j5_near (k : Nat) (V : Int) (h : 0 ≤ V) : chars_Number.j5 (k + 2) false V false 9223372036854775807 = some (endV V) := by
 rw [chars_Number.j5,if_neg (by decide),chars_Number.j6]
 unfold endV
 by_cases h2 : V > 9223372036854775807
 · rw [if_pos (by simpa using h2),if_pos h2]
 · rw [if_neg (by simpa using h2),if_neg h2,if_neg (by decide)]; congr 2; unfold wrap64; omega
theorem j5_far (k : Nat) (V : Int) : chars_Number.j5 (k + 2) false V true 9223372036854775807 = some (0,4) := by
 rw [chars_Number.j5,if_pos rfl,chars_Number.j6,if_pos rfl]
theorem near_at (s : ByteArray) (hd : Digits (bytesOf s)) (hlen : (bytesOf s).length ≤ 19) : ∀ d i k : Nat,i + d = (bytesOf s).length →
 chars_Number.l0 (k + 2 * d + 3) false (val ((bytesOf s).take i)) false s ((bytesOf s).length : Int) (i : Int) = some (endV (val (bytesOf s))) := by
 intro d
 induction d with
 | zero =>
  intro i k hi
  rw [show k + 2 * 0 + 3 = (k + 2) + 1 from rfl,chars_Number.l0,if_neg (by omega),if_neg (by decide),List.take_of_length_le (by omega)]
  exact j5_near k _ (val_19 _ hlen hd).1
 | succ d ih =>
  intro i k hi
  have hlt : i < (bytesOf s).length := by omega
  have e2 : wrap64 ((i : Int) + 1) = ((i + 1 : Nat) : Int) := by rw [w64' _ (by omega) (by omega)]; omega
  have hx := hd _ (List.getElem_mem hlt)
  have hv := val_19 _ (show ((bytesOf s).take (i + 1)).length ≤ 19 by rw [List.length_take]; omega) (hd.take _)
  have hv0 := val_19 _ (show ((bytesOf s).take i).length ≤ 19 by rw [List.length_take]; omega) (hd.take _)
  have hs := val_take_succ (bytesOf s) i hlt
  rw [show k + 2 * (d + 1) + 3 = ((k + 2 * d + 3) + 1) + 1 from by omega,chars_Number.l0,if_pos (by omega),if_pos (by omega),if_pos (by rw [b_size]; omega),bt_at' hlt,if_neg (by omega),chars_Number.j4,if_neg (by simp; omega),if_neg (by decide),e2]
  have e : IntKind.u64.wrap (IntKind.u64.wrap (10 * val ((bytesOf s).take i)) + ((bytesOf s)[i] - 48) % 256) = val ((bytesOf s).take (i + 1)) := by
   rw [IntKind.wrap_u64,IntKind.wrap_u64]; omega
  rw [e]
  exact ih (i + 1) k (by omega)
theorem far_at (s : ByteArray) (hd : Digits (bytesOf s)) (hs : (bytesOf s).length ≤ 1000000) : ∀ (d i k : Nat) (V : Int),i + d = (bytesOf s).length →
 chars_Number.l0 (k + 2 * d + 3) false V true s ((bytesOf s).length : Int) (i : Int) = some (0,4) := by
 intro d
 induction d with
 | zero =>
  intro i k V hi
  rw [show k + 2 * 0 + 3 = (k + 2) + 1 from rfl,chars_Number.l0,if_neg (by omega),if_neg (by decide)]
  exact j5_far k _
 | succ d ih =>
  intro i k V hi
  have hlt : i < (bytesOf s).length := by omega
  have e2 : wrap64 ((i : Int) + 1) = ((i + 1 : Nat) : Int) := by rw [w64' _ (by omega) (by omega)]; omega
  have hx := hd _ (List.getElem_mem hlt)
  rw [show k + 2 * (d + 1) + 3 = ((k + 2 * d + 3) + 1) + 1 from by omega,chars_Number.l0,if_pos (by omega),if_pos (by omega),if_pos (by rw [b_size]; omega),bt_at' hlt,if_neg (by omega),chars_Number.j4,if_neg (by simp; omega),if_pos rfl,e2]
  exact ih (i + 1) k V (by omega)
/-- What a text of digits is. -/
def numV (l : List Int) : Int × Int := if l.getD 0 0 = 48 ∧ 1 < l.length then (0,5) else if 19 < l.length then (0,4) else endV (val l)
theorem number_spec (s : ByteArray) (hd : Digits (bytesOf s)) (h0 : bytesOf s ≠ []) (hs : (bytesOf s).length ≤ 1000000) (k : Nat) (hk : 2 * (bytesOf s).length + 10 ≤ k) : chars_Number.f k s = some (numV (bytesOf s)) := by
 have hl : 0 < (bytesOf s).length := List.length_pos_iff.2 h0
 have hb : bt s 0 = (bytesOf s)[0] := bt_at' hl
 have hx := hd _ (List.getElem_mem hl)
 have hg : (bytesOf s).getD 0 0 = (bytesOf s)[0] := by rw [List.getD_eq_getElem?_getD,List.getElem?_eq_getElem hl]; rfl
 obtain ⟨k,rfl⟩ : ∃ m,k = m + 2 * (bytesOf s).length + 3 + 3 := ⟨k - 2 * (bytesOf s).length - 6,by omega⟩
 unfold chars_Number.f numV
 rw [b_size,hb,hg,if_pos (by omega),if_pos (by omega),show ((bytesOf s)[0] == 45) = false from by simp; omega]
 rw [chars_Number.j0,if_neg (by decide),chars_Number.j1]
 have hne : ¬ s.toList = [] := by rw [toList_iff]; simpa using h0
 rw [if_neg hne,b_size,if_pos (by omega),hb]
 by_cases h1 : (bytesOf s)[0] = 48
 · rw [if_pos h1]
   by_cases h2 : 1 < (bytesOf s).length
   · rw [if_pos ⟨h1,h2⟩,chars_Number.j2,if_pos (by simp; omega)]
   · rw [if_neg (fun x => h2 x.2),if_neg (by omega),chars_Number.j2,if_neg (by simp; omega),b_size,if_pos (by omega),show (decide (((bytesOf s).length : Int) > 19)) = false from by simp; omega]
     have := near_at s hd (by omega) _ 0 k (Nat.zero_add _)
     exact this
 · rw [if_neg h1,if_neg (fun x => h1 x.1),chars_Number.j2,if_neg (by decide),b_size,if_pos (by omega)]
   by_cases h3 : 19 < (bytesOf s).length
   · rw [if_pos h3,show (decide (((bytesOf s).length : Int) > 19)) = true from by simp; omega]
     exact far_at s hd hs _ 0 k 0 (Nat.zero_add _)
   · rw [if_neg h3,show (decide (((bytesOf s).length : Int) > 19)) = false from by simp; omega]
     exact near_at s hd (by omega) _ 0 k (Nat.zero_add _)
/-! ## The reference's -/
/-- A number has a text, and not a long one. -/
theorem text_total : ∀ (n : Nat) (x : Int),n ≤ 100 → -(10 ^ n : Int) < x → x < 10 ^ n → -9223372036854775808 ≤ x → x ≤ 9223372036854775807 → ∀ k,n + 3 ≤ k → ∃ t,dossierref01_Text.f k x = some t ∧ t.size ≤ n + 2 := by
 intro n
 induction n with
 | zero =>
  intro x _ h1 h2 _ _ k hk
  obtain ⟨k,rfl⟩ : ∃ m,k = m + 1 := ⟨k - 1,by omega⟩
  have : x = 0 := by simp at h1 h2; omega
  subst this
  refine ⟨⟨#[48]⟩,?_,by decide⟩
  rw [dossierref01_Text.f,if_neg (by decide),if_pos (by decide),if_pos (by decide),w64' _ (by decide) (by decide),if_pos (by decide),if_pos (by decide)]
  rfl
 | succ n ih =>
  intro x hn9 h1 h2 h3 h4 k hk
  obtain ⟨k,rfl⟩ : ∃ m,k = m + 1 := ⟨k - 1,by omega⟩
  rw [Int.pow_succ] at h1 h2
  have small : ∀ y : Int,0 ≤ y → y < 10 → ∀ k,1 ≤ k → ∃ t,dossierref01_Text.f k y = some t ∧ t.size = 1 := by
   intro y g1 g2 k hk
   obtain ⟨k,rfl⟩ : ∃ m,k = m + 1 := ⟨k - 1,by omega⟩
   refine ⟨(⟨#[48,49,50,51,52,53,54,55,56,57]⟩ : ByteArray).extract y.toNat (y + 1).toNat,?_,?_⟩
   · rw [dossierref01_Text.f,if_neg (by omega),if_pos (by omega),if_pos (by omega),w64' _ (by omega) (by omega),if_pos (by omega),if_pos (by omega)]
   · rw [b_size,b_extract,List.length_take,List.length_drop]
     have : (bytesOf (⟨#[48,49,50,51,52,53,54,55,56,57]⟩ : ByteArray)).length = 10 := by kernel_rfl
     omega
  rw [dossierref01_Text.f]
  by_cases c1 : x < 0
  · rw [if_pos c1]
    by_cases c2 : x > -10
    · obtain ⟨t,ht,hs⟩ := small (-x) (by omega) (by omega) k (by omega)
      refine ⟨_,by rw [if_pos c2,w64' _ (by omega) (by omega),ht,Option.bind_some,if_pos (by omega)],?_⟩
      rw [ByteArray.size_append,hs]; show 1 + 1 ≤ _; omega
    · have hq : Int.tdiv x 10 = -((-x) / 10) := by rw [show x = -(-x) from by omega,Int.neg_tdiv,Int.tdiv_eq_ediv_of_nonneg (by omega)]; simp
      have hr : Int.tmod x 10 = -((-x) % 10) := by rw [show x = -(-x) from by omega,Int.neg_tmod,Int.tmod_eq_emod_of_nonneg (by omega)]; simp
      obtain ⟨t,ht,hs⟩ := ih (Int.tdiv x 10) (by omega) (by omega) (by omega) (by omega) (by omega) k (by omega)
      obtain ⟨u,hu,hs2⟩ := small (-(Int.tmod x 10)) (by omega) (by omega) k (by omega)
      have e1 : wrap64 (Int.tdiv x 10) = Int.tdiv x 10 := by unfold wrap64; omega
      have e2 : wrap64 (-(Int.tmod x 10)) = -(Int.tmod x 10) := by unfold wrap64; omega
      refine ⟨t ++ u,by rw [if_neg c2,e1,e2,ht,hu,Option.bind_some,Option.bind_some,if_pos (by omega)],?_⟩
      rw [ByteArray.size_append]; omega
  · rw [if_neg c1]
    by_cases c2 : x < 10
    · obtain ⟨t,ht,hs⟩ := small x (by omega) c2 1 (by omega)
      rw [dossierref01_Text.f,if_neg c1,if_pos c2] at ht
      exact ⟨t,by rw [if_pos c2]; exact ht,by omega⟩
    · have hq : Int.tdiv x 10 = x / 10 := Int.tdiv_eq_ediv_of_nonneg (by omega)
      have hr : Int.tmod x 10 = x % 10 := Int.tmod_eq_emod_of_nonneg (by omega)
      obtain ⟨t,ht,hs⟩ := ih (Int.tdiv x 10) (by omega) (by omega) (by omega) (by omega) (by omega) k (by omega)
      obtain ⟨u,hu,hs2⟩ := small (Int.tmod x 10) (by omega) (by omega) k (by omega)
      have e1 : wrap64 (Int.tdiv x 10) = Int.tdiv x 10 := by unfold wrap64; omega
      refine ⟨t ++ u,by rw [if_neg c2,e1,ht,hu,Option.bind_some,Option.bind_some,if_pos (by omega)],?_⟩
      rw [ByteArray.size_append]; omega
theorem text_neg : ∀ (k : Nat) (x : Int) (t : ByteArray),x < 0 → -9223372036854775808 ≤ x → dossierref01_Text.f k x = some t → ∃ u,bytesOf t = 45 :: u := by
 intro k
 induction k with
 | zero => intro x t _ _ h; simp [dossierref01_Text.f] at h
 | succ k ih =>
  intro x t h1 h3 h
  rw [dossierref01_Text.f,if_pos h1] at h
  by_cases c2 : x > -10
  · rw [if_pos c2] at h
    obtain ⟨u,_,h⟩ := Option.bind_eq_some_iff.1 h
    split at h
    · obtain rfl := Option.some.inj h
      exact ⟨bytesOf u,by rw [b_append]; rfl⟩
    · cases h
  · rw [if_neg c2] at h
    obtain ⟨u,hu,h⟩ := Option.bind_eq_some_iff.1 h
    obtain ⟨v,_,h⟩ := Option.bind_eq_some_iff.1 h
    have hq : Int.tdiv x 10 = -((-x) / 10) := by rw [show x = -(-x) from by omega,Int.neg_tdiv,Int.tdiv_eq_ediv_of_nonneg (by omega)]; simp
    have e1 : wrap64 (Int.tdiv x 10) = Int.tdiv x 10 := by unfold wrap64; omega
    rw [e1] at hu
    obtain ⟨u',hu'⟩ := ih _ u (by omega) (by omega) hu
    split at h
    · obtain rfl := Option.some.inj h
      exact ⟨u' ++ bytesOf v,by rw [b_append,hu']; rfl⟩
    · cases h
/-- The text of a number of digits, without a zero ahead, is the digits. -/
theorem text_val : ∀ (n : Nat) (l : List Int),l.length = n → l ≠ [] → Digits l → (l.getD 0 0 = 48 → n = 1) → n ≤ 100 → val l ≤ 9223372036854775807 → ∀ k,n + 1 ≤ k → ∃ t,dossierref01_Text.f k (val l) = some t ∧ bytesOf t = l := by
 intro n
 induction n with
 | zero => intro l hl h0; exact absurd (List.length_eq_zero_iff.1 hl) h0
 | succ n ih =>
  intro l hl h0 hd hz hn hv k hk
  obtain ⟨k,rfl⟩ : ∃ m,k = m + 1 := ⟨k - 1,by omega⟩
  have one : ∀ y : Int,0 ≤ y → y < 10 → ∀ k,1 ≤ k → ∃ t,dossierref01_Text.f k y = some t ∧ bytesOf t = [y + 48] := by
   intro y g1 g2 k hk
   obtain ⟨k,rfl⟩ : ∃ m,k = m + 1 := ⟨k - 1,by omega⟩
   refine ⟨(⟨#[48,49,50,51,52,53,54,55,56,57]⟩ : ByteArray).extract y.toNat (y + 1).toNat,?_,?_⟩
   · rw [dossierref01_Text.f,if_neg (by omega),if_pos (by omega),if_pos (by omega),w64' _ (by omega) (by omega),if_pos (by omega),if_pos (by omega)]
   · rw [b_extract,show bytesOf (⟨#[48,49,50,51,52,53,54,55,56,57]⟩ : ByteArray) = [48,49,50,51,52,53,54,55,56,57] from rfl]
     have hy : y = 0 ∨ y = 1 ∨ y = 2 ∨ y = 3 ∨ y = 4 ∨ y = 5 ∨ y = 6 ∨ y = 7 ∨ y = 8 ∨ y = 9 := by omega
     rcases hy with rfl | rfl | rfl | rfl | rfl | rfl | rfl | rfl | rfl | rfl <;> rfl
  rcases List.eq_nil_or_concat l with rfl | ⟨m,x,rfl⟩
  · exact absurd rfl h0
  · rw [List.concat_eq_append] at *
    have hx := hd x (by simp)
    have hlm : m.length = n := by simpa using hl
    cases hm : m with
    | nil =>
     rw [List.nil_append]
     obtain ⟨t,ht,hb⟩ := one (x - 48) (by omega) (by omega) (k + 1) (by omega)
     have : val [x] = x - 48 := by unfold val; simp
     exact ⟨t,by rw [this]; exact ht,by rw [hb]; congr 1; omega⟩
    | cons y m' =>
     have hm0 : m ≠ [] := by rw [hm]; simp
     have hy : (m ++ [x]).getD 0 0 = y := by rw [hm]; rfl
     have hyd := hd y (by rw [hm]; simp)
     have hn2 : 1 ≤ n := by rw [← hlm,hm]; simp
     have hy48 : y ≠ 48 := fun h => by have := hz (hy.trans h); omega
     have hvm := val_range n m hlm hd.left
     have hpos : 1 ≤ val m := by
      have : ∀ (l : List Int) (a : Int),Digits l → 1 ≤ a → 1 ≤ l.foldl (fun a x => 10 * a + (x - 48)) a := by
       intro l
       induction l with
       | nil => intro a _ h; exact h
       | cons z l ih => intro a hd h; rw [List.foldl_cons]; have := hd z (by simp); exact ih _ (fun w hw => hd w (by simp [hw])) (by omega)
      rw [hm]; unfold val; rw [List.foldl_cons]
      exact this m' _ (fun w hw => hd w (by rw [hm]; simp [hw])) (by omega)
     rw [← hm]
     rw [val_snoc] at hv ⊢
     obtain ⟨t,ht,hb⟩ := ih m hlm hm0 hd.left (fun h => by rw [hm] at h; exact absurd h hy48) (by omega) (by omega) k (by omega)
     obtain ⟨u,hu,hb2⟩ := one (x - 48) (by omega) (by omega) k (by omega)
     have hq : Int.tdiv (10 * val m + (x - 48)) 10 = val m := by rw [Int.tdiv_eq_ediv_of_nonneg (by omega)]; omega
     have hr : Int.tmod (10 * val m + (x - 48)) 10 = x - 48 := by rw [Int.tmod_eq_emod_of_nonneg (by omega)]; omega
     have e1 : wrap64 (val m) = val m := by unfold wrap64; omega
     have s1 : t.size = n := by rw [b_size,hb,hlm]
     have s2 : u.size = 1 := by rw [b_size,hb2]; rfl
     refine ⟨t ++ u,?_,?_⟩
     · rw [dossierref01_Text.f,if_neg (by omega),if_neg (by omega),hq,hr,e1,ht,hu,Option.bind_some,Option.bind_some,if_pos (by omega)]
     · rw [b_append,hb,hb2]; congr 2; omega
/-- The reference's last step: the number's text held against the digits. -/
theorem last_step (s : ByteArray) (hd : Digits (bytesOf s)) (h0 : bytesOf s ≠ []) (hz : (bytesOf s).getD 0 0 = 48 → (bytesOf s).length = 1) (hlen : (bytesOf s).length ≤ 19) (k : Nat) (hk : 30 ≤ k) (x : Int) (hx : x = wrap64 (val (bytesOf s))) :
 ((dossierref01_Text.f k x).bind fun t => (if t.toList = s.toList then (some (x,(0 : Int))) else (some (0,4)))) = some (endV (val (bytesOf s))) := by
 have hv := val_19 _ hlen hd
 unfold endV
 by_cases h : val (bytesOf s) > 9223372036854775807
 · rw [if_pos h]
   have e : x = val (bytesOf s) - 18446744073709551616 := by rw [hx]; unfold wrap64; omega
   obtain ⟨t,ht,_⟩ := text_total 19 x (by omega) (by have : (10 : Int) ^ 19 = 10000000000000000000 := by decide
                                                     omega) (by have : (10 : Int) ^ 19 = 10000000000000000000 := by decide
                                                                omega) (by omega) (by omega) k (by omega)
   obtain ⟨u,hu⟩ := text_neg k x t (by omega) (by omega) ht
   rw [ht,Option.bind_some,if_neg]
   rw [toList_iff2,hu]
   intro hc
   have := hd 45 (by rw [← hc]; simp)
   omega
 · rw [if_neg h]
   have e : x = val (bytesOf s) := by rw [hx]; unfold wrap64; omega
   obtain ⟨t,ht,hb⟩ := text_val _ _ rfl h0 hd hz (by omega) (by omega) k (by omega)
   rw [e,ht,Option.bind_some,if_pos ((toList_iff2 _ _).2 hb)]
theorem ref_l1 (s : ByteArray) (hd : Digits (bytesOf s)) (h0 : bytesOf s ≠ []) (hz : (bytesOf s).getD 0 0 = 48 → (bytesOf s).length = 1) (hlen : (bytesOf s).length ≤ 19) : ∀ d i k : Nat,i + d = (bytesOf s).length →
 dossierref01_Number.l1 (k + d + 31) s s (wrap64 (-(val ((bytesOf s).take i)))) ((bytesOf s).length : Int) (i : Int) = some (endV (val (bytesOf s))) := by
 intro d
 induction d with
 | zero =>
  intro i k hi
  rw [show k + 0 + 31 = (k + 30) + 1 from rfl,dossierref01_Number.l1,if_neg (by omega),if_pos rfl,List.take_of_length_le (by omega)]
  exact last_step s hd h0 hz hlen (k + 30) (by omega) _ (by unfold wrap64; omega)
 | succ d ih =>
  intro i k hi
  have hlt : i < (bytesOf s).length := by omega
  have e2 : wrap64 ((i : Int) + 1) = ((i + 1 : Nat) : Int) := by rw [w64' _ (by omega) (by omega)]; omega
  have hx := hd _ (List.getElem_mem hlt)
  have hs := val_take_succ (bytesOf s) i hlt
  rw [show k + (d + 1) + 31 = (k + d + 31) + 1 from by omega,dossierref01_Number.l1,if_pos (by omega),if_pos (by omega),if_pos (by rw [b_size]; omega),bt_at' hlt,e2]
  have e : wrap64 (wrap64 (10 * wrap64 (-(val ((bytesOf s).take i)))) - ((bytesOf s)[i] - 48) % 256) = wrap64 (-(val ((bytesOf s).take (i + 1)))) := by
   rw [hs]; unfold wrap64; omega
  rw [e]
  exact ih (i + 1) k (by omega)
theorem ref_l0 (s : ByteArray) (hd : Digits (bytesOf s)) (h0 : bytesOf s ≠ []) (hz : (bytesOf s).getD 0 0 = 48 → (bytesOf s).length = 1) (hs : (bytesOf s).length ≤ 1000000) : ∀ d i k : Nat,i + d = (bytesOf s).length →
 dossierref01_Number.l0 (k + d + 60) s s ((bytesOf s).length : Int) (i : Int) = some (if 19 < (bytesOf s).length then (0,4) else endV (val (bytesOf s))) := by
 intro d
 induction d with
 | zero =>
  intro i k hi
  rw [show k + 0 + 60 = (k + 59) + 1 from rfl,dossierref01_Number.l0,if_neg (by omega),b_size]
  by_cases h : 19 < (bytesOf s).length
  · rw [if_pos (by omega),if_pos h]
  · rw [if_neg (by omega),if_neg h]
    have := ref_l1 s hd h0 hz (by omega) _ 0 (k + 28 - (bytesOf s).length) (Nat.zero_add _)
    rw [show k + 28 - (bytesOf s).length + (bytesOf s).length + 31 = k + 59 from by omega] at this
    have e : wrap64 (-(val ((bytesOf s).take 0))) = 0 := by unfold val wrap64; simp
    rw [e] at this
    exact this
 | succ d ih =>
  intro i k hi
  have hlt : i < (bytesOf s).length := by omega
  have e2 : wrap64 ((i : Int) + 1) = ((i + 1 : Nat) : Int) := by rw [w64' _ (by omega) (by omega)]; omega
  have hx := hd _ (List.getElem_mem hlt)
  rw [show k + (d + 1) + 60 = (k + d + 60) + 1 from by omega,dossierref01_Number.l0,if_pos (by omega),if_pos (by omega),if_pos (by rw [b_size]; omega),bt_at' hlt,if_neg (by omega),if_neg (by omega),e2]
  exact ih (i + 1) k (by omega)
theorem ref_number_spec (s : ByteArray) (hd : Digits (bytesOf s)) (h0 : bytesOf s ≠ []) (hs : (bytesOf s).length ≤ 1000000) (k : Nat) (hk : (bytesOf s).length + 70 ≤ k) : dossierref01_Number.f k s = some (numV (bytesOf s)) := by
 have hl : 0 < (bytesOf s).length := List.length_pos_iff.2 h0
 have hb : bt s 0 = (bytesOf s)[0] := bt_at' hl
 have hx := hd _ (List.getElem_mem hl)
 have hg : (bytesOf s).getD 0 0 = (bytesOf s)[0] := by rw [List.getD_eq_getElem?_getD,List.getElem?_eq_getElem hl]; rfl
 obtain ⟨k,rfl⟩ : ∃ m,k = m + (bytesOf s).length + 60 + 3 := ⟨k - (bytesOf s).length - 63,by omega⟩
 unfold dossierref01_Number.f numV
 rw [b_size,hb,hg,if_pos (by omega),if_pos (by omega),show ((bytesOf s)[0] == 45) = false from by simp; omega]
 rw [dossierref01_Number.j0,if_neg (by decide),dossierref01_Number.j1]
 rw [b_size,if_neg (by omega),if_pos (by omega),hb]
 by_cases h1 : (bytesOf s)[0] = 48
 · rw [if_pos h1]
   by_cases h2 : 1 < (bytesOf s).length
   · rw [if_pos ⟨h1,h2⟩,dossierref01_Number.j2,if_pos (by simp; omega)]
   · rw [if_neg (fun x => h2 x.2),dossierref01_Number.j2,if_neg (by simp; omega),b_size]
     exact ref_l0 s hd h0 (fun _ => by omega) hs _ 0 k (Nat.zero_add _)
 · rw [if_neg h1,if_neg (fun x => h1 x.1),dossierref01_Number.j2,if_neg (by decide),b_size]
   exact ref_l0 s hd h0 (fun h => absurd (hg.symm.trans h) h1) hs _ 0 k (Nat.zero_add _)
end Go.Proofs.YtbcpnpbkbndkjaaGreatDoor.Num
end
section
/- Words of texts: what the program and the reference read at the head of a text. -/
set_option linter.unusedSimpArgs false
set_option linter.unusedVariables false
namespace Go.Proofs.YtbcpnpbkbndkjaaGreatDoor.Lex
open Go.RowKit Go.Proofs.YtbcpnpbkbndkjaaGreatDoor.Q Go.Proofs.YtbcpnpbkbndkjaaGreatDoorW.PrintWords Go.Proofs.YtbcpnpbkbndkjaaGreatDoorW.PrintLast Go.Proofs.YtbcpnpbkbndkjaaGreatDoorH Go.Proofs.YtbcpnpbkbndkjaaGreatDoor.Chars Go.Proofs.YtbcpnpbkbndkjaaGreatDoor.Values Go.Proofs.YtbcpnpbkbndkjaaGreatDoor.Bytes Go.Proofs.YtbcpnpbkbndkjaaGreatDoor.Num
/-! ## Good characters -/
inductive Good : List Int → Prop
 | nil : Good []
 | step (l : List Int) : l ≠ [] → (dec l).2 ≠ 0 → xmlC (dec l).1 = true → Good (l.drop (dec l).2.toNat) → Good l
theorem good_iff {l : List Int} (h : l ≠ []) : Good l ↔ (dec l).2 ≠ 0 ∧ xmlC (dec l).1 = true ∧ Good (l.drop (dec l).2.toNat) := by
 constructor
 · intro g
   cases g with
   | nil => exact absurd rfl h
   | step _ _ h1 h2 h3 => exact ⟨h1,h2,h3⟩
 · rintro ⟨h1,h2,h3⟩; exact .step l h h1 h2 h3
theorem good_from (l : List Int) (hl : Bytes l) (hlen : l.length ≤ 1000000000000000000) : ∀ (d : Nat) (at_ : Int),0 ≤ at_ → at_ ≤ l.length → (l.length : Int) - at_ ≤ d →
 ∃ v : Int,(v < 0 ↔ Good (l.drop at_.toNat)) ∧ ∀ k,d + 30 ≤ k → chars_Wrong.l0 k l at_ = some v := by
 intro d
 induction d with
 | zero =>
  intro at_ h0 h1 hd
  refine ⟨-1,?_,fun k hk => ?_⟩
  · rw [List.drop_of_length_le (by omega)]; exact ⟨fun _ => .nil,fun _ => by decide⟩
  · obtain ⟨k,rfl⟩ : ∃ m,k = m + 1 := ⟨k - 1,by omega⟩
    rw [chars_Wrong.l0,if_neg (by omega)]
 | succ d ih =>
  intro at_ h0 h1 hd
  by_cases hlt : at_ < (l.length : Int)
  · have hD := dec_two (hl.drop at_.toNat)
    have hdl : ((l.drop at_.toNat).length : Int) = l.length - at_ := by rw [List.length_drop]; omega
    have hne : l.drop at_.toNat ≠ [] := fun h => by rw [h] at hdl; simp at hdl; omega
    rw [good_iff hne]
    by_cases hz : (dec (l.drop at_.toNat)).2 = 0
    · refine ⟨at_,⟨fun h => by omega,fun h => absurd hz h.1⟩,fun k hk => ?_⟩
      obtain ⟨k,rfl⟩ : ∃ m,k = m + 20 + 1 := ⟨k - 21,by omega⟩
      rw [chars_Wrong.l0]
      simp only [if_pos hlt,if_pos h0,if_pos h1,chars_Decode_spec _ (hl.drop _),Option.bind_some,if_pos hz]
    · by_cases hx : xmlC (dec (l.drop at_.toNat)).1 = true
      · have hw : wrap64 (at_ + (dec (l.drop at_.toNat)).2) = at_ + (dec (l.drop at_.toNat)).2 := by unfold wrap64; omega
        obtain ⟨v,hv,hk⟩ := ih (at_ + (dec (l.drop at_.toNat)).2) (by omega) (by omega) (by omega)
        refine ⟨v,?_,fun k hk' => ?_⟩
        · rw [hv,List.drop_drop,show at_.toNat + (dec (l.drop at_.toNat)).2.toNat = (at_ + (dec (l.drop at_.toNat)).2).toNat from by omega]
          exact ⟨fun h => ⟨hz,hx,h⟩,fun h => h.2.2⟩
        · obtain ⟨k,rfl⟩ : ∃ m,k = m + 20 + 1 := ⟨k - 21,by omega⟩
          have hk2 := hk (k + 20) (by omega)
          rw [chars_Wrong.l0]
          simp only [if_pos hlt,if_pos h0,if_pos h1,chars_Decode_spec _ (hl.drop _),Option.bind_some,if_neg hz,chars_ofXML_spec (k + 10),if_pos hx,hw]
          exact hk2
      · refine ⟨at_,⟨fun h => by omega,fun h => absurd h.2.1 hx⟩,fun k hk => ?_⟩
        obtain ⟨k,rfl⟩ : ∃ m,k = m + 20 + 1 := ⟨k - 21,by omega⟩
        rw [chars_Wrong.l0]
        simp only [if_pos hlt,if_pos h0,if_pos h1,chars_Decode_spec _ (hl.drop _),Option.bind_some,if_neg hz,chars_ofXML_spec (k + 10),if_neg hx]
  · have : at_ = l.length := by omega
    refine ⟨-1,?_,fun k hk => ?_⟩
    · rw [List.drop_of_length_le (by omega)]; exact ⟨fun _ => .nil,fun _ => by decide⟩
    · obtain ⟨k,rfl⟩ : ∃ m,k = m + 1 := ⟨k - 1,by omega⟩
      rw [chars_Wrong.l0,if_neg hlt]
theorem wrong_at (l : List Int) (hl : Bytes l) (hlen : l.length ≤ 1000000000000000000) (k : Nat) (hk : l.length + 30 ≤ k) : chars_Wrong.f k l = some (wrong l) := by
 obtain ⟨v,_,h⟩ := good_from l hl (by omega) l.length 0 (by omega) (by omega) (by omega)
 have e : wrong l = v := by unfold wrong chars_Wrong.f; rw [h _ (Nat.le_refl _)]; rfl
 unfold chars_Wrong.f
 rw [e]; exact h k hk
theorem wrong_good (l : List Int) (hl : Bytes l) (hlen : l.length ≤ 1000000) : wrong l < 0 ↔ Good l := by
 obtain ⟨v,hv,h⟩ := good_from l hl (by omega) l.length 0 (by omega) (by omega) (by omega)
 have e := wrong_at l hl (by omega) (l.length + 30) (by omega)
 unfold chars_Wrong.f at e
 rw [h _ (by omega)] at e
 rw [← Option.some.inj e]
 exact hv
/-! ## A character hangs on its own bytes alone -/
theorem decN_stable (n1 n2 : Nat) (a0 a1 a2 a3 b1 b2 b3 : Int) (c : Int) (h : (decN n1 a0 a1 a2 a3).2 = c) (h0 : c ≠ 0) (e1 : 2 ≤ c → a1 = b1) (e2 : 3 ≤ c → a2 = b2) (e3 : 4 ≤ c → a3 = b3) (hn : c ≤ n2) : decN n2 a0 b1 b2 b3 = decN n1 a0 a1 a2 a3 := by
 subst h
 unfold decN at h0 e1 e2 e3 hn ⊢
 by_cases c1 : a0 < 128
 · simp only [c1,if_true]
 · simp only [c1,if_false] at h0 e1 e2 e3 hn ⊢
   by_cases c2 : 192 ≤ a0 ∧ a0 < 224 ∧ 2 ≤ n1 ∧ 128 ≤ a1 ∧ a1 < 192
   · rw [if_pos c2] at h0 e1 e2 e3 hn ⊢
     by_cases d2 : (a0 - 192) * 64 + (a1 - 128) ≥ 128
     · rw [if_pos d2] at h0 e1 e2 e3 hn ⊢
       have := e1 (by simp)
       subst this
       rw [if_pos ⟨c2.1,c2.2.1,by simp at hn; omega,c2.2.2.2⟩,if_pos d2]
     · rw [if_neg d2] at h0; exact absurd rfl h0
   · rw [if_neg c2] at h0 e1 e2 e3 hn ⊢
     by_cases c3 : 224 ≤ a0 ∧ a0 < 240 ∧ 3 ≤ n1 ∧ (128 ≤ a1 ∧ a1 < 192) ∧ 128 ≤ a2 ∧ a2 < 192
     · rw [if_pos c3] at h0 e1 e2 e3 hn ⊢
       by_cases d3 : 2048 ≤ (a0 - 224) * 4096 + (a1 - 128) * 64 + (a2 - 128) ∧ ((a0 - 224) * 4096 + (a1 - 128) * 64 + (a2 - 128) < 55296 ∨ 57344 ≤ (a0 - 224) * 4096 + (a1 - 128) * 64 + (a2 - 128))
       · rw [if_pos d3] at h0 e1 e2 e3 hn ⊢
         have h1 := e1 (by simp)
         have h2 := e2 (by simp)
         subst h1 h2
         rw [if_neg (fun x => by omega),if_pos ⟨c3.1,c3.2.1,by simp at hn; omega,c3.2.2.2⟩,if_pos d3]
       · rw [if_neg d3] at h0; exact absurd rfl h0
     · rw [if_neg c3] at h0 e1 e2 e3 hn ⊢
       by_cases c4 : 240 ≤ a0 ∧ a0 < 248 ∧ 4 ≤ n1 ∧ (128 ≤ a1 ∧ a1 < 192) ∧ (128 ≤ a2 ∧ a2 < 192) ∧ 128 ≤ a3 ∧ a3 < 192
       · rw [if_pos c4] at h0 e1 e2 e3 hn ⊢
         by_cases d4 : 65536 ≤ (a0 - 240) * 262144 + (a1 - 128) * 4096 + (a2 - 128) * 64 + (a3 - 128) ∧ (a0 - 240) * 262144 + (a1 - 128) * 4096 + (a2 - 128) * 64 + (a3 - 128) ≤ 1114111
         · rw [if_pos d4] at h0 e1 e2 e3 hn ⊢
           have h1 := e1 (by simp)
           have h2 := e2 (by simp)
           have h3 := e3 (by simp)
           subst h1 h2 h3
           rw [if_neg (fun x => by omega),if_neg (fun x => by omega),if_pos ⟨c4.1,c4.2.1,by simp at hn; omega,c4.2.2.2⟩,if_pos d4]
         · rw [if_neg d4] at h0; exact absurd rfl h0
       · rw [if_neg c4] at h0; exact absurd rfl h0
theorem decN_cont (n : Nat) (a0 a1 a2 a3 : Int) : (2 ≤ (decN n a0 a1 a2 a3).2 → 192 ≤ a0 ∧ 128 ≤ a1) ∧ (3 ≤ (decN n a0 a1 a2 a3).2 → 128 ≤ a2) ∧ (4 ≤ (decN n a0 a1 a2 a3).2 → 128 ≤ a3) := by
 unfold decN
 repeat' split
 all_goals (simp only; refine ⟨fun h => ?_,fun h => ?_,fun h => ?_⟩ <;> omega)
theorem getD_take (l m : List Int) (n j : Nat) (h : l.take n = m.take n) (hj : j < n) : l.getD j 0 = m.getD j 0 := by
 have e := congrArg (fun x => x.getD j 0) h
 simp only [List.getD_eq_getElem?_getD,List.getElem?_take,if_pos hj] at e
 simpa [List.getD_eq_getElem?_getD] using e
theorem dec_prefix (l m : List Int) (hm : Bytes m) (h : (dec m).2 ≠ 0) (ht : l.take (dec m).2.toNat = m.take (dec m).2.toNat) : dec l = dec m := by
 have hD := dec_two hm
 have hm0 : m ≠ [] := fun x => h (by rw [x]; rfl)
 have hlen := congrArg List.length ht
 rw [List.length_take,List.length_take] at hlen
 have hl0 : l ≠ [] := fun x => by rw [x] at hlen; simp at hlen; omega
 have e := decN_stable m.length l.length (m.getD 0 0) (m.getD 1 0) (m.getD 2 0) (m.getD 3 0) (l.getD 1 0) (l.getD 2 0) (l.getD 3 0) (dec m).2
  (by unfold dec; rw [if_neg hm0]) h (fun h => (getD_take l m _ 1 ht (by omega)).symm) (fun h => (getD_take l m _ 2 ht (by omega)).symm) (fun h => (getD_take l m _ 3 ht (by omega)).symm) (by omega)
 have e0 := getD_take l m _ 0 ht (by omega)
 unfold dec
 rw [if_neg hl0,if_neg hm0,e0]
 exact e
theorem dec_cont (m : List Int) (hm : Bytes m) (j : Nat) (h1 : 1 ≤ j) (h2 : (j : Int) < (dec m).2) : 128 ≤ m.getD j 0 := by
 have hm0 : m ≠ [] := fun x => by rw [x] at h2; simp [dec] at h2; omega
 have hD := dec_two hm
 unfold dec at h2 hD
 rw [if_neg hm0] at h2 hD
 have := decN_cont m.length (m.getD 0 0) (m.getD 1 0) (m.getD 2 0) (m.getD 3 0)
 have hj : j = 1 ∨ j = 2 ∨ j = 3 := by omega
 rcases hj with rfl | rfl | rfl
 · exact (this.1 (by omega)).2
 · exact this.2.1 (by omega)
 · exact this.2.2 (by omega)
theorem dec_ascii (x : Int) (t : List Int) (h : x < 128) : dec (x :: t) = (x,1) := by
 unfold dec decN
 rw [if_neg (by simp)]
 simp [h]
end Go.Proofs.YtbcpnpbkbndkjaaGreatDoor.Lex
end
section
/- Texts between quotes. -/
set_option linter.unusedSimpArgs false
set_option linter.unusedVariables false
namespace Go.Proofs.YtbcpnpbkbndkjaaGreatDoor.Quoted
open Go.RowKit Go.Proofs.YtbcpnpbkbndkjaaGreatDoor.Q Go.Proofs.YtbcpnpbkbndkjaaGreatDoorW.PrintWords Go.Proofs.YtbcpnpbkbndkjaaGreatDoorW.PrintLast Go.Proofs.YtbcpnpbkbndkjaaGreatDoorH Go.Proofs.YtbcpnpbkbndkjaaGreatDoor.Chars Go.Proofs.YtbcpnpbkbndkjaaGreatDoor.Values Go.Proofs.YtbcpnpbkbndkjaaGreatDoor.Bytes Go.Proofs.YtbcpnpbkbndkjaaGreatDoor.Num Go.Proofs.YtbcpnpbkbndkjaaGreatDoor.Lex
/-- What stands up to the closing quote, without its escapes; and how many bytes that is, with the quote. -/
def scan : List Int → Option (List Int × Nat)
 | [] => none
 | [x] => if x = 34 then some ([],1) else none
 | x :: c :: u =>
  if x = 34 then some ([],1)
  else if x = 92 then (if c = 34 ∨ c = 92 then (scan u).map fun r => (c :: r.1,r.2 + 2) else none)
  else (scan (c :: u)).map fun r => (x :: r.1,r.2 + 1)
theorem scan_quote (t : List Int) : scan (34 :: t) = some ([],1) := by cases t <;> simp [scan]
theorem scan_plain (x : Int) (t : List Int) (h1 : x ≠ 34) (h2 : x ≠ 92) : scan (x :: t) = (scan t).map fun r => (x :: r.1,r.2 + 1) := by
 cases t with
 | nil => simp [scan,h1]
 | cons c u => rw [scan,if_neg h1,if_neg h2]
theorem scan_esc (c : Int) (u : List Int) : scan (92 :: c :: u) = if c = 34 ∨ c = 92 then (scan u).map fun r => (c :: r.1,r.2 + 2) else none := by
 rw [scan,if_neg (by decide),if_pos rfl]
theorem scan_end : scan [92] = none := by simp [scan]
theorem scan_bytes : ∀ (n : Nat) (l : List Int),l.length = n → Bytes l → ∀ o m,scan l = some (o,m) → Bytes o ∧ 1 ≤ m ∧ m ≤ l.length ∧ o.length < m := by
 intro n
 induction n using Nat.strongRecOn with
 | ind n ih =>
  intro l hl hb o m h
  match l,hl,hb,h with
  | [],_,_,h => cases h
  | x :: t,hl,hb,h =>
   by_cases h1 : x = 34
   · subst h1; rw [scan_quote] at h; cases h
     exact ⟨fun x hx => absurd hx (by simp),by simp,by simp,by simp⟩
   · by_cases h2 : x = 92
     · subst h2
       match t,hl,hb,h with
       | [],_,_,h => rw [scan_end] at h; cases h
       | c :: u,hl,hb,h =>
        rw [scan_esc] at h
        split at h
        · obtain ⟨⟨o',m'⟩,hs,he⟩ := Option.map_eq_some_iff.1 h
          cases he
          have := ih u.length (by simp at hl; omega) u rfl (fun x hx => hb x (by simp [hx])) o' m' hs
          refine ⟨fun x hx => ?_,by omega,by simp; omega,by simp; omega⟩
          rcases List.mem_cons.1 hx with rfl | hx
          · exact hb _ (by simp)
          · exact this.1 x hx
        · cases h
     · rw [scan_plain x t h1 h2] at h
       obtain ⟨⟨o',m'⟩,hs,he⟩ := Option.map_eq_some_iff.1 h
       cases he
       have := ih t.length (by simp at hl; omega) t rfl (fun x hx => hb x (by simp [hx])) o' m' hs
       refine ⟨fun y hy => ?_,by omega,by simp; omega,by simp; omega⟩
       rcases List.mem_cons.1 hy with rfl | hy
       · exact hb _ (by simp)
       · exact this.1 y hy
theorem scan_skip : ∀ (n : Nat) (l : List Int),n ≤ l.length → (∀ j,j < n → l.getD j 0 ≠ 34 ∧ l.getD j 0 ≠ 92) → scan l = (scan (l.drop n)).map fun r => (l.take n ++ r.1,r.2 + n) := by
 intro n
 induction n with
 | zero => intro l _ _; simp
 | succ n ih =>
  intro l hl h
  match l,hl,h with
  | x :: t,hl,h =>
   have h0 := h 0 (by omega)
   have ht := ih t (by simpa using hl) (fun j hj => by have := h (j + 1) (by omega); simpa using this)
   rw [scan_plain x t (by simpa using h0.1) (by simpa using h0.2),ht,Option.map_map]
   simp only [List.drop_succ_cons,List.take_succ_cons,List.cons_append]
   rfl
theorem scan_same : ∀ (n : Nat) (l o : List Int) (m : Nat),scan l = some (o,m) → n ≤ o.length → (∀ j,j < n → o.getD j 0 ≠ 34 ∧ o.getD j 0 ≠ 92) → l.take n = o.take n := by
 intro n
 induction n with
 | zero => intro l o m _ _ _; simp
 | succ n ih =>
  intro l o m h hn hj
  match l,h with
  | [],h => cases h
  | x :: t,h =>
   by_cases h1 : x = 34
   · subst h1; rw [scan_quote] at h; cases h; simp at hn
   · by_cases h2 : x = 92
     · subst h2
       match t,h with
       | [],h => rw [scan_end] at h; cases h
       | c :: u,h =>
        rw [scan_esc] at h
        split at h
        · rename_i hc
          obtain ⟨⟨o',m'⟩,hs,he⟩ := Option.map_eq_some_iff.1 h
          cases he
          have := hj 0 (by omega)
          simp at this
          omega
        · cases h
     · rw [scan_plain x t h1 h2] at h
       obtain ⟨⟨o',m'⟩,hs,he⟩ := Option.map_eq_some_iff.1 h
       cases he
       rw [List.take_succ_cons,List.take_succ_cons,ih t o' m' hs (by simpa using hn) (fun j hj2 => by have := hj (j + 1) (by omega); simpa using this)]
/-! ## The program's -/
open Classical in
noncomputable def quoE (w : List Int) (e : Int) : ByteArray × Int := if 256 < w.length ∨ ¬ Lex.Good w then (⟨#[]⟩,0) else (strOfNums w,e)
noncomputable def quoP (out : List Int) (i : Nat) (r : Option (List Int × Nat)) : ByteArray × Int :=
 match r with
 | none => (⟨#[]⟩,0)
 | some (o,n) => quoE (out ++ o) ((i + n : Nat) : Int)
theorem quoP_map (out : List Int) (i : Nat) (r : Option (List Int × Nat)) (c : Int) (n : Nat) : quoP out i (r.map fun r => (c :: r.1,r.2 + n)) = quoP (out ++ [c]) (i + n) r := by
 cases r with
 | none => rfl
 | some r => simp only [Option.map_some,quoP,List.append_assoc,List.cons_append,List.nil_append,show i + (r.2 + n) = i + n + r.2 from by omega]
theorem quoted_at (s : ByteArray) (hs : (bytesOf s).length ≤ 1000) : ∀ (d i k : Nat) (out : List Int),i + d = (bytesOf s).length → Bytes out → out.length ≤ i →
 lexer_quoted.l0 (k + d + 400) s out (i : Int) = some (quoP out i (scan ((bytesOf s).drop i))) := by
 intro d
 induction d using Nat.strongRecOn with
 | ind d ih =>
  intro i k out hi hb ho
  by_cases hlt : i < (bytesOf s).length
  · have hbx := bytes_of s _ (List.getElem_mem hlt)
    have e2 : wrap64 ((i : Int) + 1) = ((i + 1 : Nat) : Int) := by rw [w64' _ (by omega) (by omega)]; omega
    have e3 : wrap64 (((i + 1 : Nat) : Int) + 1) = ((i + 2 : Nat) : Int) := by rw [w64' _ (by omega) (by omega)]; omega
    obtain ⟨d',rfl⟩ : ∃ d',d = d' + 1 := ⟨d - 1,by omega⟩
    rw [show k + (d' + 1) + 400 = (k + d' + 400) + 1 from by omega,lexer_quoted.l0,b_size,if_pos (by omega),if_pos (by omega),bt_at' hlt,e2,drop_cons hlt]
    by_cases h1 : (bytesOf s)[i] = 34
    · rw [if_pos h1,h1,scan_quote]
      have j : ∀ (b : Bool),lexer_quoted.j1 (k + d' + 400) out (i : Int) b = some (if b = true then (⟨#[]⟩,0) else (strOfNums out,((i + 1 : Nat) : Int))) := by
       intro b
       rw [show k + d' + 400 = (k + d' + 399) + 1 from rfl,lexer_quoted.j1,e2]
       cases b <;> rfl
      simp only [quoP,List.append_nil]
      unfold quoE
      by_cases h2 : (out.length : Int) > 256
      · rw [if_pos h2,j,if_pos rfl,if_pos (Or.inl (by omega))]
      · rw [if_neg h2,wrong_at out hb (by omega) _ (by omega),Option.bind_some,j]
        have hg := wrong_good out hb (by omega)
        by_cases h3 : Lex.Good out
        · have := hg.2 h3
          rw [if_neg (by simp; omega),if_neg (fun x => x.elim (fun y => by omega) (fun y => y h3))]
        · have : ¬ wrong out < 0 := fun x => h3 (hg.1 x)
          rw [if_pos (by simp; omega),if_pos (Or.inr h3)]
    · rw [if_neg h1]
      by_cases h2 : (bytesOf s)[i] = 92
      · rw [if_pos h2,h2]
        by_cases h3 : i + 1 < (bytesOf s).length
        · have hbx2 := bytes_of s _ (List.getElem_mem h3)
          obtain ⟨d'',rfl⟩ : ∃ d'',d' = d'' + 1 := ⟨d' - 1,by omega⟩
          rw [if_neg (by omega),if_pos (by omega),if_pos (by omega),bt_at' h3,(sets_at _ hbx2).2.2.2,Option.bind_some,drop_cons h3,scan_esc,e3]
          by_cases h4 : (bytesOf s)[i + 1] = 34 ∨ (bytesOf s)[i + 1] = 92
          · rw [if_pos (by simpa using h4),if_pos h4,if_pos (by omega),quoP_map]
            have := ih d'' (by omega) (i + 2) (k + 1) (out ++ [(bytesOf s)[i + 1]]) (by omega) (fun x hx => by
             rcases List.mem_append.1 hx with hx | hx
             · exact hb x hx
             · simp at hx; omega) (by simp; omega)
            rw [show k + 1 + d'' + 400 = k + (d'' + 1) + 400 from by omega] at this
            exact this
          · rw [if_neg (by simpa using h4),if_neg h4]; rfl
        · rw [if_pos (by omega),List.drop_of_length_le (by omega : (bytesOf s).length ≤ i + 1),scan_end]; rfl
      · rw [if_neg h2,if_pos (by omega),scan_plain _ _ h1 h2,quoP_map]
        exact ih d' (by omega) (i + 1) k _ (by omega) (fun x hx => by
         rcases List.mem_append.1 hx with hx | hx
         · exact hb x hx
         · simp at hx; omega) (by simp; omega)
  · rw [show k + d + 400 = (k + d + 399) + 1 from rfl,lexer_quoted.l0,b_size,if_neg (by omega),List.drop_of_length_le (by omega)]; rfl
/-! ## The reference's -/
theorem good_ascii (x : Int) (t : List Int) (h : x < 128) (hx : xmlC x = true) : Lex.Good (x :: t) ↔ Lex.Good t := by
 rw [good_iff (by simp),dec_ascii x t h]
 simp [hx]
theorem ext_all (s : ByteArray) (i : Nat) : bytesOf (s.extract i s.size) = (bytesOf s).drop i := by
 rw [b_extract,List.take_of_length_le]
 rw [List.length_drop,bytesOf_length]; omega
def Told (x5 : ByteArray) (i : Nat) (sc : Option (List Int × Nat)) (r : Int × ByteArray × Int × Int × Bool) : Prop :=
 (∀ o n,sc = some (o,n) → Lex.Good o → r = (3,x5 ++ strOfNums o,0,((i + n : Nat) : Int),decide (((x5.size + o.length : Nat) : Int) ≤ 256))) ∧
 ((∀ o n,sc = some (o,n) → ¬ Lex.Good o) → r.2.2.2.2 = false)
theorem str_size (l : List Int) : (strOfNums l).size = l.length := strOfNums_size l
theorem str_append {l m : List Int} (hl : Bytes l) (hm : Bytes m) : strOfNums (l ++ m) = strOfNums l ++ strOfNums m := by
 apply b_inj
 rw [b_append,b_str hl,b_str hm,b_str]
 intro x hx
 rcases List.mem_append.1 hx with hx | hx
 · exact hl x hx
 · exact hm x hx
theorem app_assoc (a b c : ByteArray) : a ++ b ++ c = a ++ (b ++ c) := by
 apply b_inj; simp only [b_append,List.append_assoc]
theorem ext_str (s : ByteArray) (i j : Nat) : s.extract i j = strOfNums (((bytesOf s).drop i).take (j - i)) := by
 apply b_inj
 rw [b_extract,b_str]
 exact ((bytes_of s).drop i).take _
theorem nil_append (s : ByteArray) : (⟨#[]⟩ : ByteArray) ++ s = s := by apply b_inj; rw [b_append]; rfl
/-- The rest told makes the whole told: of 'p' bytes written and 'q' read. -/
theorem Told.front {x5 : ByteArray} {i : Nat} {sc : Option (List Int × Nat)} {r : Int × ByteArray × Int × Int × Bool} (p : List Int) (q : Nat) (hp : Bytes p) (hsc : ∀ o n,sc = some (o,n) → Bytes o) (hg : ∀ o,Lex.Good (p ++ o) ↔ Lex.Good o)
 (h : Told (x5 ++ strOfNums p) (i + q) sc r) : Told x5 i (sc.map fun r => (p ++ r.1,r.2 + q)) r := by
 constructor
 · intro o n ho hgo
   obtain ⟨⟨o',n'⟩,hs,he⟩ := Option.map_eq_some_iff.1 ho
   cases he
   rw [h.1 o' n' hs ((hg o').1 hgo),str_append hp (hsc o' n' hs),app_assoc]
   simp only [Prod.mk.injEq,true_and]
   refine ⟨by omega,?_⟩
   rw [ByteArray.size_append,str_size,List.length_append,decide_eq_decide]; omega
 · intro hn
   refine h.2 fun o n hs hgo => ?_
   exact hn (p ++ o) (n + q) (by rw [hs]; rfl) ((hg o).2 hgo)
theorem Told.fail {x5 : ByteArray} {i : Nat} {sc : Option (List Int × Nat)} (h : ∀ o n,sc = some (o,n) → ¬ Lex.Good o) : Told x5 i sc (0,⟨#[]⟩,0,0,false) :=
 ⟨fun o n hs hg => absurd hg (h o n hs),fun _ => rfl⟩
theorem good_head (x : Int) (t o : List Int) (m : Nat) (hb : Bytes (x :: t)) (h1 : x ≠ 34) (h2 : x ≠ 92) (h : scan (x :: t) = some (o,m)) (g : Lex.Good o) : dec (x :: t) = dec o ∧ (dec o).2 ≠ 0 ∧ xmlC (dec o).1 = true := by
 have hO := scan_bytes _ _ rfl hb o m h
 have h' := h
 rw [scan_plain x t h1 h2] at h'
 obtain ⟨⟨o',m'⟩,_,he⟩ := Option.map_eq_some_iff.1 h'
 have ho : o = x :: o' := by cases he; rfl
 have hne : o ≠ [] := by rw [ho]; simp
 have hg := (good_iff hne).1 g
 have hD := dec_two hO.1
 refine ⟨dec_prefix _ _ hO.1 hg.1 (scan_same _ _ _ m h (by omega) fun j hj => ?_),hg.1,hg.2.1⟩
 cases j with
 | zero => rw [ho]; exact ⟨h1,h2⟩
 | succ j => have := dec_cont o hO.1 (j + 1) (by omega) (by omega); omega
theorem good_front (L o : List Int) (hb : Bytes L) (hz : (dec L).2 ≠ 0) (hx : xmlC (dec L).1 = true) : Lex.Good (L.take (dec L).2.toNat ++ o) ↔ Lex.Good o := by
 have hD := dec_two hb
 have hl : (L.take (dec L).2.toNat).length = (dec L).2.toNat := by rw [List.length_take]; omega
 have e : dec (L.take (dec L).2.toNat ++ o) = dec L := dec_prefix _ _ hb hz (by rw [List.take_append_of_le_length (by omega),List.take_of_length_le (by omega)])
 have hne : L.take (dec L).2.toNat ++ o ≠ [] := fun h => by
  have := congrArg List.length h
  rw [List.length_append,hl,List.length_nil] at this
  omega
 rw [good_iff hne,e,List.drop_append_of_le_length (by omega),List.drop_of_length_le (by omega)]
 exact ⟨fun h => h.2.2,fun h => ⟨hz,hx,h⟩⟩
set_option maxHeartbeats 1000000 in
theorem text_at (s : ByteArray) (hs : (bytesOf s).length ≤ 1000) : ∀ (d i k : Nat) (x5 : ByteArray),i + d = (bytesOf s).length → x5.size ≤ i →
 ∃ r,dossierref08_text.l0 (k + d + 60) s x5 (i : Int) = some r ∧ Told x5 i (scan ((bytesOf s).drop i)) r := by
 intro d
 induction d using Nat.strongRecOn with
 | ind d ih =>
  intro i k x5 hi ho
  by_cases hlt : i < (bytesOf s).length
  · have hbx := bytes_of s _ (List.getElem_mem hlt)
    have e2 : wrap64 ((i : Int) + 1) = ((i + 1 : Nat) : Int) := by rw [w64' _ (by omega) (by omega)]; omega
    have e3 : wrap64 ((i : Int) + 2) = ((i + 2 : Nat) : Int) := by rw [w64' _ (by omega) (by omega)]; omega
    obtain ⟨d',rfl⟩ : ∃ d',d = d' + 1 := ⟨d - 1,by omega⟩
    have hss := b_size s
    rw [show k + (d' + 1) + 60 = (k + d' + 60) + 1 from by omega,dossierref08_text.l0,if_pos (by omega),if_pos (by omega),bt_at' hlt,e2,e3]
    by_cases h1 : (bytesOf s)[i] = 34
    · rw [if_pos h1,drop_cons hlt,h1,scan_quote]
      refine ⟨_,rfl,fun o n h g => ?_,fun h => absurd .nil (h [] 1 rfl)⟩
      cases h
      have : x5 ++ strOfNums [] = x5 := by apply b_inj; rw [b_append]; exact List.append_nil _
      rw [this]; rfl
    · rw [if_neg h1]
      by_cases h2 : (bytesOf s)[i] = 92
      · rw [if_pos h2]
        by_cases h3 : i + 1 < (bytesOf s).length
        · have hbx2 := bytes_of s _ (List.getElem_mem h3)
          obtain ⟨d'',rfl⟩ : ∃ d'',d' = d'' + 1 := ⟨d' - 1,by omega⟩
          rw [if_neg (by omega),if_pos (by omega),if_pos (by omega),bt_at' h3,drop_cons hlt,h2,drop_cons h3,scan_esc]
          have hx : s.extract (((i + 1 : Nat) : Int)).toNat (((i + 2 : Nat) : Int)).toNat = strOfNums [(bytesOf s)[i + 1]] := by
           rw [ext_str,Int.toNat_natCast,Int.toNat_natCast,drop_cons h3,show i + 2 - (i + 1) = 1 from by omega]; rfl
          have hsz : (strOfNums [(bytesOf s)[i + 1]]).size = 1 := rfl
          obtain ⟨r,hr,ht⟩ := ih d'' (by omega) (i + 2) (k + 1) (x5 ++ strOfNums [(bytesOf s)[i + 1]]) (by omega) (by rw [ByteArray.size_append,hsz]; omega)
          rw [show k + 1 + d'' + 60 = k + (d'' + 1) + 60 from by omega] at hr
          have hcase : (bytesOf s)[i + 1] = 34 ∨ (bytesOf s)[i + 1] = 92 → Told x5 i ((scan ((bytesOf s).drop (i + 1 + 1))).map fun r => ((bytesOf s)[i + 1] :: r.1,r.2 + 2)) r := fun hc =>
           Told.front [(bytesOf s)[i + 1]] 2 (fun x hx => by simp at hx; omega) (fun o n h => (scan_bytes _ _ rfl ((bytes_of s).drop _) o n h).1)
            (fun o => good_ascii _ o (by omega) (by rcases hc with h | h <;> rw [h] <;> decide)) ht
          by_cases h4 : (bytesOf s)[i + 1] = 34
          · refine ⟨r,?_,?_⟩
            · rw [if_pos h4,if_pos (by omega),if_pos (by omega),hx,hsz,if_pos (by omega)]; exact hr
            · rw [if_pos (Or.inl h4)]; exact hcase (Or.inl h4)
          · by_cases h5 : (bytesOf s)[i + 1] = 92
            · refine ⟨r,?_,?_⟩
              · rw [if_neg h4,if_pos h5,if_pos (by omega),if_pos (by omega),hx,hsz,if_pos (by omega)]; exact hr
              · rw [if_pos (Or.inr h5)]; exact hcase (Or.inr h5)
            · refine ⟨_,by rw [if_neg h4,if_neg h5],?_⟩
              rw [if_neg (fun x => x.elim h4 h5)]
              exact Told.fail fun o n h => by cases h
        · refine ⟨_,by rw [if_pos (by omega)],?_⟩
          rw [drop_cons hlt,h2,List.drop_of_length_le (by omega : (bytesOf s).length ≤ i + 1),scan_end]
          exact Told.fail fun o n h => by cases h
      · rw [if_neg h2,if_pos (by omega)]
        have hb := (bytes_of s).drop i
        have hD := dec_two hb
        have hdl : ((bytesOf s).drop i).length = (bytesOf s).length - i := List.length_drop
        have hex : bytesOf (s.extract ((i : Int)).toNat s.size) = (bytesOf s).drop i := by rw [Int.toNat_natCast,ext_all]
        have hexs : (s.extract ((i : Int)).toNat s.size).size < 140737488355328 := by rw [b_size,hex]; omega
        rw [if_pos hexs,hex,show k + d' + 60 = (k + d' + 50) + 10 from rfl,ref_Decode_spec _ _ hb,Option.bind_some]
        have gh := fun o m => good_head (bytesOf s)[i] ((bytesOf s).drop (i + 1)) o m (by rw [← drop_cons hlt]; exact hb) h1 h2
        rw [← drop_cons hlt] at gh
        by_cases hz : (dec ((bytesOf s).drop i)).2 = 0
        · refine ⟨_,by rw [if_pos hz],Told.fail fun o n h g => ?_⟩
          have := gh o n h g
          rw [← this.1] at this
          exact this.2.1 hz
        · rw [if_neg hz,show k + d' + 50 + 10 = (k + d' + 40) + 20 from rfl,ref_OfXML_spec,Option.bind_some]
          by_cases hx : xmlC (dec ((bytesOf s).drop i)).1 = true
          · have ew : wrap64 ((i : Int) + (dec ((bytesOf s).drop i)).2) = ((i + (dec ((bytesOf s).drop i)).2.toNat : Nat) : Int) := by rw [w64' _ (by omega) (by omega)]; omega
            generalize hn : (dec ((bytesOf s).drop i)).2.toNat = n at ew
            have hxx : s.extract ((i : Int)).toNat (((i + n : Nat) : Int)).toNat = strOfNums (((bytesOf s).drop i).take n) := by
             rw [ext_str,Int.toNat_natCast,Int.toNat_natCast,show i + n - i = n from by omega]
            have hsz : (strOfNums (((bytesOf s).drop i).take n)).size = n := by rw [str_size,List.length_take]; omega
            obtain ⟨r,hr,ht⟩ := ih (d' + 1 - n) (by omega) (i + n) (k + n - 1) (x5 ++ strOfNums (((bytesOf s).drop i).take n)) (by omega) (by rw [ByteArray.size_append,hsz]; omega)
            rw [show k + n - 1 + (d' + 1 - n) + 60 = k + d' + 40 + 20 from by omega] at hr
            refine ⟨r,?_,?_⟩
            · rw [if_pos hx,ew,if_pos (by omega),if_pos (by omega),hxx,hsz,if_pos (by omega)]; exact hr
            · have hsk := scan_skip n ((bytesOf s).drop i) (by omega) fun j hj => by
               cases j with
               | zero => rw [drop_cons hlt]; exact ⟨h1,h2⟩
               | succ j => have := dec_cont _ hb (j + 1) (by omega) (by omega); omega
              rw [hsk,List.drop_drop]
              exact Told.front _ n (hb.take n) (fun o m h => (scan_bytes _ _ rfl ((bytes_of s).drop _) o m h).1) (fun o => by rw [← hn]; exact good_front _ o hb hz hx) ht
          · refine ⟨_,by rw [if_neg hx],Told.fail fun o n h g => ?_⟩
            have := gh o n h g
            rw [← this.1] at this
            exact hx this.2.2
  · rw [show k + d + 60 = (k + d + 59) + 1 from rfl,dossierref08_text.l0,b_size,if_neg (by omega),List.drop_of_length_le (by omega)]
    exact ⟨_,rfl,Told.fail fun o n h => by cases h⟩
end Go.Proofs.YtbcpnpbkbndkjaaGreatDoor.Quoted
end
section
/- The words of a text: what the program and the reference read. -/
set_option linter.unusedSimpArgs false
set_option linter.unusedVariables false
namespace Go.Proofs.YtbcpnpbkbndkjaaGreatDoor.Words
open Go.RowKit Go.Proofs.YtbcpnpbkbndkjaaGreatDoor.Q Go.Proofs.YtbcpnpbkbndkjaaGreatDoorW.PrintWords Go.Proofs.YtbcpnpbkbndkjaaGreatDoorW.PrintLast Go.Proofs.YtbcpnpbkbndkjaaGreatDoorH Go.Proofs.YtbcpnpbkbndkjaaGreatDoor.Chars Go.Proofs.YtbcpnpbkbndkjaaGreatDoor.Values Go.Proofs.YtbcpnpbkbndkjaaGreatDoor.Bytes Go.Proofs.YtbcpnpbkbndkjaaGreatDoor.Num Go.Proofs.YtbcpnpbkbndkjaaGreatDoor.Lex Go.Proofs.YtbcpnpbkbndkjaaGreatDoor.Quoted
/-! ## Signs -/
def TWO : List (List Int) := [[60,61],[62,61],[33,61]]
def ONE : List Int := [40,41,46,44,43,45,42,47,37,60,62,61]
def signV (l : List Int) : Nat := if TWO.contains (l.take 2) = true then 2 else if ONE.contains (l.getD 0 0) = true then 1 else 0
theorem ext0 (s : ByteArray) (n : Nat) : bytesOf (s.extract 0 n) = (bytesOf s).take n := by rw [b_extract,List.drop_zero,Nat.sub_zero]
theorem ext00 (s : ByteArray) : s.extract 0 0 = ⟨#[]⟩ := by apply b_inj; rw [ext0]; rfl
theorem ext_take (s : ByteArray) (n : Nat) : s.extract 0 n = strOfNums ((bytesOf s).take n) := by
 apply b_inj; rw [ext0,b_str ((bytes_of s).take n)]
theorem one_iff (a : Int) : ONE.contains a = true ↔ a = 40 ∨ a = 41 ∨ a = 46 ∨ a = 44 ∨ a = 43 ∨ a = 45 ∨ a = 42 ∨ a = 47 ∨ a = 37 ∨ a = 60 ∨ a = 62 ∨ a = 61 := by simp [ONE]
theorem sign_one (k : Nat) (s : ByteArray) (a : Int) (t : List Int) (h : bytesOf s = a :: t) : lexer_sign.l0 (k + 2) s 1 = some (s.extract 0 (if ONE.contains a = true then 1 else 0)) := by
 have hb : bytesOf (s.extract 0 (1 : Int).toNat) = [a] := by rw [ext0,h]; rfl
 have hz : s.size = t.length + 1 := by rw [b_size,h]; rfl
 have e0 : lexer_sign.l0 (k + 1) s (wrap64 (1 - 1)) = some ⟨#[]⟩ := by
  rw [show wrap64 (1 - 1) = 0 from by unfold wrap64; omega,lexer_sign.l0,if_neg (by omega)]
 rw [show k + 2 = (k + 1) + 1 from rfl,lexer_sign.l0,if_pos (by omega),if_pos (by omega),if_pos (by omega),e0]
 simp only [toList_iff,hb,List.map_cons,List.map_nil]
 simp only [List.cons.injEq,and_true,and_false,if_false,reduceCtorEq]
 by_cases hc : ONE.contains a = true
 · rcases (one_iff a).1 hc with rfl | rfl | rfl | rfl | rfl | rfl | rfl | rfl | rfl | rfl | rfl | rfl <;> rfl
 · have n : ∀ x : Int,ONE.contains x = true → ¬ a = x := fun x hx he => hc (by rw [he]; exact hx)
   rw [if_neg hc,ext00]
   exact (if_neg (n 40 rfl)).trans <| (if_neg (n 41 rfl)).trans <| (if_neg (n 46 rfl)).trans <| (if_neg (n 44 rfl)).trans <| (if_neg (n 43 rfl)).trans <| (if_neg (n 45 rfl)).trans <| (if_neg (n 42 rfl)).trans <| (if_neg (n 47 rfl)).trans <| (if_neg (n 37 rfl)).trans <| (if_neg (n 60 rfl)).trans <| (if_neg (n 62 rfl)).trans <| (if_neg (n 61 rfl))
theorem signV_one (a : Int) : signV [a] = if ONE.contains a = true then 1 else 0 := by
 unfold signV
 have : ¬ TWO.contains ([a].take 2) = true := by simp [TWO]
 rw [if_neg this]; rfl
theorem sign_spec (k : Nat) (s : ByteArray) (h : bytesOf s ≠ []) : lexer_sign.f (k + 3) s = some (s.extract 0 (signV (bytesOf s))) := by
 match hl : bytesOf s,h with
 | [a],_ =>
  have hz : s.size = 1 := by rw [b_size,hl]; rfl
  unfold lexer_sign.f
  rw [hz,show mn 2 ((1 : Nat) : Int) = 1 from rfl,show k + 3 = (k + 1) + 2 from rfl,sign_one _ s a [] hl,signV_one]
 | a :: b :: t,_ =>
  have hz : s.size = t.length + 2 := by rw [b_size,hl]; rfl
  have hm : mn 2 (s.size : Int) = 2 := by unfold mn; split <;> omega
  unfold lexer_sign.f
  have hb : bytesOf (s.extract 0 (2 : Int).toNat) = [a,b] := by rw [ext0,hl]; rfl
  rw [hm,show k + 3 = (k + 2) + 1 from rfl,lexer_sign.l0,if_pos (by omega),if_pos (by omega),if_pos (by omega)]
  simp only [toList_iff,hb,List.map_cons,List.map_nil]
  have e : wrap64 (2 - 1) = 1 := by unfold wrap64; omega
  rw [e,sign_one k s a (b :: t) hl]
  simp only [List.cons.injEq,and_true,and_false,if_false,reduceCtorEq]
  unfold signV
  simp only [List.take_succ_cons,List.take_zero,List.getD_cons_zero]
  by_cases h1 : TWO.contains [a,b] = true
  · rw [if_pos h1]
    have : (a = 60 ∧ b = 61) ∨ (a = 62 ∧ b = 61) ∨ (a = 33 ∧ b = 61) := by simpa [TWO] using h1
    rcases this with ⟨rfl,rfl⟩ | ⟨rfl,rfl⟩ | ⟨rfl,rfl⟩ <;> rfl
  · rw [if_neg h1]
    have : ¬ ((a = 60 ∧ b = 61) ∨ (a = 62 ∧ b = 61) ∨ (a = 33 ∧ b = 61)) := fun x => h1 (by simpa [TWO] using x)
    rw [if_neg (fun x => this (Or.inl (by simpa using x))),if_neg (fun x => this (Or.inr (Or.inl (by simpa using x)))),if_neg (fun x => this (Or.inr (Or.inr (by simpa using x))))]
theorem sign_at (s : ByteArray) (a : Int) (t : List Int) (h : bytesOf s = a :: t) (xs : List ByteArray) (hx : xs.length ≤ 1000) : ∀ d i k : Nat,i + d = xs.length →
 dossierref08_sign.l0 (k + d + 1) s xs (xs.length : Int) (i : Int) = some (if ((xs.drop i).map bytesOf).contains [a] = true then (4,s.extract 0 1,0,1,true) else (0,(⟨#[]⟩ : ByteArray),0,0,false)) := by
 have hz : s.size = t.length + 1 := by rw [b_size,h]; rfl
 have hb : bytesOf (s.extract 0 1) = [a] := by rw [ext0,h]; rfl
 intro d
 induction d with
 | zero =>
  intro i k hi
  rw [dossierref08_sign.l0,if_neg (by omega),List.drop_of_length_le (by omega)]; rfl
 | succ d ih =>
  intro i k hi
  have e2 : wrap64 ((i : Int) + 1) = ((i + 1 : Nat) : Int) := by rw [w64' _ (by omega) (by omega)]; omega
  have hlt : i < xs.length := by omega
  have hr : rdOf ByteArray.empty xs (i : Int) = xs[i] := by
   unfold rdOf; rw [Int.toNat_natCast,List.getD_eq_getElem?_getD,List.getElem?_eq_getElem hlt]; rfl
  rw [show k + (d + 1) + 1 = (k + d + 1) + 1 from by omega,dossierref08_sign.l0,if_pos (by omega),if_pos (by omega),if_pos (by omega),if_pos (by omega),if_pos (by omega),hr,e2,ih (i + 1) k (by omega),List.drop_eq_getElem_cons hlt,List.map_cons,List.contains_cons]
  by_cases hc : (s.extract 0 1).toList = xs[i].toList
  · have hc' := (toList_iff2 _ _).1 hc
    have hs : xs[i] = s.extract 0 1 := b_inj hc'.symm
    rw [if_pos hc,if_pos (by rw [← hc',hb]; simp),hs]
  · have hc' : ¬ [a] = bytesOf xs[i] := fun x => hc ((toList_iff2 _ _).2 (by rw [hb]; exact x))
    rw [if_neg hc]
    have : ([a] == bytesOf xs[i]) = false := by simpa using hc'
    rw [this,Bool.false_or]
theorem ref_sign_spec (k : Nat) (s : ByteArray) (h : bytesOf s ≠ []) : dossierref08_sign.f (k + 20) s = some (if signV (bytesOf s) = 0 then (0,(⟨#[]⟩ : ByteArray),0,0,false) else (4,s.extract 0 (signV (bytesOf s)),0,(signV (bytesOf s) : Int),true)) := by
 have one : ∀ (a : Int) (t : List Int),bytesOf s = a :: t → dossierref08_sign.j0 (k + 20) s false = some (if ONE.contains a = true then (4,s.extract 0 1,0,1,true) else (0,(⟨#[]⟩ : ByteArray),0,0,false)) := by
  intro a t ht
  rw [show k + 20 = (k + 19) + 1 from rfl,dossierref08_sign.j0,if_neg (by decide),Option.bind_some]
  have := sign_at s a t ht [(⟨#[40]⟩ : ByteArray),(⟨#[41]⟩ : ByteArray),(⟨#[46]⟩ : ByteArray),(⟨#[44]⟩ : ByteArray),(⟨#[43]⟩ : ByteArray),(⟨#[45]⟩ : ByteArray),(⟨#[42]⟩ : ByteArray),(⟨#[47]⟩ : ByteArray),(⟨#[37]⟩ : ByteArray),(⟨#[60]⟩ : ByteArray),(⟨#[62]⟩ : ByteArray),(⟨#[61]⟩ : ByteArray)] (by decide) 12 0 (k + 6) rfl
  rw [show k + 6 + 12 + 1 = k + 19 from rfl] at this
  refine this.trans ?_
  have e : ((([(⟨#[40]⟩ : ByteArray),(⟨#[41]⟩ : ByteArray),(⟨#[46]⟩ : ByteArray),(⟨#[44]⟩ : ByteArray),(⟨#[43]⟩ : ByteArray),(⟨#[45]⟩ : ByteArray),(⟨#[42]⟩ : ByteArray),(⟨#[47]⟩ : ByteArray),(⟨#[37]⟩ : ByteArray),(⟨#[60]⟩ : ByteArray),(⟨#[62]⟩ : ByteArray),(⟨#[61]⟩ : ByteArray)] : List ByteArray).drop 0).map bytesOf) = ONE.map fun x => [x] := rfl
  rw [e]
  have e2 : (ONE.map fun x => [x]).contains [a] = ONE.contains a := by
   rw [Bool.eq_iff_iff,List.contains_iff_mem,List.contains_iff_mem,List.mem_map]
   constructor
   · rintro ⟨x,hx,he⟩
     cases he; exact hx
   · intro hx; exact ⟨a,hx,rfl⟩
  rw [e2]
 have two : dossierref08_sign.j0 (k + 20) s true = if 2 ≤ (s.size : Int) then some (4,s.extract 0 2,0,2,true) else none := by
  rw [show k + 20 = (k + 19) + 1 from rfl,dossierref08_sign.j0,if_pos rfl,if_pos (by decide)]
 match hl : bytesOf s,h with
 | [a],_ =>
  have hz : s.size = 1 := by rw [b_size,hl]; rfl
  unfold dossierref08_sign.f
  rw [if_neg (by omega),one a [] hl]
  rw [signV_one]
  by_cases h1 : ONE.contains a = true
  · rw [if_pos h1,if_pos h1]; rfl
  · rw [if_neg h1,if_neg h1]; rfl
 | a :: b :: t,_ =>
  have hz : s.size = t.length + 2 := by rw [b_size,hl]; rfl
  have hb : bytesOf (s.extract 0 2) = [a,b] := by rw [ext0,hl]; rfl
  unfold dossierref08_sign.f
  have two := two.trans (if_pos (by omega))
  rw [if_pos (by omega),if_pos (by omega),if_pos (by omega),two]
  have hbe : ((s.extract 0 2).toList == ([33,61] : List UInt8)) = decide (a = 33 ∧ b = 61) := by
   rw [Bool.eq_iff_iff,beq_iff_eq,toList_iff,hb]; simp
  rw [hbe]
  simp only [toList_iff,hb,List.map_cons,List.map_nil,List.cons.injEq,and_true]
  unfold signV
  simp only [List.take_succ_cons,List.take_zero,List.getD_cons_zero]
  by_cases h1 : TWO.contains [a,b] = true
  · simp only [if_pos h1]
    have : (a = 60 ∧ b = 61) ∨ (a = 62 ∧ b = 61) ∨ (a = 33 ∧ b = 61) := by simpa [TWO] using h1
    rcases this with ⟨rfl,rfl⟩ | ⟨rfl,rfl⟩ | ⟨rfl,rfl⟩
    · rfl
    · rfl
    · rw [if_neg (by decide),if_neg (by decide),show decide ((33 : Int) = 33 ∧ (61 : Int) = 61) = true from rfl,two]; rfl
  · simp only [if_neg h1]
    have : ¬ ((a = 60 ∧ b = 61) ∨ (a = 62 ∧ b = 61) ∨ (a = 33 ∧ b = 61)) := fun x => h1 (by simpa [TWO] using x)
    rw [if_neg (fun x => this (Or.inl (by simpa using x))),if_neg (fun x => this (Or.inr (Or.inl (by simpa using x)))),show decide (a = 33 ∧ b = 61) = false from by simpa using fun x y => this (Or.inr (Or.inr ⟨x,y⟩)),one a (b :: t) hl]
    by_cases h2 : ONE.contains a = true
    · rw [if_pos h2,if_pos h2]; rfl
    · rw [if_neg h2,if_neg h2]; rfl
/-! ## A word -/
def nameP (x : Int) : Bool := letterV x || digitV x
theorem take_while (p : Int → Bool) : ∀ l : List Int,l.take (l.takeWhile p).length = l.takeWhile p
 | [] => rfl
 | x :: t => by
  by_cases h : p x = true
  · rw [List.takeWhile_cons_of_pos h,List.length_cons,List.take_succ_cons,take_while p t]
  · rw [List.takeWhile_cons_of_neg h]; rfl
theorem while_len (p : Int → Bool) (l : List Int) : (l.takeWhile p).length ≤ l.length := by
 have := congrArg List.length (take_while p l)
 rw [List.length_take] at this; omega
theorem ext_while (s : ByteArray) (p : Int → Bool) : s.extract 0 ((bytesOf s).takeWhile p).length = strOfNums ((bytesOf s).takeWhile p) := by
 rw [ext_take,take_while]
theorem while_digits (l : List Int) : Digits (l.takeWhile digitV) := by
 induction l with
 | nil => intro x hx; exact absurd hx (by simp)
 | cons a t ih =>
  intro x hx
  rw [List.takeWhile_cons] at hx
  split at hx
  · rename_i ha
    rcases List.mem_cons.1 hx with rfl | hx
    · unfold digitV at ha; simp at ha; exact ha
    · exact ih x hx
  · exact absurd hx (by simp)
open Classical in
noncomputable def textV (r : Option (List Int × Nat)) : Option (S69 × Nat) :=
 match r with
 | none => none
 | some r => if 256 < r.1.length ∨ ¬ Lex.Good r.1 then none else some (⟨3,strOfNums r.1,0⟩,r.2 + 1)
/-- The word that bytes begin with. -/
noncomputable def wordV (l : List Int) : Option (S69 × Nat) :=
 if letterV (l.getD 0 0) = true then some (⟨1,strOfNums (l.takeWhile nameP),0⟩,(l.takeWhile nameP).length)
 else if digitV (l.getD 0 0) = true then (if (numV (l.takeWhile digitV)).2 = 0 then some (⟨2,⟨#[]⟩,(numV (l.takeWhile digitV)).1⟩,(l.takeWhile digitV).length) else none)
 else if l.getD 0 0 = 34 then textV (scan (l.drop 1))
 else if signV l = 0 then none else some (⟨4,strOfNums (l.take (signV l)),0⟩,signV l)
theorem signV_le (l : List Int) (h : l ≠ []) : signV l ≤ l.length := by
 unfold signV
 split
 · rename_i h2
   match l,h with
   | [a],_ => simp [TWO] at h2
   | a :: b :: t,_ => simp
 · have : 0 < l.length := List.length_pos_iff.2 h
   split <;> omega
theorem wordV_len (l : List Int) (hl : Bytes l) (h : l ≠ []) (w : S69) (n : Nat) (hw : wordV l = some (w,n)) : 1 ≤ n ∧ n ≤ l.length := by
 obtain ⟨a,t,rfl⟩ : ∃ a t,l = a :: t := List.exists_cons_of_ne_nil h
 unfold wordV at hw
 rw [List.getD_cons_zero] at hw
 by_cases h1 : letterV a = true
 · rw [if_pos h1] at hw
   have hp : nameP a = true := by unfold nameP; rw [h1]; rfl
   have := while_len nameP (a :: t)
   cases hw
   rw [List.takeWhile_cons_of_pos hp] at this ⊢
   simp at this ⊢
   omega
 · rw [if_neg h1] at hw
   by_cases h2 : digitV a = true
   · rw [if_pos h2] at hw
     split at hw
     · have := while_len digitV (a :: t)
       cases hw
       rw [List.takeWhile_cons_of_pos h2] at this ⊢
       simp at this ⊢
       omega
     · cases hw
   · rw [if_neg h2] at hw
     by_cases h3 : a = 34
     · rw [if_pos h3,List.drop_succ_cons,List.drop_zero] at hw
       cases hs : scan t with
       | none => rw [hs] at hw; cases hw
       | some r =>
        obtain ⟨o,m⟩ := r
        have := scan_bytes _ t rfl (fun x hx => hl x (by simp [hx])) o m hs
        rw [hs] at hw
        unfold textV at hw
        simp only at hw
        split at hw
        · cases hw
        · cases hw
          simp; omega
     · rw [if_neg h3] at hw
       have := signV_le (a :: t) h
       split at hw
       · cases hw
       · cases hw; omega
def Says (v : Option (S69 × Nat)) (r : Int × ByteArray × Int × Int) : Prop :=
 (∀ w n,v = some (w,n) → r = (w.f0,w.f1,w.f2,(n : Int))) ∧ (v = none → r.2.2.2 = 0)
def Tells (v : Option (S69 × Nat)) (r : Int × ByteArray × Int × Int × Bool) : Prop :=
 (∀ w n,v = some (w,n) → r = (w.f0,w.f1,w.f2,(n : Int),true)) ∧ (v = none → r.2.2.2.2 = false)
theorem word_spec (s : ByteArray) (a : Int) (t : List Int) (h : bytesOf s = a :: t) (hs : (bytesOf s).length ≤ 1000) (k : Nat) (hk : 3000 ≤ k) : ∃ r,lexer_word.f k s = some r ∧ Says (wordV (bytesOf s)) r := by
 have hz : s.size = t.length + 1 := by rw [b_size,h]; rfl
 have hb : bt s 0 = a := by rw [bt_get,h]; rfl
 have ha : 0 ≤ a ∧ a < 256 := bytes_of s a (by rw [h]; simp)
 have hS := sets_at a ha
 have g0 : (bytesOf s).getD 0 0 = a := by rw [h]; rfl
 unfold LET DIG at hS
 unfold lexer_word.f wordV
 rw [if_pos (by omega),hb,g0,hS.1,Option.bind_some]
 by_cases h1 : letterV a = true
 · rw [if_pos h1,if_pos h1]
   have hr := run_spec s LETDIG nameP (fun x hx => (sets_at x hx).2.1) (by omega) k (by omega)
   unfold LETDIG at hr
   rw [hr,Option.bind_some,ext_while]
   refine ⟨_,rfl,fun w n hw => ?_,fun hw => (by cases hw)⟩
   cases hw
   rw [str_size]
 · rw [if_neg h1,if_neg h1,hS.2.2.1,Option.bind_some]
   by_cases h2 : digitV a = true
   · rw [if_pos h2,if_pos h2]
     have hr := run_spec s DIG digitV (fun x hx => (sets_at x hx).2.2.1) (by omega) k (by omega)
     unfold DIG at hr
     have hd := while_digits (bytesOf s)
     have hn0 : (bytesOf s).takeWhile digitV ≠ [] := by rw [h,List.takeWhile_cons_of_pos h2]; simp
     have hle := while_len digitV (bytesOf s)
     have hbs : bytesOf (strOfNums ((bytesOf s).takeWhile digitV)) = (bytesOf s).takeWhile digitV := b_str (by rw [← take_while]; exact (bytes_of s).take _)
     have hN := number_spec (strOfNums ((bytesOf s).takeWhile digitV)) (by rw [hbs]; exact hd) (by rw [hbs]; exact hn0) (by rw [hbs]; omega) k (by rw [hbs]; omega)
     rw [hbs] at hN
     rw [hr,Option.bind_some,ext_while,hN,Option.bind_some]
     by_cases h3 : (numV ((bytesOf s).takeWhile digitV)).2 = 0
     · rw [if_pos h3,if_pos h3]
       refine ⟨_,rfl,fun w n hw => ?_,fun hw => (by cases hw)⟩
       cases hw
       rw [str_size]
     · rw [if_neg h3,if_neg h3]
       exact ⟨_,rfl,fun w n hw => (by cases hw),fun _ => rfl⟩
   · rw [if_neg h2,if_neg h2]
     by_cases h3 : a = 34
     · rw [if_pos h3,if_pos h3]
       have hq := quoted_at s hs ((bytesOf s).length - 1) 1 (k - ((bytesOf s).length - 1) - 400) [] (by rw [h]; simp; omega) (fun x hx => absurd hx (by simp)) (by simp)
       rw [show k - ((bytesOf s).length - 1) - 400 + ((bytesOf s).length - 1) + 400 = k from by omega] at hq
       unfold lexer_quoted.f
       rw [show ((1 : Nat) : Int) = 1 from rfl] at hq
       rw [hq,Option.bind_some]
       cases hsc : scan ((bytesOf s).drop 1) with
       | none => exact ⟨_,rfl,fun w n hw => (by cases hw),fun _ => rfl⟩
       | some r =>
        obtain ⟨o,m⟩ := r
        unfold textV quoP quoE
        simp only [List.nil_append]
        by_cases h4 : 256 < o.length ∨ ¬ Lex.Good o
        · rw [if_pos h4,if_pos h4]
          exact ⟨_,rfl,fun w n hw => (by cases hw),fun _ => rfl⟩
        · rw [if_neg h4,if_neg h4]
          refine ⟨_,rfl,fun w n hw => ?_,fun hw => (by cases hw)⟩
          cases hw
          simp only [Nat.add_comm]
     · rw [if_neg h3,if_neg h3]
       have hg := sign_spec (k - 3) s (by rw [h]; simp)
       rw [show k - 3 + 3 = k from by omega] at hg
       rw [hg,Option.bind_some]
       by_cases h4 : signV (bytesOf s) = 0
       · rw [if_pos h4,h4,ext00]
         exact ⟨_,rfl,fun w n hw => (by cases hw),fun _ => rfl⟩
       · rw [if_neg h4,ext_take]
         have hle := signV_le (bytesOf s) (by rw [h]; simp)
         refine ⟨_,rfl,fun w n hw => ?_,fun hw => (by cases hw)⟩
         cases hw
         rw [str_size,List.length_take,Nat.min_eq_left hle]
theorem ref_word_spec (s : ByteArray) (a : Int) (t : List Int) (h : bytesOf s = a :: t) (hs : (bytesOf s).length ≤ 1000) (k : Nat) (hk : 3000 ≤ k) : ∃ r,dossierref08_word.f k s = some r ∧ Tells (wordV (bytesOf s)) r := by
 have hz : s.size = t.length + 1 := by rw [b_size,h]; rfl
 have hb : bt s 0 = a := by rw [bt_get,h]; rfl
 have ha : 0 ≤ a ∧ a < 256 := bytes_of s a (by rw [h]; simp)
 have g0 : (bytesOf s).getD 0 0 = a := by rw [h]; rfl
 unfold dossierref08_word.f wordV
 rw [if_pos (by omega),hb,g0,digit_spec,Option.bind_some,letter_spec]
 by_cases h2 : digitV a = true
 · have h1 : ¬ letterV a = true := by
    intro x; unfold letterV at x; unfold digitV at h2; simp at x h2; omega
   rw [if_pos h2,if_neg h1,if_pos h2]
   have hd := while_digits (bytesOf s)
   have hn0 : (bytesOf s).takeWhile digitV ≠ [] := by rw [h,List.takeWhile_cons_of_pos h2]; simp
   have hle := while_len digitV (bytesOf s)
   have hbs : bytesOf (s.extract 0 ((bytesOf s).takeWhile digitV).length) = (bytesOf s).takeWhile digitV := by rw [ext0,take_while]
   have hI := integer_at s (by omega) 1100 (numV ((bytesOf s).takeWhile digitV)) ((bytesOf s).takeWhile digitV).length
    (fun k hk => by
     have := ref_number_spec (s.extract 0 ((bytesOf s).takeWhile digitV).length) (by rw [hbs]; exact hd) (by rw [hbs]; exact hn0) (by rw [hbs]; omega) k (by rw [hbs]; omega)
     rw [hbs] at this; exact this) (bytesOf s).length 0 (k - 1100 - (bytesOf s).length - 1) (by omega) (by rw [List.drop_zero]; omega)
   rw [show 1100 + (k - 1100 - (bytesOf s).length - 1) + (bytesOf s).length + 1 = k from by omega] at hI
   unfold dossierref08_integer.f
   rw [show ((0 : Nat) : Int) = 0 from rfl] at hI
   rw [hI,Option.bind_some]
   by_cases h3 : (numV ((bytesOf s).takeWhile digitV)).2 = 0
   · rw [if_pos h3]
     refine ⟨_,rfl,fun w n hw => ?_,fun hw => (by cases hw)⟩
     cases hw
     rw [h3]; rfl
   · rw [if_neg h3]
     refine ⟨_,rfl,fun w n hw => (by cases hw),fun _ => ?_⟩
     simpa using h3
 · rw [if_neg h2,if_neg h2]
   by_cases h3 : a = 34
   · have h1 : ¬ letterV a = true := by rw [h3]; decide
     rw [if_pos h3,if_neg h1,if_pos h3]
     obtain ⟨r,hr,ht⟩ := text_at s hs ((bytesOf s).length - 1) 1 (k - ((bytesOf s).length - 1) - 60) ⟨#[]⟩ (by rw [h]; simp; omega) (by decide)
     rw [show k - ((bytesOf s).length - 1) - 60 + ((bytesOf s).length - 1) + 60 = k from by omega] at hr
     unfold dossierref08_text.f
     rw [show ((1 : Nat) : Int) = 1 from rfl] at hr
     rw [hr,Option.bind_some]
     refine ⟨r,rfl,?_⟩
     cases hsc : scan ((bytesOf s).drop 1) with
     | none => exact ⟨fun w n hw => (by cases hw),fun _ => ht.2 fun o n x => by rw [hsc] at x; cases x⟩
     | some q =>
      obtain ⟨o,m⟩ := q
      by_cases hg : Lex.Good o
      · have e := ht.1 o m hsc hg
        unfold textV
        simp only
        by_cases h4 : 256 < o.length
        · rw [if_pos (Or.inl h4)]
          refine ⟨fun w n hw => (by cases hw),fun _ => ?_⟩
          rw [e]
          simp
          omega
        · rw [if_neg (fun x => x.elim h4 (fun y => y hg))]
          refine ⟨fun w n hw => ?_,fun hw => (by cases hw)⟩
          cases hw
          rw [e,nil_append]
          have : decide ((((⟨#[]⟩ : ByteArray).size + o.length : Nat) : Int) ≤ 256) = true := by
           rw [decide_eq_true_eq]
           have : (⟨#[]⟩ : ByteArray).size = 0 := rfl
           omega
          rw [this,Nat.add_comm]
      · unfold textV
        simp only
        rw [if_pos (Or.inr hg)]
        exact ⟨fun w n hw => (by cases hw),fun _ => ht.2 fun o' n' x => by rw [hsc] at x; cases x; exact hg⟩
   · rw [if_neg h3,if_neg h3,Option.bind_some]
     by_cases h1 : letterV a = true
     · rw [if_pos h1,if_pos h1]
       have hn := name_at s (by omega) ((bytesOf s).length - 1) 1 (k - ((bytesOf s).length - 1) - 1) (by rw [h]; simp; omega)
       rw [show k - ((bytesOf s).length - 1) - 1 + ((bytesOf s).length - 1) + 1 = k from by omega,show ((1 : Nat) : Int) = 1 from rfl] at hn
       rw [hn]
       have hp : nameP a = true := by unfold nameP; rw [h1]; rfl
       have e : 1 + (((bytesOf s).drop 1).takeWhile fun x => letterV x || digitV x).length = ((bytesOf s).takeWhile nameP).length := by
        rw [h,List.takeWhile_cons_of_pos hp,List.length_cons,List.drop_succ_cons,List.drop_zero,Nat.add_comm]; rfl
       rw [e,ext_while]
       refine ⟨_,rfl,fun w n hw => ?_,fun hw => (by cases hw)⟩
       cases hw; rfl
     · rw [if_neg h1,if_neg h1]
       have hg := ref_sign_spec (k - 20) s (by rw [h]; simp)
       rw [show k - 20 + 20 = k from by omega] at hg
       rw [hg,Option.bind_some]
       by_cases h4 : signV (bytesOf s) = 0
       · rw [if_pos h4,if_pos h4]
         exact ⟨_,rfl,fun w n hw => (by cases hw),fun _ => rfl⟩
       · rw [if_neg h4,if_neg h4,ext_take]
         refine ⟨_,rfl,fun w n hw => ?_,fun hw => (by cases hw)⟩
         cases hw; rfl
/-! ## All words -/
def blankV (x : Int) : Bool := decide (x = 32) || decide (x = 9) || decide (x = 10) || decide (x = 13)
theorem space_spec (x : Int) : dossierref01_Space.f x = some (blankV x) := by
 unfold dossierref01_Space.f blankV
 repeat' split
 all_goals (congr 1; rw [Bool.eq_iff_iff]; simp; omega)
theorem trim_spec (s : ByteArray) : ∃ r,strings_TrimLeft.f s ⟨#[32,9,10,13]⟩ = some r ∧ bytesOf r = (bytesOf s).dropWhile blankV := by
 unfold strings_TrimLeft.f
 rw [if_pos ⟨by decide,by decide⟩]
 refine ⟨_,rfl,?_⟩
 unfold bytesOf
 simp only
 generalize s.data.toList = l
 unfold Lib.trimLeftS
 induction l with
 | nil => rfl
 | cons b t ih =>
  have hb : ([32,9,10,13] : List UInt8).contains b = blankV (b.toNat : Int) := by
   unfold blankV
   rw [Bool.eq_iff_iff]
   simp [← UInt8.toNat_inj]
   omega
  have hb' : (⟨#[32,9,10,13]⟩ : ByteArray).data.toList.contains b = blankV (b.toNat : Int) := hb
  rw [List.dropWhile_cons,List.map_cons,List.dropWhile_cons,hb']
  by_cases hc : blankV (b.toNat : Int) = true
  · rw [if_pos hc,if_pos hc]; exact ih
  · rw [if_neg hc,if_neg hc]; rfl
/-- The words' list ends with an end, and no text in it is long. -/
def Ends : List S69 → Prop
 | [] => False
 | w :: r => (w.f1.size ≤ 400 ∧ (-9223372036854775808 ≤ w.f2 ∧ w.f2 < 9223372036854775808)) ∧ ((r = [] ∧ w.f0 = 0) ∨ Ends r)
theorem wordV_size (l : List Int) (hl : l.length ≤ 400) (h : l ≠ []) (w : S69) (n : Nat) (hw : wordV l = some (w,n)) : w.f1.size ≤ 400 := by
 unfold wordV at hw
 split at hw
 · cases hw
   have := while_len nameP l
   show (strOfNums _).size ≤ _
   rw [str_size]; omega
 · split at hw
   · split at hw
     · cases hw; show (⟨#[]⟩ : ByteArray).size ≤ _; decide
     · cases hw
   · split at hw
     · cases hs : scan (l.drop 1) with
       | none => rw [hs] at hw; cases hw
       | some r =>
        rw [hs] at hw
        unfold textV at hw
        simp only at hw
        split at hw
        · cases hw
        · rename_i h4
          cases hw
          show (strOfNums _).size ≤ _
          rw [str_size]
          have : ¬ 256 < r.1.length := fun x => h4 (Or.inl x)
          omega
     · split at hw
       · cases hw
       · cases hw
         show (strOfNums _).size ≤ _
         rw [str_size,List.length_take]
         omega
theorem wordV_num (l : List Int) (w : S69) (n : Nat) (hw : wordV l = some (w,n)) : -9223372036854775808 ≤ w.f2 ∧ w.f2 < 9223372036854775808 := by
 unfold wordV at hw
 split at hw
 · cases hw; exact (show (-9223372036854775808 : Int) ≤ 0 ∧ (0 : Int) < 9223372036854775808 by decide)
 · split at hw
   · split at hw
     · rename_i h0
       cases hw
       show -9223372036854775808 ≤ (numV (l.takeWhile digitV)).1 ∧ (numV (l.takeWhile digitV)).1 < 9223372036854775808
       unfold numV endV at h0 ⊢
       by_cases h1 : (l.takeWhile digitV).getD 0 0 = 48 ∧ 1 < (l.takeWhile digitV).length
       · rw [if_pos h1] at h0; exact absurd h0 (by decide)
       · rw [if_neg h1] at h0 ⊢
         by_cases h2 : 19 < (l.takeWhile digitV).length
         · rw [if_pos h2] at h0; exact absurd h0 (by decide)
         · rw [if_neg h2] at h0 ⊢
           have h3 := val_19 (l.takeWhile digitV) (by omega) (while_digits l)
           by_cases h4 : val (l.takeWhile digitV) > 9223372036854775807
           · rw [if_pos h4] at h0; exact absurd h0 (by decide)
           · rw [if_neg h4]
             show -9223372036854775808 ≤ val (l.takeWhile digitV) ∧ val (l.takeWhile digitV) < 9223372036854775808
             omega
     · cases hw
   · split at hw
     · cases hs : scan (l.drop 1) with
       | none => rw [hs] at hw; cases hw
       | some r =>
        rw [hs] at hw
        unfold textV at hw
        simp only at hw
        split at hw
        · cases hw
        · cases hw; exact (show (-9223372036854775808 : Int) ≤ 0 ∧ (0 : Int) < 9223372036854775808 by decide)
     · split at hw
       · cases hw
       · cases hw; exact (show (-9223372036854775808 : Int) ≤ 0 ∧ (0 : Int) < 9223372036854775808 by decide)
theorem words_at (s : ByteArray) (hs : (bytesOf s).length ≤ 400) (C : Nat) (hC : 3001 ≤ C) : ∀ (d i k1 k2 : Nat) (acc : List S69) (rest : ByteArray),i + d = (bytesOf s).length → acc.length ≤ i → bytesOf rest = ((bytesOf s).drop i).dropWhile blankV → d + C ≤ k1 → d + C ≤ k2 →
 ∃ r,lexer_Words.l0 k1 s acc rest = some r ∧ dossierref08_Words.l0 k2 s acc (i : Int) = some r ∧ r.1.length ≤ 401 ∧ (r.2.2 = 0 → ∃ x,r.1 = acc ++ x ∧ Ends x) := by
 intro d
 induction d using Nat.strongRecOn with
 | ind d ih =>
  intro i k1 k2 acc rest hi hacc hrest hk1 hk2
  have hss := b_size s
  by_cases hlt : i < (bytesOf s).length
  · obtain ⟨d',rfl⟩ : ∃ d',d = d' + 1 := ⟨d - 1,by omega⟩
    obtain ⟨m2,rfl⟩ : ∃ m,k2 = m + 1 := ⟨k2 - 1,by omega⟩
    have hbx := bytes_of s _ (List.getElem_mem hlt)
    have e2 : wrap64 ((i : Int) + 1) = ((i + 1 : Nat) : Int) := by rw [w64' _ (by omega) (by omega)]; omega
    have e3 : wrap64 ((bytesOf s)[i]) = (bytesOf s)[i] := by rw [w64' _ (by omega) (by omega)]
    rw [dossierref08_Words.l0,if_pos (by omega),if_pos (by omega),bt_at' hlt,e3,space_spec,Option.bind_some]
    by_cases hbl : blankV (bytesOf s)[i] = true
    · rw [if_pos hbl,e2]
      refine ih d' (by omega) (i + 1) k1 m2 acc rest (by omega) (by omega) ?_ (by omega) (by omega)
      rw [hrest,drop_cons hlt,List.dropWhile_cons,if_pos hbl]
    · have hrb : bytesOf rest = (bytesOf s).drop i := by rw [hrest,drop_cons hlt,List.dropWhile_cons,if_neg hbl]
      have hrs : rest = s.extract i s.size := by apply b_inj; rw [hrb,ext_all]
      have hrz : rest.size = (bytesOf s).length - i := by rw [b_size,hrb,List.length_drop]
      have hcons := hrb.trans (drop_cons hlt)
      rw [if_neg hbl,if_pos (by omega),Int.toNat_natCast,← hrs]
      obtain ⟨m1,rfl⟩ : ∃ m,k1 = m + 1 := ⟨k1 - 1,by omega⟩
      obtain ⟨r1,hr1,hsay⟩ := word_spec rest _ _ hcons (by rw [hrb,List.length_drop]; omega) m1 (by omega)
      obtain ⟨r2,hr2,htell⟩ := ref_word_spec rest _ _ hcons (by rw [hrb,List.length_drop]; omega) m2 (by omega)
      rw [lexer_Words.l0,if_neg (by rw [toList_iff,hcons]; exact List.cons_ne_nil _ _),hr1,Option.bind_some,hr2,Option.bind_some]
      cases hw : wordV (bytesOf rest) with
      | none =>
       have q1 := hsay.2 hw
       have q2 := htell.2 hw
       rw [if_pos q1,if_neg (by rw [q2]; decide)]
       refine ⟨_,rfl,?_,by simp,fun h => absurd (show (20 : Int) = 0 from h) (by decide)⟩
       have : wrap64 ((s.size : Int) - (rest.size : Int)) = (i : Int) := by rw [w64' _ (by omega) (by omega)]; omega
       rw [this]
      | some v =>
       obtain ⟨w,n⟩ := v
       have q1 := hsay.1 w n hw
       have q2 := htell.1 w n hw
       have hn := wordV_len (bytesOf rest) (bytes_of rest) (by rw [hcons]; exact List.cons_ne_nil _ _) w n hw
       have hl := b_size rest
       subst q1 q2
       simp only
       rw [if_neg (by omega),if_pos (by omega),if_pos (by omega),if_pos (by omega),if_pos trivial,if_pos (by omega),Int.toNat_natCast]
       obtain ⟨r3,hr3,hb3⟩ := trim_spec (rest.extract n rest.size)
       have e4 : wrap64 ((i : Int) + (n : Int)) = ((i + n : Nat) : Int) := by rw [w64' _ (by omega) (by omega)]; omega
       rw [hr3,Option.bind_some,e4]
       have t1 : d' + 1 - n < d' + 1 := by omega
       have t2 : i + n + (d' + 1 - n) = (bytesOf s).length := by omega
       have t3 : (acc ++ [(⟨w.f0,w.f1,w.f2⟩ : S69)]).length ≤ i + n := by rw [List.length_append,List.length_singleton]; exact Nat.add_le_add hacc hn.1
       have t4 : d' + 1 - n + C ≤ m1 := by omega
       have t5 : d' + 1 - n + C ≤ m2 := by omega
       have hrl : (bytesOf rest).length ≤ 400 := by rw [hrb,List.length_drop]; exact Nat.le_trans (Nat.sub_le _ _) hs
       have hsz := wordV_size (bytesOf rest) hrl (by rw [hcons]; exact List.cons_ne_nil _ _) w n hw
       obtain ⟨r,g1,g2,g3,g4⟩ := ih (d' + 1 - n) t1 (i + n) m1 m2 _ r3 t2 t3 (by rw [hb3,ext_all,hrb,List.drop_drop]) t4 t5
       refine ⟨r,g1,g2,g3,fun h => ?_⟩
       obtain ⟨x,hx,he⟩ := g4 h
       exact ⟨_ :: x,by rw [hx,List.append_assoc]; rfl,⟨hsz,wordV_num _ w n hw⟩,Or.inr he⟩
  · have hd : (bytesOf s).drop i = [] := List.drop_of_length_le (by omega)
    rw [hd] at hrest
    obtain ⟨m1,rfl⟩ : ∃ m,k1 = m + 1 := ⟨k1 - 1,by omega⟩
    obtain ⟨m2,rfl⟩ : ∃ m,k2 = m + 1 := ⟨k2 - 1,by omega⟩
    rw [lexer_Words.l0,if_pos (by rw [toList_iff,hrest]; rfl),if_pos (by omega),dossierref08_Words.l0,if_neg (by omega),if_pos (by omega)]
    exact ⟨_,rfl,rfl,by rw [List.length_append,List.length_singleton]; omega,fun _ => ⟨_,rfl,by decide,Or.inl ⟨rfl,rfl⟩⟩⟩
theorem words_same' (s : ByteArray) (k : Nat) (hk : 4000 ≤ k) : ∃ r,lexer_Words.f k s = some r ∧ dossierref08_Words.f k s = some r ∧ r.1.length ≤ 401 ∧ (r.2.2 = 0 → Ends r.1) := by
 have hss := b_size s
 unfold lexer_Words.f dossierref08_Words.f
 by_cases h : 400 < (bytesOf s).length
 · rw [if_pos (by omega),if_pos (by omega)]
   exact ⟨_,rfl,rfl,by simp,fun h => absurd h (by decide)⟩
 · rw [if_neg (by omega),if_neg (by omega)]
   obtain ⟨r,hr,hb⟩ := trim_spec s
   rw [hr,Option.bind_some]
   obtain ⟨r',g1,g2,g3,g4⟩ := words_at s (by omega) 3001 (Nat.le_refl _) _ 0 k k [] r (Nat.zero_add _) (by simp) hb (by omega) (by omega)
   refine ⟨r',g1,g2,g3,fun h => ?_⟩
   obtain ⟨x,hx,he⟩ := g4 h
   rw [hx]; exact he
end Go.Proofs.YtbcpnpbkbndkjaaGreatDoor.Words
end
section
/- Which trees may be: what each function is. -/
-- prev ref_Parse
-- irreducible findO Values.sortV parseP parseR big deepP kwP stP nmP plainB namedB partsW pathB Values.canV aloneB kidsZ rightW canW Values.kindV
-- map words %s.map fun x : Q.S69 => (x.f0,x.f1,x.f2)
set_option linter.unusedVariables false
namespace Go.Proofs.YtbcpnpbkbndkjaaGreatDoor.Ev
open Go Go.RowKit Go.Proofs.YtbcpnpbkbndkjaaGreatDoorW.PrintWords
/-- Is a text one name? -/
def plainB (s : ByteArray) : Bool := match bytesOf s with
 | [] => false
 | a :: r => Bytes.letterV a && r.all Words.nameP
def namedB (s : ByteArray) : Bool := plainB s && !kwP s
/-- The parts of a text, between points. -/
def partsW (s : ByteArray) : List ByteArray := splitW s (⟨#[46]⟩ : ByteArray)
def pathB (s : ByteArray) : Bool := (partsW s).all namedB
abbrev canV := Values.canV
abbrev kindV := Values.kindV
abbrev sortZ := Values.sortV
def none4 (a b : Int) (c : Bool) (t : ByteArray) : Bool := decide (a = 0) && (decide (b = 0) && (!c && seq t (⟨#[]⟩ : ByteArray)))
def aloneB (op a b : Int) (c : Bool) (t s : ByteArray) (j : Int) : Bool :=
 if op = 1 then canV a b c t && (decide (a ≠ 0) && (decide (0 ≤ b) && (seq s (⟨#[]⟩ : ByteArray) && decide (j = 0))))
 else if op = 2 ∨ op = 3 then none4 a b c t && (pathB s && decide (j = 0))
 else if op = 4 then none4 a b c t && (namedB s && decide (1 ≤ j ∧ j ≤ 8))
 else none4 a b c t && (seq s (⟨#[]⟩ : ByteArray) && decide (j = 0))
def kidsZ (op : Int) : Int := if 1 ≤ op ∧ op ≤ 4 then 0 else if op = 5 ∨ op = 6 then 1 else if 7 ≤ op ∧ op ≤ 19 then 2 else -1
def allW (F : Node → Option Bool) : List Node → Option Bool
 | [] => some true
 | n :: r => (F n).bind fun b => if b = true then allW F r else some false
/-- May a tree be, but for how deep it is? -/
def rightW : Nat → Node → Option Bool
 | 0,_ => none
 | k + 1,n => if n.x.2.1.2.2.2.size ≤ 900000 ∧ n.x.2.2.1.size ≤ 900000 then if aloneB n.x.1 n.x.2.1.1 n.x.2.1.2.1 n.x.2.1.2.2.1 n.x.2.1.2.2.2 n.x.2.2.1 n.x.2.2.2.1 = true ∧ (n.x.2.2.2.2.length : Int) = kidsZ n.x.1 then allW (rightW k) n.x.2.2.2.2 else some false else none
noncomputable def canW (n : Node) : Option Bool := (deepP (big n.x.2.2.2.2) n.x.2.2.2.2).bind fun d => if d ≤ 24 then rightW (big n.x.2.2.2.2) n else some false
def findO (z : Int) : Int × Int × ByteArray × Bool := match opsL.find? (fun o => o.1 == z) with
 | some o => (o.1,o.2.1,o.2.2,true)
 | none => (0,0,(⟨#[]⟩ : ByteArray),false)
noncomputable def cx_lexer_Plain := cxOf specs_ref_Parse
noncomputable def lexer_Plain.spec : Spec := fun args st K => match args,st.box,st.nt with
 | [.str s],[],0 => (if s.size ≤ 900000 then some (plainB s) else none).bind fun v => K (.ret (.bool v)) (lcRet [] [] 0)
 | _,_,_ => none
noncomputable def specs_lexer_Plain : SpecL := (119,false,lexer_Plain.spec) :: specs_ref_Parse
noncomputable def cx_ref08_Plain := cxOf specs_lexer_Plain
noncomputable def ref08_Plain.spec : Spec := fun args st K => match args,st.box,st.nt with
 | [.str s],[],0 => (if s.size ≤ 900000 then some (plainB s) else none).bind fun v => K (.ret (.bool v)) (lcRet [] [] 0)
 | _,_,_ => none
noncomputable def specs_ref08_Plain : SpecL := (156,false,ref08_Plain.spec) :: specs_lexer_Plain
noncomputable def cx_expr_Named := cxOf specs_ref08_Plain
noncomputable def expr_Named.spec : Spec := fun args st K => match args,st.box,st.nt with
 | [.str s],[],0 => (if s.size ≤ 900000 then some (namedB s) else none).bind fun v => K (.ret (.bool v)) (lcRet [] [] 0)
 | _,_,_ => none
noncomputable def specs_expr_Named : SpecL := (83,false,expr_Named.spec) :: specs_ref08_Plain
noncomputable def cx_ref_Named := cxOf specs_expr_Named
noncomputable def ref_Named.spec : Spec := fun args st K => match args,st.box,st.nt with
 | [.str s],[],0 => (if s.size ≤ 900000 then some (namedB s) else none).bind fun v => K (.ret (.bool v)) (lcRet [] [] 0)
 | _,_,_ => none
noncomputable def specs_ref_Named : SpecL := (132,false,ref_Named.spec) :: specs_expr_Named
noncomputable def cx_expr_pathed := cxOf specs_ref_Named
noncomputable def expr_pathed.spec : Spec := fun args st K => match args,st.box,st.nt with
 | [.str s],[],0 => (if s.size ≤ 900000 then some (pathB s) else none).bind fun v => K (.ret (.bool v)) (lcRet [] [] 0)
 | _,_,_ => none
noncomputable def specs_expr_pathed : SpecL := (82,false,expr_pathed.spec) :: specs_ref_Named
noncomputable def cx_ref_Parts := cxOf specs_expr_pathed
noncomputable def ref_Parts.spec : Spec := fun args st K => match args,st.box,st.nt with
 | [.str s],[],0 => (if s.size ≤ 900000 then some (partsW s) else none).bind fun v => K (.ret (.sl .str (v) .no)) (lcRet [] [] 0)
 | _,_,_ => none
noncomputable def specs_ref_Parts : SpecL := (103,false,ref_Parts.spec) :: specs_expr_pathed
noncomputable def cx_ref_pathed := cxOf specs_ref_Parts
noncomputable def ref_pathed.spec : Spec := fun args st K => match args,st.box,st.nt with
 | [.str s],[],0 => (if s.size ≤ 900000 then some (pathB s) else none).bind fun v => K (.ret (.bool v)) (lcRet [] [] 0)
 | _,_,_ => none
noncomputable def specs_ref_pathed : SpecL := (131,false,ref_pathed.spec) :: specs_ref_Parts
noncomputable def cx_expr_find := cxOf specs_ref_pathed
noncomputable def expr_find.spec : Spec := fun args st K => match args,st.box,st.nt with
 | [.int .i64 z],[],0 => (some (findO z)).bind fun v => K (.ret (.tup [.agg [.int .i64 v.1,.int .i64 v.2.1,.str v.2.2.1],.bool v.2.2.2])) (lcRet [] [] 0)
 | _,_,_ => none
noncomputable def specs_expr_find : SpecL := (120,false,expr_find.spec) :: specs_ref_pathed
noncomputable def cx_expr_kids := cxOf specs_expr_find
noncomputable def expr_kids.spec : Spec := fun args st K => match args,st.box,st.nt with
 | [.int .i64 z],[],0 => (some (kidsZ z)).bind fun v => K (.ret (.int .i64 v)) (lcRet [] [] 0)
 | _,_,_ => none
noncomputable def specs_expr_kids : SpecL := (85,false,expr_kids.spec) :: specs_expr_find
noncomputable def cx_ref_kids := cxOf specs_expr_kids
noncomputable def ref_kids.spec : Spec := fun args st K => match args,st.box,st.nt with
 | [.int .i64 z],[],0 => (some (kidsZ z)).bind fun v => K (.ret (.int .i64 v)) (lcRet [] [] 0)
 | _,_,_ => none
noncomputable def specs_ref_kids : SpecL := (100,false,ref_kids.spec) :: specs_expr_kids
noncomputable def cx_ref01_Wrong := cxOf specs_ref_kids
noncomputable def ref01_Wrong.spec : Spec := fun args st K => match args,st.box,st.nt with
 | [.sl (.int .u8) b .no],[],0 => (lim fun k => Q.dossierref01_Wrong.f k b).bind fun v => K (.ret (.int .i64 v)) (lcRet [] [] 0)
 | _,_,_ => none
noncomputable def specs_ref01_Wrong : SpecL := (138,false,ref01_Wrong.spec) :: specs_ref_kids
noncomputable def cx_value_Can := cxOf specs_ref01_Wrong
noncomputable def value_Can.spec : Spec := fun args st K => match args,st.box,st.nt with
 | [.agg [.int .i64 y0,.int .i64 y1,.bool y2,.str y3]],[],0 => (some (canV y0 y1 y2 y3)).bind fun v => K (.ret (.bool v)) (lcRet [] [] 0)
 | _,_,_ => none
noncomputable def specs_value_Can : SpecL := (81,false,value_Can.spec) :: specs_ref01_Wrong
noncomputable def cx_ref07_Can := cxOf specs_value_Can
noncomputable def ref07_Can.spec : Spec := fun args st K => match args,st.box,st.nt with
 | [.agg [.int .i64 y0,.int .i64 y1,.bool y2,.str y3]],[],0 => (some (canV y0 y1 y2 y3)).bind fun v => K (.ret (.bool v)) (lcRet [] [] 0)
 | _,_,_ => none
noncomputable def specs_ref07_Can : SpecL := (108,false,ref07_Can.spec) :: specs_value_Can
noncomputable def cx_value_sortOf := cxOf specs_ref07_Can
noncomputable def value_sortOf.spec : Spec := fun args st K => match args,st.box,st.nt with
 | [.int .i64 z],[],0 => (some (sortZ z)).bind fun v => K (.ret (.int .i64 v)) (lcRet [] [] 0)
 | _,_,_ => none
noncomputable def specs_value_sortOf : SpecL := (90,false,value_sortOf.spec) :: specs_ref07_Can
noncomputable def cx_value_Kind := cxOf specs_value_sortOf
noncomputable def value_Kind.spec : Spec := fun args st K => match args,st.box,st.nt with
 | [.int .i64 z,.int .i64 a,.int .i64 b],[],0 => (some (kindV z a b)).bind fun v => K (.ret (.tup [.int .i64 v.1,.bool v.2])) (lcRet [] [] 0)
 | _,_,_ => none
noncomputable def specs_value_Kind : SpecL := (44,false,value_Kind.spec) :: specs_value_sortOf
noncomputable def cx_ref07_Kind := cxOf specs_value_Kind
noncomputable def ref07_Kind.spec : Spec := fun args st K => match args,st.box,st.nt with
 | [.int .i64 z,.int .i64 a,.int .i64 b],[],0 => (some (kindV z a b)).bind fun v => K (.ret (.tup [.int .i64 v.1,.bool v.2])) (lcRet [] [] 0)
 | _,_,_ => none
noncomputable def specs_ref07_Kind : SpecL := (53,false,ref07_Kind.spec) :: specs_value_Kind
noncomputable def cx_expr_right := cxOf specs_ref07_Kind
noncomputable def expr_right.specR (k : Nat) : Spec := fun args st K => match args,st.box,st.nt with
 | [.agg [.int .i64 a0,.int .i64 a1,.int .i64 a2,.bool a3,.str a4,.str a5,.int .i64 a6,.sl (.user 0) a7 .no]],[],0 => (rightW k (nd a0 a1 a2 a3 a4 a5 a6 a7)).bind fun v => K (.ret (.bool v)) (lcRet [] [] 0)
 | _,_,_ => none
noncomputable def expr_right.rec (k : Nat) := recL [(41,expr_right.specR k)]
noncomputable def expr_right.spec : Spec := fun args st K => match args,st.box,st.nt with
 | [.agg [.int .i64 a0,.int .i64 a1,.int .i64 a2,.bool a3,.str a4,.str a5,.int .i64 a6,.sl (.user 0) a7 .no]],[],0 => (rightW (big a7) (nd a0 a1 a2 a3 a4 a5 a6 a7)).bind fun v => K (.ret (.bool v)) (lcRet [] [] 0)
 | _,_,_ => none
noncomputable def specs_expr_right : SpecL := (41,false,expr_right.spec) :: specs_ref07_Kind
noncomputable def cx_expr_Can := cxOf specs_expr_right
noncomputable def expr_Can.spec : Spec := fun args st K => match args,st.box,st.nt with
 | [.agg [.int .i64 a0,.int .i64 a1,.int .i64 a2,.bool a3,.str a4,.str a5,.int .i64 a6,.sl (.user 0) a7 .no]],[],0 => (canW (nd a0 a1 a2 a3 a4 a5 a6 a7)).bind fun v => K (.ret (.bool v)) (lcRet [] [] 0)
 | _,_,_ => none
noncomputable def specs_expr_Can : SpecL := (27,false,expr_Can.spec) :: specs_expr_right
noncomputable def cx_ref_alone := cxOf specs_expr_Can
noncomputable def ref_alone.spec : Spec := fun args st K => match args,st.box,st.nt with
 | [.agg [.int .i64 a0,.int .i64 a1,.int .i64 a2,.bool a3,.str a4,.str a5,.int .i64 a6,.sl (.user 0) a7 .no]],[],0 => (if a4.size ≤ 900000 ∧ a5.size ≤ 900000 then some (aloneB a0 a1 a2 a3 a4 a5 a6) else none).bind fun v => K (.ret (.bool v)) (lcRet [] [] 0)
 | _,_,_ => none
noncomputable def specs_ref_alone : SpecL := (101,false,ref_alone.spec) :: specs_expr_Can
noncomputable def cx_ref_can := cxOf specs_ref_alone
noncomputable def ref_can.specR (k : Nat) : Spec := fun args st K => match args,st.box,st.nt with
 | [.agg [.int .i64 a0,.int .i64 a1,.int .i64 a2,.bool a3,.str a4,.str a5,.int .i64 a6,.sl (.user 0) a7 .no]],[],0 => (rightW k (nd a0 a1 a2 a3 a4 a5 a6 a7)).bind fun v => K (.ret (.bool v)) (lcRet [] [] 0)
 | _,_,_ => none
noncomputable def ref_can.rec (k : Nat) := recL [(50,ref_can.specR k)]
noncomputable def ref_can.spec : Spec := fun args st K => match args,st.box,st.nt with
 | [.agg [.int .i64 a0,.int .i64 a1,.int .i64 a2,.bool a3,.str a4,.str a5,.int .i64 a6,.sl (.user 0) a7 .no]],[],0 => (rightW (big a7) (nd a0 a1 a2 a3 a4 a5 a6 a7)).bind fun v => K (.ret (.bool v)) (lcRet [] [] 0)
 | _,_,_ => none
noncomputable def specs_ref_can : SpecL := (50,false,ref_can.spec) :: specs_ref_alone
noncomputable def cx_ref_Can := cxOf specs_ref_can
noncomputable def ref_Can.spec : Spec := fun args st K => match args,st.box,st.nt with
 | [.agg [.int .i64 a0,.int .i64 a1,.int .i64 a2,.bool a3,.str a4,.str a5,.int .i64 a6,.sl (.user 0) a7 .no]],[],0 => (canW (nd a0 a1 a2 a3 a4 a5 a6 a7)).bind fun v => K (.ret (.bool v)) (lcRet [] [] 0)
 | _,_,_ => none
noncomputable def specs_ref_Can : SpecL := (32,false,ref_Can.spec) :: specs_ref_can
end Go.Proofs.YtbcpnpbkbndkjaaGreatDoor.Ev
end
