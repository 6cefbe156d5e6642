/- Several texts in one, in their order. -/
import Derived.Test.YtbcpnpbkbndkjaaGreatDoorBCheckTruths5
import Derived.Test.YtbcpnpbkbndkjaaGreatDoorBCheckTruths9
import Derived.Test.YtbcpnpbkbndkjaaGreatDoorBCheckTruths10
section
/- The words of a text: what the program and the reference read. -/
set_option linter.unusedSimpArgs false
set_option linter.unusedVariables false
namespace Go.Proofs.YtbcpnpbkbndkjaaGreatDoor.Words
open Go.RowKit Go.Proofs.YtbcpnpbkbndkjaaGreatDoor.Q Go.Proofs.YtbcpnpbkbndkjaaGreatDoorW.PrintWords Go.Proofs.YtbcpnpbkbndkjaaGreatDoorW.PrintLast Go.Proofs.YtbcpnpbkbndkjaaGreatDoorH Go.Proofs.YtbcpnpbkbndkjaaGreatDoor.Chars Go.Proofs.YtbcpnpbkbndkjaaGreatDoor.Values Go.Proofs.YtbcpnpbkbndkjaaGreatDoor.Bytes Go.Proofs.YtbcpnpbkbndkjaaGreatDoor.Num Go.Proofs.YtbcpnpbkbndkjaaGreatDoor.Lex Go.Proofs.YtbcpnpbkbndkjaaGreatDoor.Quoted
/-! ## Signs -/
def TWO : List (List Int) := [[60,61],[62,61],[33,61]]
def ONE : List Int := [40,41,46,44,43,45,42,47,37,60,62,61]
def signV (l : List Int) : Nat := if TWO.contains (l.take 2) = true then 2 else if ONE.contains (l.getD 0 0) = true then 1 else 0
theorem ext0 (s : ByteArray) (n : Nat) : bytesOf (s.extract 0 n) = (bytesOf s).take n := by rw [b_extract,List.drop_zero,Nat.sub_zero]
theorem ext00 (s : ByteArray) : s.extract 0 0 = ⟨#[]⟩ := by apply b_inj; rw [ext0]; rfl
theorem ext_take (s : ByteArray) (n : Nat) : s.extract 0 n = strOfNums ((bytesOf s).take n) := by
 apply b_inj; rw [ext0,b_str ((bytes_of s).take n)]
theorem one_iff (a : Int) : ONE.contains a = true ↔ a = 40 ∨ a = 41 ∨ a = 46 ∨ a = 44 ∨ a = 43 ∨ a = 45 ∨ a = 42 ∨ a = 47 ∨ a = 37 ∨ a = 60 ∨ a = 62 ∨ a = 61 := by simp [ONE]
theorem sign_one (k : Nat) (s : ByteArray) (a : Int) (t : List Int) (h : bytesOf s = a :: t) : lexer_sign.l0 (k + 2) s 1 = some (s.extract 0 (if ONE.contains a = true then 1 else 0)) := by
 have hb : bytesOf (s.extract 0 (1 : Int).toNat) = [a] := by rw [ext0,h]; rfl
 have hz : s.size = t.length + 1 := by rw [b_size,h]; rfl
 have e0 : lexer_sign.l0 (k + 1) s (wrap64 (1 - 1)) = some ⟨#[]⟩ := by
  rw [show wrap64 (1 - 1) = 0 from by unfold wrap64; omega,lexer_sign.l0,if_neg (by omega)]
 rw [show k + 2 = (k + 1) + 1 from rfl,lexer_sign.l0,if_pos (by omega),if_pos (by omega),if_pos (by omega),e0]
 simp only [toList_iff,hb,List.map_cons,List.map_nil]
 simp only [List.cons.injEq,and_true,and_false,if_false,reduceCtorEq]
 by_cases hc : ONE.contains a = true
 · rcases (one_iff a).1 hc with rfl | rfl | rfl | rfl | rfl | rfl | rfl | rfl | rfl | rfl | rfl | rfl <;> rfl
 · have n : ∀ x : Int,ONE.contains x = true → ¬ a = x := fun x hx he => hc (by rw [he]; exact hx)
   rw [if_neg hc,ext00]
   exact (if_neg (n 40 rfl)).trans <| (if_neg (n 41 rfl)).trans <| (if_neg (n 46 rfl)).trans <| (if_neg (n 44 rfl)).trans <| (if_neg (n 43 rfl)).trans <| (if_neg (n 45 rfl)).trans <| (if_neg (n 42 rfl)).trans <| (if_neg (n 47 rfl)).trans <| (if_neg (n 37 rfl)).trans <| (if_neg (n 60 rfl)).trans <| (if_neg (n 62 rfl)).trans <| (if_neg (n 61 rfl))
theorem signV_one (a : Int) : signV [a] = if ONE.contains a = true then 1 else 0 := by
 unfold signV
 have : ¬ TWO.contains ([a].take 2) = true := by simp [TWO]
 rw [if_neg this]; rfl
theorem sign_spec (k : Nat) (s : ByteArray) (h : bytesOf s ≠ []) : lexer_sign.f (k + 3) s = some (s.extract 0 (signV (bytesOf s))) := by
 match hl : bytesOf s,h with
 | [a],_ =>
  have hz : s.size = 1 := by rw [b_size,hl]; rfl
  unfold lexer_sign.f
  rw [hz,show mn 2 ((1 : Nat) : Int) = 1 from rfl,show k + 3 = (k + 1) + 2 from rfl,sign_one _ s a [] hl,signV_one]
 | a :: b :: t,_ =>
  have hz : s.size = t.length + 2 := by rw [b_size,hl]; rfl
  have hm : mn 2 (s.size : Int) = 2 := by unfold mn; split <;> omega
  unfold lexer_sign.f
  have hb : bytesOf (s.extract 0 (2 : Int).toNat) = [a,b] := by rw [ext0,hl]; rfl
  rw [hm,show k + 3 = (k + 2) + 1 from rfl,lexer_sign.l0,if_pos (by omega),if_pos (by omega),if_pos (by omega)]
  simp only [toList_iff,hb,List.map_cons,List.map_nil]
  have e : wrap64 (2 - 1) = 1 := by unfold wrap64; omega
  rw [e,sign_one k s a (b :: t) hl]
  simp only [List.cons.injEq,and_true,and_false,if_false,reduceCtorEq]
  unfold signV
  simp only [List.take_succ_cons,List.take_zero,List.getD_cons_zero]
  by_cases h1 : TWO.contains [a,b] = true
  · rw [if_pos h1]
    have : (a = 60 ∧ b = 61) ∨ (a = 62 ∧ b = 61) ∨ (a = 33 ∧ b = 61) := by simpa [TWO] using h1
    rcases this with ⟨rfl,rfl⟩ | ⟨rfl,rfl⟩ | ⟨rfl,rfl⟩ <;> rfl
  · rw [if_neg h1]
    have : ¬ ((a = 60 ∧ b = 61) ∨ (a = 62 ∧ b = 61) ∨ (a = 33 ∧ b = 61)) := fun x => h1 (by simpa [TWO] using x)
    rw [if_neg (fun x => this (Or.inl (by simpa using x))),if_neg (fun x => this (Or.inr (Or.inl (by simpa using x)))),if_neg (fun x => this (Or.inr (Or.inr (by simpa using x))))]
theorem sign_at (s : ByteArray) (a : Int) (t : List Int) (h : bytesOf s = a :: t) (xs : List ByteArray) (hx : xs.length ≤ 1000) : ∀ d i k : Nat,i + d = xs.length →
 dossierref08_sign.l0 (k + d + 1) s xs (xs.length : Int) (i : Int) = some (if ((xs.drop i).map bytesOf).contains [a] = true then (4,s.extract 0 1,0,1,true) else (0,(⟨#[]⟩ : ByteArray),0,0,false)) := by
 have hz : s.size = t.length + 1 := by rw [b_size,h]; rfl
 have hb : bytesOf (s.extract 0 1) = [a] := by rw [ext0,h]; rfl
 intro d
 induction d with
 | zero =>
  intro i k hi
  rw [dossierref08_sign.l0,if_neg (by omega),List.drop_of_length_le (by omega)]; rfl
 | succ d ih =>
  intro i k hi
  have e2 : wrap64 ((i : Int) + 1) = ((i + 1 : Nat) : Int) := by rw [w64' _ (by omega) (by omega)]; omega
  have hlt : i < xs.length := by omega
  have hr : rdOf ByteArray.empty xs (i : Int) = xs[i] := by
   unfold rdOf; rw [Int.toNat_natCast,List.getD_eq_getElem?_getD,List.getElem?_eq_getElem hlt]; rfl
  rw [show k + (d + 1) + 1 = (k + d + 1) + 1 from by omega,dossierref08_sign.l0,if_pos (by omega),if_pos (by omega),if_pos (by omega),if_pos (by omega),if_pos (by omega),hr,e2,ih (i + 1) k (by omega),List.drop_eq_getElem_cons hlt,List.map_cons,List.contains_cons]
  by_cases hc : (s.extract 0 1).toList = xs[i].toList
  · have hc' := (toList_iff2 _ _).1 hc
    have hs : xs[i] = s.extract 0 1 := b_inj hc'.symm
    rw [if_pos hc,if_pos (by rw [← hc',hb]; simp),hs]
  · have hc' : ¬ [a] = bytesOf xs[i] := fun x => hc ((toList_iff2 _ _).2 (by rw [hb]; exact x))
    rw [if_neg hc]
    have : ([a] == bytesOf xs[i]) = false := by simpa using hc'
    rw [this,Bool.false_or]
theorem ref_sign_spec (k : Nat) (s : ByteArray) (h : bytesOf s ≠ []) : dossierref08_sign.f (k + 20) s = some (if signV (bytesOf s) = 0 then (0,(⟨#[]⟩ : ByteArray),0,0,false) else (4,s.extract 0 (signV (bytesOf s)),0,(signV (bytesOf s) : Int),true)) := by
 have one : ∀ (a : Int) (t : List Int),bytesOf s = a :: t → dossierref08_sign.j0 (k + 20) s false = some (if ONE.contains a = true then (4,s.extract 0 1,0,1,true) else (0,(⟨#[]⟩ : ByteArray),0,0,false)) := by
  intro a t ht
  rw [show k + 20 = (k + 19) + 1 from rfl,dossierref08_sign.j0,if_neg (by decide),Option.bind_some]
  have := sign_at s a t ht [(⟨#[40]⟩ : ByteArray),(⟨#[41]⟩ : ByteArray),(⟨#[46]⟩ : ByteArray),(⟨#[44]⟩ : ByteArray),(⟨#[43]⟩ : ByteArray),(⟨#[45]⟩ : ByteArray),(⟨#[42]⟩ : ByteArray),(⟨#[47]⟩ : ByteArray),(⟨#[37]⟩ : ByteArray),(⟨#[60]⟩ : ByteArray),(⟨#[62]⟩ : ByteArray),(⟨#[61]⟩ : ByteArray)] (by decide) 12 0 (k + 6) rfl
  rw [show k + 6 + 12 + 1 = k + 19 from rfl] at this
  refine this.trans ?_
  have e : ((([(⟨#[40]⟩ : ByteArray),(⟨#[41]⟩ : ByteArray),(⟨#[46]⟩ : ByteArray),(⟨#[44]⟩ : ByteArray),(⟨#[43]⟩ : ByteArray),(⟨#[45]⟩ : ByteArray),(⟨#[42]⟩ : ByteArray),(⟨#[47]⟩ : ByteArray),(⟨#[37]⟩ : ByteArray),(⟨#[60]⟩ : ByteArray),(⟨#[62]⟩ : ByteArray),(⟨#[61]⟩ : ByteArray)] : List ByteArray).drop 0).map bytesOf) = ONE.map fun x => [x] := rfl
  rw [e]
  have e2 : (ONE.map fun x => [x]).contains [a] = ONE.contains a := by
   rw [Bool.eq_iff_iff,List.contains_iff_mem,List.contains_iff_mem,List.mem_map]
   constructor
   · rintro ⟨x,hx,he⟩
     cases he; exact hx
   · intro hx; exact ⟨a,hx,rfl⟩
  rw [e2]
 have two : dossierref08_sign.j0 (k + 20) s true = if 2 ≤ (s.size : Int) then some (4,s.extract 0 2,0,2,true) else none := by
  rw [show k + 20 = (k + 19) + 1 from rfl,dossierref08_sign.j0,if_pos rfl,if_pos (by decide)]
 match hl : bytesOf s,h with
 | [a],_ =>
  have hz : s.size = 1 := by rw [b_size,hl]; rfl
  unfold dossierref08_sign.f
  rw [if_neg (by omega),one a [] hl]
  rw [signV_one]
  by_cases h1 : ONE.contains a = true
  · rw [if_pos h1,if_pos h1]; rfl
  · rw [if_neg h1,if_neg h1]; rfl
 | a :: b :: t,_ =>
  have hz : s.size = t.length + 2 := by rw [b_size,hl]; rfl
  have hb : bytesOf (s.extract 0 2) = [a,b] := by rw [ext0,hl]; rfl
  unfold dossierref08_sign.f
  have two := two.trans (if_pos (by omega))
  rw [if_pos (by omega),if_pos (by omega),if_pos (by omega),two]
  have hbe : ((s.extract 0 2).toList == ([33,61] : List UInt8)) = decide (a = 33 ∧ b = 61) := by
   rw [Bool.eq_iff_iff,beq_iff_eq,toList_iff,hb]; simp
  rw [hbe]
  simp only [toList_iff,hb,List.map_cons,List.map_nil,List.cons.injEq,and_true]
  unfold signV
  simp only [List.take_succ_cons,List.take_zero,List.getD_cons_zero]
  by_cases h1 : TWO.contains [a,b] = true
  · simp only [if_pos h1]
    have : (a = 60 ∧ b = 61) ∨ (a = 62 ∧ b = 61) ∨ (a = 33 ∧ b = 61) := by simpa [TWO] using h1
    rcases this with ⟨rfl,rfl⟩ | ⟨rfl,rfl⟩ | ⟨rfl,rfl⟩
    · rfl
    · rfl
    · rw [if_neg (by decide),if_neg (by decide),show decide ((33 : Int) = 33 ∧ (61 : Int) = 61) = true from rfl,two]; rfl
  · simp only [if_neg h1]
    have : ¬ ((a = 60 ∧ b = 61) ∨ (a = 62 ∧ b = 61) ∨ (a = 33 ∧ b = 61)) := fun x => h1 (by simpa [TWO] using x)
    rw [if_neg (fun x => this (Or.inl (by simpa using x))),if_neg (fun x => this (Or.inr (Or.inl (by simpa using x)))),show decide (a = 33 ∧ b = 61) = false from by simpa using fun x y => this (Or.inr (Or.inr ⟨x,y⟩)),one a (b :: t) hl]
    by_cases h2 : ONE.contains a = true
    · rw [if_pos h2,if_pos h2]; rfl
    · rw [if_neg h2,if_neg h2]; rfl
/-! ## A word -/
def nameP (x : Int) : Bool := letterV x || digitV x
theorem take_while (p : Int → Bool) : ∀ l : List Int,l.take (l.takeWhile p).length = l.takeWhile p
 | [] => rfl
 | x :: t => by
  by_cases h : p x = true
  · rw [List.takeWhile_cons_of_pos h,List.length_cons,List.take_succ_cons,take_while p t]
  · rw [List.takeWhile_cons_of_neg h]; rfl
theorem while_len (p : Int → Bool) (l : List Int) : (l.takeWhile p).length ≤ l.length := by
 have := congrArg List.length (take_while p l)
 rw [List.length_take] at this; omega
theorem ext_while (s : ByteArray) (p : Int → Bool) : s.extract 0 ((bytesOf s).takeWhile p).length = strOfNums ((bytesOf s).takeWhile p) := by
 rw [ext_take,take_while]
theorem while_digits (l : List Int) : Digits (l.takeWhile digitV) := by
 induction l with
 | nil => intro x hx; exact absurd hx (by simp)
 | cons a t ih =>
  intro x hx
  rw [List.takeWhile_cons] at hx
  split at hx
  · rename_i ha
    rcases List.mem_cons.1 hx with rfl | hx
    · unfold digitV at ha; simp at ha; exact ha
    · exact ih x hx
  · exact absurd hx (by simp)
open Classical in
noncomputable def textV (r : Option (List Int × Nat)) : Option (S69 × Nat) :=
 match r with
 | none => none
 | some r => if 256 < r.1.length ∨ ¬ Lex.Good r.1 then none else some (⟨3,strOfNums r.1,0⟩,r.2 + 1)
/-- The word that bytes begin with. -/
noncomputable def wordV (l : List Int) : Option (S69 × Nat) :=
 if letterV (l.getD 0 0) = true then some (⟨1,strOfNums (l.takeWhile nameP),0⟩,(l.takeWhile nameP).length)
 else if digitV (l.getD 0 0) = true then (if (numV (l.takeWhile digitV)).2 = 0 then some (⟨2,⟨#[]⟩,(numV (l.takeWhile digitV)).1⟩,(l.takeWhile digitV).length) else none)
 else if l.getD 0 0 = 34 then textV (scan (l.drop 1))
 else if signV l = 0 then none else some (⟨4,strOfNums (l.take (signV l)),0⟩,signV l)
theorem signV_le (l : List Int) (h : l ≠ []) : signV l ≤ l.length := by
 unfold signV
 split
 · rename_i h2
   match l,h with
   | [a],_ => simp [TWO] at h2
   | a :: b :: t,_ => simp
 · have : 0 < l.length := List.length_pos_iff.2 h
   split <;> omega
theorem wordV_len (l : List Int) (hl : Bytes l) (h : l ≠ []) (w : S69) (n : Nat) (hw : wordV l = some (w,n)) : 1 ≤ n ∧ n ≤ l.length := by
 obtain ⟨a,t,rfl⟩ : ∃ a t,l = a :: t := List.exists_cons_of_ne_nil h
 unfold wordV at hw
 rw [List.getD_cons_zero] at hw
 by_cases h1 : letterV a = true
 · rw [if_pos h1] at hw
   have hp : nameP a = true := by unfold nameP; rw [h1]; rfl
   have := while_len nameP (a :: t)
   cases hw
   rw [List.takeWhile_cons_of_pos hp] at this ⊢
   simp at this ⊢
   omega
 · rw [if_neg h1] at hw
   by_cases h2 : digitV a = true
   · rw [if_pos h2] at hw
     split at hw
     · have := while_len digitV (a :: t)
       cases hw
       rw [List.takeWhile_cons_of_pos h2] at this ⊢
       simp at this ⊢
       omega
     · cases hw
   · rw [if_neg h2] at hw
     by_cases h3 : a = 34
     · rw [if_pos h3,List.drop_succ_cons,List.drop_zero] at hw
       cases hs : scan t with
       | none => rw [hs] at hw; cases hw
       | some r =>
        obtain ⟨o,m⟩ := r
        have := scan_bytes _ t rfl (fun x hx => hl x (by simp [hx])) o m hs
        rw [hs] at hw
        unfold textV at hw
        simp only at hw
        split at hw
        · cases hw
        · cases hw
          simp; omega
     · rw [if_neg h3] at hw
       have := signV_le (a :: t) h
       split at hw
       · cases hw
       · cases hw; omega
def Says (v : Option (S69 × Nat)) (r : Int × ByteArray × Int × Int) : Prop :=
 (∀ w n,v = some (w,n) → r = (w.f0,w.f1,w.f2,(n : Int))) ∧ (v = none → r.2.2.2 = 0)
def Tells (v : Option (S69 × Nat)) (r : Int × ByteArray × Int × Int × Bool) : Prop :=
 (∀ w n,v = some (w,n) → r = (w.f0,w.f1,w.f2,(n : Int),true)) ∧ (v = none → r.2.2.2.2 = false)
theorem word_spec (s : ByteArray) (a : Int) (t : List Int) (h : bytesOf s = a :: t) (hs : (bytesOf s).length ≤ 1000) (k : Nat) (hk : 3000 ≤ k) : ∃ r,lexer_word.f k s = some r ∧ Says (wordV (bytesOf s)) r := by
 have hz : s.size = t.length + 1 := by rw [b_size,h]; rfl
 have hb : bt s 0 = a := by rw [bt_get,h]; rfl
 have ha : 0 ≤ a ∧ a < 256 := bytes_of s a (by rw [h]; simp)
 have hS := sets_at a ha
 have g0 : (bytesOf s).getD 0 0 = a := by rw [h]; rfl
 unfold LET DIG at hS
 unfold lexer_word.f wordV
 rw [if_pos (by omega),hb,g0,hS.1,Option.bind_some]
 by_cases h1 : letterV a = true
 · rw [if_pos h1,if_pos h1]
   have hr := run_spec s LETDIG nameP (fun x hx => (sets_at x hx).2.1) (by omega) k (by omega)
   unfold LETDIG at hr
   rw [hr,Option.bind_some,ext_while]
   refine ⟨_,rfl,fun w n hw => ?_,fun hw => (by cases hw)⟩
   cases hw
   rw [str_size]
 · rw [if_neg h1,if_neg h1,hS.2.2.1,Option.bind_some]
   by_cases h2 : digitV a = true
   · rw [if_pos h2,if_pos h2]
     have hr := run_spec s DIG digitV (fun x hx => (sets_at x hx).2.2.1) (by omega) k (by omega)
     unfold DIG at hr
     have hd := while_digits (bytesOf s)
     have hn0 : (bytesOf s).takeWhile digitV ≠ [] := by rw [h,List.takeWhile_cons_of_pos h2]; simp
     have hle := while_len digitV (bytesOf s)
     have hbs : bytesOf (strOfNums ((bytesOf s).takeWhile digitV)) = (bytesOf s).takeWhile digitV := b_str (by rw [← take_while]; exact (bytes_of s).take _)
     have hN := number_spec (strOfNums ((bytesOf s).takeWhile digitV)) (by rw [hbs]; exact hd) (by rw [hbs]; exact hn0) (by rw [hbs]; omega) k (by rw [hbs]; omega)
     rw [hbs] at hN
     rw [hr,Option.bind_some,ext_while,hN,Option.bind_some]
     by_cases h3 : (numV ((bytesOf s).takeWhile digitV)).2 = 0
     · rw [if_pos h3,if_pos h3]
       refine ⟨_,rfl,fun w n hw => ?_,fun hw => (by cases hw)⟩
       cases hw
       rw [str_size]
     · rw [if_neg h3,if_neg h3]
       exact ⟨_,rfl,fun w n hw => (by cases hw),fun _ => rfl⟩
   · rw [if_neg h2,if_neg h2]
     by_cases h3 : a = 34
     · rw [if_pos h3,if_pos h3]
       have hq := quoted_at s hs ((bytesOf s).length - 1) 1 (k - ((bytesOf s).length - 1) - 400) [] (by rw [h]; simp; omega) (fun x hx => absurd hx (by simp)) (by simp)
       rw [show k - ((bytesOf s).length - 1) - 400 + ((bytesOf s).length - 1) + 400 = k from by omega] at hq
       unfold lexer_quoted.f
       rw [show ((1 : Nat) : Int) = 1 from rfl] at hq
       rw [hq,Option.bind_some]
       cases hsc : scan ((bytesOf s).drop 1) with
       | none => exact ⟨_,rfl,fun w n hw => (by cases hw),fun _ => rfl⟩
       | some r =>
        obtain ⟨o,m⟩ := r
        unfold textV quoP quoE
        simp only [List.nil_append]
        by_cases h4 : 256 < o.length ∨ ¬ Lex.Good o
        · rw [if_pos h4,if_pos h4]
          exact ⟨_,rfl,fun w n hw => (by cases hw),fun _ => rfl⟩
        · rw [if_neg h4,if_neg h4]
          refine ⟨_,rfl,fun w n hw => ?_,fun hw => (by cases hw)⟩
          cases hw
          simp only [Nat.add_comm]
     · rw [if_neg h3,if_neg h3]
       have hg := sign_spec (k - 3) s (by rw [h]; simp)
       rw [show k - 3 + 3 = k from by omega] at hg
       rw [hg,Option.bind_some]
       by_cases h4 : signV (bytesOf s) = 0
       · rw [if_pos h4,h4,ext00]
         exact ⟨_,rfl,fun w n hw => (by cases hw),fun _ => rfl⟩
       · rw [if_neg h4,ext_take]
         have hle := signV_le (bytesOf s) (by rw [h]; simp)
         refine ⟨_,rfl,fun w n hw => ?_,fun hw => (by cases hw)⟩
         cases hw
         rw [str_size,List.length_take,Nat.min_eq_left hle]
theorem ref_word_spec (s : ByteArray) (a : Int) (t : List Int) (h : bytesOf s = a :: t) (hs : (bytesOf s).length ≤ 1000) (k : Nat) (hk : 3000 ≤ k) : ∃ r,dossierref08_word.f k s = some r ∧ Tells (wordV (bytesOf s)) r := by
 have hz : s.size = t.length + 1 := by rw [b_size,h]; rfl
 have hb : bt s 0 = a := by rw [bt_get,h]; rfl
 have ha : 0 ≤ a ∧ a < 256 := bytes_of s a (by rw [h]; simp)
 have g0 : (bytesOf s).getD 0 0 = a := by rw [h]; rfl
 unfold dossierref08_word.f wordV
 rw [if_pos (by omega),hb,g0,digit_spec,Option.bind_some,letter_spec]
 by_cases h2 : digitV a = true
 · have h1 : ¬ letterV a = true := by
    intro x; unfold letterV at x; unfold digitV at h2; simp at x h2; omega
   rw [if_pos h2,if_neg h1,if_pos h2]
   have hd := while_digits (bytesOf s)
   have hn0 : (bytesOf s).takeWhile digitV ≠ [] := by rw [h,List.takeWhile_cons_of_pos h2]; simp
   have hle := while_len digitV (bytesOf s)
   have hbs : bytesOf (s.extract 0 ((bytesOf s).takeWhile digitV).length) = (bytesOf s).takeWhile digitV := by rw [ext0,take_while]
   have hI := integer_at s (by omega) 1100 (numV ((bytesOf s).takeWhile digitV)) ((bytesOf s).takeWhile digitV).length
    (fun k hk => by
     have := ref_number_spec (s.extract 0 ((bytesOf s).takeWhile digitV).length) (by rw [hbs]; exact hd) (by rw [hbs]; exact hn0) (by rw [hbs]; omega) k (by rw [hbs]; omega)
     rw [hbs] at this; exact this) (bytesOf s).length 0 (k - 1100 - (bytesOf s).length - 1) (by omega) (by rw [List.drop_zero]; omega)
   rw [show 1100 + (k - 1100 - (bytesOf s).length - 1) + (bytesOf s).length + 1 = k from by omega] at hI
   unfold dossierref08_integer.f
   rw [show ((0 : Nat) : Int) = 0 from rfl] at hI
   rw [hI,Option.bind_some]
   by_cases h3 : (numV ((bytesOf s).takeWhile digitV)).2 = 0
   · rw [if_pos h3]
     refine ⟨_,rfl,fun w n hw => ?_,fun hw => (by cases hw)⟩
     cases hw
     rw [h3]; rfl
   · rw [if_neg h3]
     refine ⟨_,rfl,fun w n hw => (by cases hw),fun _ => ?_⟩
     simpa using h3
 · rw [if_neg h2,if_neg h2]
   by_cases h3 : a = 34
   · have h1 : ¬ letterV a = true := by rw [h3]; decide
     rw [if_pos h3,if_neg h1,if_pos h3]
     obtain ⟨r,hr,ht⟩ := text_at s hs ((bytesOf s).length - 1) 1 (k - ((bytesOf s).length - 1) - 60) ⟨#[]⟩ (by rw [h]; simp; omega) (by decide)
     rw [show k - ((bytesOf s).length - 1) - 60 + ((bytesOf s).length - 1) + 60 = k from by omega] at hr
     unfold dossierref08_text.f
     rw [show ((1 : Nat) : Int) = 1 from rfl] at hr
     rw [hr,Option.bind_some]
     refine ⟨r,rfl,?_⟩
     cases hsc : scan ((bytesOf s).drop 1) with
     | none => exact ⟨fun w n hw => (by cases hw),fun _ => ht.2 fun o n x => by rw [hsc] at x; cases x⟩
     | some q =>
      obtain ⟨o,m⟩ := q
      by_cases hg : Lex.Good o
      · have e := ht.1 o m hsc hg
        unfold textV
        simp only
        by_cases h4 : 256 < o.length
        · rw [if_pos (Or.inl h4)]
          refine ⟨fun w n hw => (by cases hw),fun _ => ?_⟩
          rw [e]
          simp
          omega
        · rw [if_neg (fun x => x.elim h4 (fun y => y hg))]
          refine ⟨fun w n hw => ?_,fun hw => (by cases hw)⟩
          cases hw
          rw [e,nil_append]
          have : decide ((((⟨#[]⟩ : ByteArray).size + o.length : Nat) : Int) ≤ 256) = true := by
           rw [decide_eq_true_eq]
           have : (⟨#[]⟩ : ByteArray).size = 0 := rfl
           omega
          rw [this,Nat.add_comm]
      · unfold textV
        simp only
        rw [if_pos (Or.inr hg)]
        exact ⟨fun w n hw => (by cases hw),fun _ => ht.2 fun o' n' x => by rw [hsc] at x; cases x; exact hg⟩
   · rw [if_neg h3,if_neg h3,Option.bind_some]
     by_cases h1 : letterV a = true
     · rw [if_pos h1,if_pos h1]
       have hn := name_at s (by omega) ((bytesOf s).length - 1) 1 (k - ((bytesOf s).length - 1) - 1) (by rw [h]; simp; omega)
       rw [show k - ((bytesOf s).length - 1) - 1 + ((bytesOf s).length - 1) + 1 = k from by omega,show ((1 : Nat) : Int) = 1 from rfl] at hn
       rw [hn]
       have hp : nameP a = true := by unfold nameP; rw [h1]; rfl
       have e : 1 + (((bytesOf s).drop 1).takeWhile fun x => letterV x || digitV x).length = ((bytesOf s).takeWhile nameP).length := by
        rw [h,List.takeWhile_cons_of_pos hp,List.length_cons,List.drop_succ_cons,List.drop_zero,Nat.add_comm]; rfl
       rw [e,ext_while]
       refine ⟨_,rfl,fun w n hw => ?_,fun hw => (by cases hw)⟩
       cases hw; rfl
     · rw [if_neg h1,if_neg h1]
       have hg := ref_sign_spec (k - 20) s (by rw [h]; simp)
       rw [show k - 20 + 20 = k from by omega] at hg
       rw [hg,Option.bind_some]
       by_cases h4 : signV (bytesOf s) = 0
       · rw [if_pos h4,if_pos h4]
         exact ⟨_,rfl,fun w n hw => (by cases hw),fun _ => rfl⟩
       · rw [if_neg h4,if_neg h4,ext_take]
         refine ⟨_,rfl,fun w n hw => ?_,fun hw => (by cases hw)⟩
         cases hw; rfl
/-! ## All words -/
def blankV (x : Int) : Bool := decide (x = 32) || decide (x = 9) || decide (x = 10) || decide (x = 13)
theorem space_spec (x : Int) : dossierref01_Space.f x = some (blankV x) := by
 unfold dossierref01_Space.f blankV
 repeat' split
 all_goals (congr 1; rw [Bool.eq_iff_iff]; simp; omega)
theorem trim_spec (s : ByteArray) : ∃ r,strings_TrimLeft.f s ⟨#[32,9,10,13]⟩ = some r ∧ bytesOf r = (bytesOf s).dropWhile blankV := by
 unfold strings_TrimLeft.f
 rw [if_pos ⟨by decide,by decide⟩]
 refine ⟨_,rfl,?_⟩
 unfold bytesOf
 simp only
 generalize s.data.toList = l
 unfold Lib.trimLeftS
 induction l with
 | nil => rfl
 | cons b t ih =>
  have hb : ([32,9,10,13] : List UInt8).contains b = blankV (b.toNat : Int) := by
   unfold blankV
   rw [Bool.eq_iff_iff]
   simp [← UInt8.toNat_inj]
   omega
  have hb' : (⟨#[32,9,10,13]⟩ : ByteArray).data.toList.contains b = blankV (b.toNat : Int) := hb
  rw [List.dropWhile_cons,List.map_cons,List.dropWhile_cons,hb']
  by_cases hc : blankV (b.toNat : Int) = true
  · rw [if_pos hc,if_pos hc]; exact ih
  · rw [if_neg hc,if_neg hc]; rfl
/-- The words' list ends with an end, and no text in it is long. -/
def Ends : List S69 → Prop
 | [] => False
 | w :: r => w.f1.size ≤ 400 ∧ ((r = [] ∧ w.f0 = 0) ∨ Ends r)
theorem wordV_size (l : List Int) (hl : l.length ≤ 400) (h : l ≠ []) (w : S69) (n : Nat) (hw : wordV l = some (w,n)) : w.f1.size ≤ 400 := by
 unfold wordV at hw
 split at hw
 · cases hw
   have := while_len nameP l
   show (strOfNums _).size ≤ _
   rw [str_size]; omega
 · split at hw
   · split at hw
     · cases hw; show (⟨#[]⟩ : ByteArray).size ≤ _; decide
     · cases hw
   · split at hw
     · cases hs : scan (l.drop 1) with
       | none => rw [hs] at hw; cases hw
       | some r =>
        rw [hs] at hw
        unfold textV at hw
        simp only at hw
        split at hw
        · cases hw
        · rename_i h4
          cases hw
          show (strOfNums _).size ≤ _
          rw [str_size]
          have : ¬ 256 < r.1.length := fun x => h4 (Or.inl x)
          omega
     · split at hw
       · cases hw
       · cases hw
         show (strOfNums _).size ≤ _
         rw [str_size,List.length_take]
         omega
theorem words_at (s : ByteArray) (hs : (bytesOf s).length ≤ 400) (C : Nat) (hC : 3001 ≤ C) : ∀ (d i k1 k2 : Nat) (acc : List S69) (rest : ByteArray),i + d = (bytesOf s).length → acc.length ≤ i → bytesOf rest = ((bytesOf s).drop i).dropWhile blankV → d + C ≤ k1 → d + C ≤ k2 →
 ∃ r,lexer_Words.l0 k1 s acc rest = some r ∧ dossierref08_Words.l0 k2 s acc (i : Int) = some r ∧ r.1.length ≤ 401 ∧ (r.2.2 = 0 → ∃ x,r.1 = acc ++ x ∧ Ends x) := by
 intro d
 induction d using Nat.strongRecOn with
 | ind d ih =>
  intro i k1 k2 acc rest hi hacc hrest hk1 hk2
  have hss := b_size s
  by_cases hlt : i < (bytesOf s).length
  · obtain ⟨d',rfl⟩ : ∃ d',d = d' + 1 := ⟨d - 1,by omega⟩
    obtain ⟨m2,rfl⟩ : ∃ m,k2 = m + 1 := ⟨k2 - 1,by omega⟩
    have hbx := bytes_of s _ (List.getElem_mem hlt)
    have e2 : wrap64 ((i : Int) + 1) = ((i + 1 : Nat) : Int) := by rw [w64' _ (by omega) (by omega)]; omega
    have e3 : wrap64 ((bytesOf s)[i]) = (bytesOf s)[i] := by rw [w64' _ (by omega) (by omega)]
    rw [dossierref08_Words.l0,if_pos (by omega),if_pos (by omega),bt_at' hlt,e3,space_spec,Option.bind_some]
    by_cases hbl : blankV (bytesOf s)[i] = true
    · rw [if_pos hbl,e2]
      refine ih d' (by omega) (i + 1) k1 m2 acc rest (by omega) (by omega) ?_ (by omega) (by omega)
      rw [hrest,drop_cons hlt,List.dropWhile_cons,if_pos hbl]
    · have hrb : bytesOf rest = (bytesOf s).drop i := by rw [hrest,drop_cons hlt,List.dropWhile_cons,if_neg hbl]
      have hrs : rest = s.extract i s.size := by apply b_inj; rw [hrb,ext_all]
      have hrz : rest.size = (bytesOf s).length - i := by rw [b_size,hrb,List.length_drop]
      have hcons := hrb.trans (drop_cons hlt)
      rw [if_neg hbl,if_pos (by omega),Int.toNat_natCast,← hrs]
      obtain ⟨m1,rfl⟩ : ∃ m,k1 = m + 1 := ⟨k1 - 1,by omega⟩
      obtain ⟨r1,hr1,hsay⟩ := word_spec rest _ _ hcons (by rw [hrb,List.length_drop]; omega) m1 (by omega)
      obtain ⟨r2,hr2,htell⟩ := ref_word_spec rest _ _ hcons (by rw [hrb,List.length_drop]; omega) m2 (by omega)
      rw [lexer_Words.l0,if_neg (by rw [toList_iff,hcons]; exact List.cons_ne_nil _ _),hr1,Option.bind_some,hr2,Option.bind_some]
      cases hw : wordV (bytesOf rest) with
      | none =>
       have q1 := hsay.2 hw
       have q2 := htell.2 hw
       rw [if_pos q1,if_neg (by rw [q2]; decide)]
       refine ⟨_,rfl,?_,by simp,fun h => absurd (show (20 : Int) = 0 from h) (by decide)⟩
       have : wrap64 ((s.size : Int) - (rest.size : Int)) = (i : Int) := by rw [w64' _ (by omega) (by omega)]; omega
       rw [this]
      | some v =>
       obtain ⟨w,n⟩ := v
       have q1 := hsay.1 w n hw
       have q2 := htell.1 w n hw
       have hn := wordV_len (bytesOf rest) (bytes_of rest) (by rw [hcons]; exact List.cons_ne_nil _ _) w n hw
       have hl := b_size rest
       subst q1 q2
       simp only
       rw [if_neg (by omega),if_pos (by omega),if_pos (by omega),if_pos (by omega),if_pos trivial,if_pos (by omega),Int.toNat_natCast]
       obtain ⟨r3,hr3,hb3⟩ := trim_spec (rest.extract n rest.size)
       have e4 : wrap64 ((i : Int) + (n : Int)) = ((i + n : Nat) : Int) := by rw [w64' _ (by omega) (by omega)]; omega
       rw [hr3,Option.bind_some,e4]
       have t1 : d' + 1 - n < d' + 1 := by omega
       have t2 : i + n + (d' + 1 - n) = (bytesOf s).length := by omega
       have t3 : (acc ++ [(⟨w.f0,w.f1,w.f2⟩ : S69)]).length ≤ i + n := by rw [List.length_append,List.length_singleton]; exact Nat.add_le_add hacc hn.1
       have t4 : d' + 1 - n + C ≤ m1 := by omega
       have t5 : d' + 1 - n + C ≤ m2 := by omega
       have hrl : (bytesOf rest).length ≤ 400 := by rw [hrb,List.length_drop]; exact Nat.le_trans (Nat.sub_le _ _) hs
       have hsz := wordV_size (bytesOf rest) hrl (by rw [hcons]; exact List.cons_ne_nil _ _) w n hw
       obtain ⟨r,g1,g2,g3,g4⟩ := ih (d' + 1 - n) t1 (i + n) m1 m2 _ r3 t2 t3 (by rw [hb3,ext_all,hrb,List.drop_drop]) t4 t5
       refine ⟨r,g1,g2,g3,fun h => ?_⟩
       obtain ⟨x,hx,he⟩ := g4 h
       exact ⟨_ :: x,by rw [hx,List.append_assoc]; rfl,hsz,Or.inr he⟩
  · have hd : (bytesOf s).drop i = [] := List.drop_of_length_le (by omega)
    rw [hd] at hrest
    obtain ⟨m1,rfl⟩ : ∃ m,k1 = m + 1 := ⟨k1 - 1,by omega⟩
    obtain ⟨m2,rfl⟩ : ∃ m,k2 = m + 1 := ⟨k2 - 1,by omega⟩
    rw [lexer_Words.l0,if_pos (by rw [toList_iff,hrest]; rfl),if_pos (by omega),dossierref08_Words.l0,if_neg (by omega),if_pos (by omega)]
    exact ⟨_,rfl,rfl,by rw [List.length_append,List.length_singleton]; omega,fun _ => ⟨_,rfl,by decide,Or.inl ⟨rfl,rfl⟩⟩⟩
theorem words_same' (s : ByteArray) (k : Nat) (hk : 4000 ≤ k) : ∃ r,lexer_Words.f k s = some r ∧ dossierref08_Words.f k s = some r ∧ r.1.length ≤ 401 ∧ (r.2.2 = 0 → Ends r.1) := by
 have hss := b_size s
 unfold lexer_Words.f dossierref08_Words.f
 by_cases h : 400 < (bytesOf s).length
 · rw [if_pos (by omega),if_pos (by omega)]
   exact ⟨_,rfl,rfl,by simp,fun h => absurd h (by decide)⟩
 · rw [if_neg (by omega),if_neg (by omega)]
   obtain ⟨r,hr,hb⟩ := trim_spec s
   rw [hr,Option.bind_some]
   obtain ⟨r',g1,g2,g3,g4⟩ := words_at s (by omega) 3001 (Nat.le_refl _) _ 0 k k [] r (Nat.zero_add _) (by simp) hb (by omega) (by omega)
   refine ⟨r',g1,g2,g3,fun h => ?_⟩
   obtain ⟨x,hx,he⟩ := g4 h
   rw [hx]; exact he
end Go.Proofs.YtbcpnpbkbndkjaaGreatDoor.Words
end
section
/- Conditions and what they name: what each function is. -/
-- prev ref_Parse
-- irreducible findG findR findO Values.sortV idxN fileW truthsW parseP parseR big deepP kwP stP nmP plainB namedB partsW pathB Values.canV aloneB kidsZ rightW canW hasS Values.kindV kindW kindT truthW filesW
-- map words %s.map fun x : Q.S69 => (x.f0,x.f1,x.f2)
set_option linter.unusedVariables false
namespace Go.Proofs.YtbcpnpbkbndkjaaGreatDoor.Ev
open Go Go.RowKit Go.Proofs.YtbcpnpbkbndkjaaGreatDoorW.PrintWords
/-- Is a text one name? -/
def plainB (s : ByteArray) : Bool := match bytesOf s with
 | [] => false
 | a :: r => Bytes.letterV a && r.all Words.nameP
def namedB (s : ByteArray) : Bool := plainB s && !kwP s
/-- The parts of a text, between points. -/
def partsW (s : ByteArray) : List ByteArray := splitW s (⟨#[46]⟩ : ByteArray)
def pathB (s : ByteArray) : Bool := (partsW s).all namedB
abbrev canV := Values.canV
abbrev kindV := Values.kindV
abbrev sortZ := Values.sortV
def none4 (a b : Int) (c : Bool) (t : ByteArray) : Bool := decide (a = 0) && (decide (b = 0) && (!c && seq t (⟨#[]⟩ : ByteArray)))
def aloneB (op a b : Int) (c : Bool) (t s : ByteArray) (j : Int) : Bool :=
 if op = 1 then canV a b c t && (decide (a ≠ 0) && (decide (0 ≤ b) && (seq s (⟨#[]⟩ : ByteArray) && decide (j = 0))))
 else if op = 2 ∨ op = 3 then none4 a b c t && (pathB s && decide (j = 0))
 else if op = 4 then none4 a b c t && (namedB s && decide (1 ≤ j ∧ j ≤ 8))
 else none4 a b c t && (seq s (⟨#[]⟩ : ByteArray) && decide (j = 0))
def kidsZ (op : Int) : Int := if 1 ≤ op ∧ op ≤ 4 then 0 else if op = 5 ∨ op = 6 then 1 else if 7 ≤ op ∧ op ≤ 19 then 2 else -1
def allW (F : Node → Option Bool) : List Node → Option Bool
 | [] => some true
 | n :: r => (F n).bind fun b => if b = true then allW F r else some false
/-- May a tree be, but for how deep it is? -/
def rightW : Nat → Node → Option Bool
 | 0,_ => none
 | k + 1,n => if n.x.2.1.2.2.2.size ≤ 900000 ∧ n.x.2.2.1.size ≤ 900000 then if aloneB n.x.1 n.x.2.1.1 n.x.2.1.2.1 n.x.2.1.2.2.1 n.x.2.1.2.2.2 n.x.2.2.1 n.x.2.2.2.1 = true ∧ (n.x.2.2.2.2.length : Int) = kidsZ n.x.1 then allW (rightW k) n.x.2.2.2.2 else some false else none
noncomputable def canW (n : Node) : Option Bool := (deepP (big n.x.2.2.2.2) n.x.2.2.2.2).bind fun d => if d ≤ 24 then rightW (big n.x.2.2.2.2) n else some false
def firstN (p : ByteArray) : List FileItem → Option FileItem
 | [] => none
 | f :: r => if seq f.x.1 p = true then some f else firstN p r
def idxN (p : ByteArray) : List FileItem → Int → Int
 | [],_ => -1
 | f :: r,i => if seq f.x.1 p = true then i else idxN p r (i + 1)
def nilF : FileItem := .mk ((⟨#[]⟩ : ByteArray),0,0,[],[])
/-- The definition of a path. -/
def findG : List ByteArray → List FileItem → Option (FileItem × Bool)
 | [],_ => none
 | p :: r,l => if l.length ≤ 9223372036854775807 then (match firstN p l with
  | none => some (nilF,false)
  | some f => match r with
   | [] => some (f,true)
   | _ :: _ => findG r f.x.2.2.2.1) else none
def findR : Nat → List FileItem → List ByteArray → Option (FileItem × Bool)
 | 0,_,_ => none
 | k + 1,l,p => if p.length ≤ k + 1 then findG p l else none
def fileW (l : List FileItem) (s : ByteArray) : Option (FileItem × Bool) := if s.size ≤ 900000 then findG (partsW s) l else none
def findO (z : Int) : Int × Int × ByteArray × Bool := match opsL.find? (fun o => o.1 == z) with
 | some o => (o.1,o.2.1,o.2.2,true)
 | none => (0,0,(⟨#[]⟩ : ByteArray),false)
def hasS (l : List ByteArray) (s : ByteArray) : Bool := l.any fun x => seq x s
/-- The kids' kinds, one by one, or the error. -/
def kindL (F : Node → Option (Int × Int)) : List Node → Option (List Int × Int)
 | [] => some ([],0)
 | n :: r => (F n).bind fun v => if v.2 = 0 then (kindL F r).bind fun u => some (v.1 :: u.1,u.2) else some ([],v.2)
def kindW (files : List FileItem) (items : List ByteArray) : Nat → Node → Option (Int × Int)
 | 0,_ => none
 | k + 1,n => if n.x.1 = 1 then some (n.x.2.1.1,0) else if n.x.1 = 4 then (if items.length ≤ 1000 then (if hasS items n.x.2.2.1 = true then some (1,0) else some (0,23)) else none)
  else if n.x.1 = 2 ∨ n.x.1 = 3 then (fileW files n.x.2.2.1).bind fun v => (if v.2 = true then (if n.x.1 = 3 then some (1,0) else if v.1.x.2.1 = 0 then some (0,22) else some (v.1.x.2.1,0)) else some (0,23))
  else if n.x.2.2.2.2.length ≤ 2 then (kindL (kindW files items k) n.x.2.2.2.2).bind fun v => if v.2 = 0 then some (if (kindV n.x.1 (v.1.getD 0 0) (v.1.getD 1 0)).2 = true then ((kindV n.x.1 (v.1.getD 0 0) (v.1.getD 1 0)).1,0) else (0,22)) else some (0,v.2) else none
noncomputable def kindT (n : Node) (files : List FileItem) (items : List ByteArray) : Option (Int × Int) := (canW n).bind fun c => if c = true then kindW files items (big n.x.2.2.2.2) n else some (0,1)
noncomputable def truthW (P : ByteArray → Option (Node × Int)) (s : ByteArray) (files : List FileItem) (items : List ByteArray) : Option Int :=
 if seq s (⟨#[]⟩ : ByteArray) = true then some 0 else (P s).bind fun v => if v.2 = 0 then (kindT v.1 files items).bind fun u => if u.2 = 0 then (if u.1 = 2 then some 0 else some 22) else some u.2 else some v.2
/-- Are definitions not many? So many are left. -/
def filesL (F : FileItem → Int → Option (Bool × Int)) : List FileItem → Int → Option (Bool × Int)
 | [],u => some (true,u)
 | f :: r,u => if IntKind.i64.wrap (u - 1) < 0 then some (false,IntKind.i64.wrap (u - 1)) else if 20 < f.x.2.2.2.2.length then some (false,IntKind.i64.wrap (u - 1)) else (F f (IntKind.i64.wrap (u - 1))).bind fun v => if v.1 = true then filesL F r v.2 else some v
def filesW : Nat → List FileItem → Int → Int → Option (Bool × Int)
 | 0,_,_,_ => none
 | k + 1,l,d,u => if 40 < d then some (false,u) else if l.length ≤ 9223372036854775807 then filesL (fun f u => filesW k f.x.2.2.2.1 (IntKind.i64.wrap (d + 1)) u) l u else none
noncomputable def truthsW (s : ByteArray) (f : List FileItem) (i : List ByteArray) : Option Bool := (filesW 42 f 0 120).bind fun v => if v.1 = true then (if 50 < i.length then some true else (truthW parseP s f i).bind fun a => (truthW parseR s f i).bind fun b => some (decide (a = b))) else some true
noncomputable def cx_lexer_Plain : Cx U0 (Rr U0) := cxOf specs_ref_Parse
noncomputable def lexer_Plain.spec : Spec := fun args st K => match args,st.box,st.nt with
 | [.str s],[],0 => (if s.size ≤ 900000 then some (plainB s) else none).bind fun v => K (.ret (.bool v)) (lcRet [] [] 0)
 | _,_,_ => none
noncomputable def specs_lexer_Plain : List (FuncId × Bool × Spec) := (119,false,lexer_Plain.spec) :: specs_ref_Parse
noncomputable def cx_ref08_Plain : Cx U0 (Rr U0) := cxOf specs_lexer_Plain
noncomputable def ref08_Plain.spec : Spec := fun args st K => match args,st.box,st.nt with
 | [.str s],[],0 => (if s.size ≤ 900000 then some (plainB s) else none).bind fun v => K (.ret (.bool v)) (lcRet [] [] 0)
 | _,_,_ => none
noncomputable def specs_ref08_Plain : List (FuncId × Bool × Spec) := (156,false,ref08_Plain.spec) :: specs_lexer_Plain
noncomputable def cx_expr_Named : Cx U0 (Rr U0) := cxOf specs_ref08_Plain
noncomputable def expr_Named.spec : Spec := fun args st K => match args,st.box,st.nt with
 | [.str s],[],0 => (if s.size ≤ 900000 then some (namedB s) else none).bind fun v => K (.ret (.bool v)) (lcRet [] [] 0)
 | _,_,_ => none
noncomputable def specs_expr_Named : List (FuncId × Bool × Spec) := (83,false,expr_Named.spec) :: specs_ref08_Plain
noncomputable def cx_ref_Named : Cx U0 (Rr U0) := cxOf specs_expr_Named
noncomputable def ref_Named.spec : Spec := fun args st K => match args,st.box,st.nt with
 | [.str s],[],0 => (if s.size ≤ 900000 then some (namedB s) else none).bind fun v => K (.ret (.bool v)) (lcRet [] [] 0)
 | _,_,_ => none
noncomputable def specs_ref_Named : List (FuncId × Bool × Spec) := (132,false,ref_Named.spec) :: specs_expr_Named
noncomputable def cx_expr_pathed : Cx U0 (Rr U0) := cxOf specs_ref_Named
noncomputable def expr_pathed.spec : Spec := fun args st K => match args,st.box,st.nt with
 | [.str s],[],0 => (if s.size ≤ 900000 then some (pathB s) else none).bind fun v => K (.ret (.bool v)) (lcRet [] [] 0)
 | _,_,_ => none
noncomputable def specs_expr_pathed : List (FuncId × Bool × Spec) := (82,false,expr_pathed.spec) :: specs_ref_Named
noncomputable def cx_ref_Parts : Cx U0 (Rr U0) := cxOf specs_expr_pathed
noncomputable def ref_Parts.spec : Spec := fun args st K => match args,st.box,st.nt with
 | [.str s],[],0 => (if s.size ≤ 900000 then some (partsW s) else none).bind fun v => K (.ret (.sl .str (v) .no)) (lcRet [] [] 0)
 | _,_,_ => none
noncomputable def specs_ref_Parts : List (FuncId × Bool × Spec) := (103,false,ref_Parts.spec) :: specs_expr_pathed
noncomputable def cx_ref_pathed : Cx U0 (Rr U0) := cxOf specs_ref_Parts
noncomputable def ref_pathed.spec : Spec := fun args st K => match args,st.box,st.nt with
 | [.str s],[],0 => (if s.size ≤ 900000 then some (pathB s) else none).bind fun v => K (.ret (.bool v)) (lcRet [] [] 0)
 | _,_,_ => none
noncomputable def specs_ref_pathed : List (FuncId × Bool × Spec) := (131,false,ref_pathed.spec) :: specs_ref_Parts
noncomputable def cx_expr_find : Cx U0 (Rr U0) := cxOf specs_ref_pathed
noncomputable def expr_find.spec : Spec := fun args st K => match args,st.box,st.nt with
 | [.int .i64 z],[],0 => (some (findO z)).bind fun v => K (.ret (.tup [.agg [.int .i64 v.1,.int .i64 v.2.1,.str v.2.2.1],.bool v.2.2.2])) (lcRet [] [] 0)
 | _,_,_ => none
noncomputable def specs_expr_find : List (FuncId × Bool × Spec) := (120,false,expr_find.spec) :: specs_ref_pathed
noncomputable def cx_expr_kids : Cx U0 (Rr U0) := cxOf specs_expr_find
noncomputable def expr_kids.spec : Spec := fun args st K => match args,st.box,st.nt with
 | [.int .i64 z],[],0 => (some (kidsZ z)).bind fun v => K (.ret (.int .i64 v)) (lcRet [] [] 0)
 | _,_,_ => none
noncomputable def specs_expr_kids : List (FuncId × Bool × Spec) := (85,false,expr_kids.spec) :: specs_expr_find
noncomputable def cx_ref_kids : Cx U0 (Rr U0) := cxOf specs_expr_kids
noncomputable def ref_kids.spec : Spec := fun args st K => match args,st.box,st.nt with
 | [.int .i64 z],[],0 => (some (kidsZ z)).bind fun v => K (.ret (.int .i64 v)) (lcRet [] [] 0)
 | _,_,_ => none
noncomputable def specs_ref_kids : List (FuncId × Bool × Spec) := (100,false,ref_kids.spec) :: specs_expr_kids
noncomputable def cx_ref01_Wrong : Cx U0 (Rr U0) := cxOf specs_ref_kids
noncomputable def ref01_Wrong.spec : Spec := fun args st K => match args,st.box,st.nt with
 | [.sl (.int .u8) b .no],[],0 => (lim fun k => Q.dossierref01_Wrong.f k b).bind fun v => K (.ret (.int .i64 v)) (lcRet [] [] 0)
 | _,_,_ => none
noncomputable def specs_ref01_Wrong : List (FuncId × Bool × Spec) := (138,false,ref01_Wrong.spec) :: specs_ref_kids
noncomputable def cx_value_Can : Cx U0 (Rr U0) := cxOf specs_ref01_Wrong
noncomputable def value_Can.spec : Spec := fun args st K => match args,st.box,st.nt with
 | [.agg [.int .i64 y0,.int .i64 y1,.bool y2,.str y3]],[],0 => (if y3.size ≤ 900000 then some (canV y0 y1 y2 y3) else none).bind fun v => K (.ret (.bool v)) (lcRet [] [] 0)
 | _,_,_ => none
noncomputable def specs_value_Can : List (FuncId × Bool × Spec) := (81,false,value_Can.spec) :: specs_ref01_Wrong
noncomputable def cx_ref07_Can : Cx U0 (Rr U0) := cxOf specs_value_Can
noncomputable def ref07_Can.spec : Spec := fun args st K => match args,st.box,st.nt with
 | [.agg [.int .i64 y0,.int .i64 y1,.bool y2,.str y3]],[],0 => (if y3.size ≤ 900000 then some (canV y0 y1 y2 y3) else none).bind fun v => K (.ret (.bool v)) (lcRet [] [] 0)
 | _,_,_ => none
noncomputable def specs_ref07_Can : List (FuncId × Bool × Spec) := (108,false,ref07_Can.spec) :: specs_value_Can
noncomputable def cx_value_sortOf : Cx U0 (Rr U0) := cxOf specs_ref07_Can
noncomputable def value_sortOf.spec : Spec := fun args st K => match args,st.box,st.nt with
 | [.int .i64 z],[],0 => (some (sortZ z)).bind fun v => K (.ret (.int .i64 v)) (lcRet [] [] 0)
 | _,_,_ => none
noncomputable def specs_value_sortOf : List (FuncId × Bool × Spec) := (90,false,value_sortOf.spec) :: specs_ref07_Can
noncomputable def cx_value_Kind : Cx U0 (Rr U0) := cxOf specs_value_sortOf
noncomputable def value_Kind.spec : Spec := fun args st K => match args,st.box,st.nt with
 | [.int .i64 z,.int .i64 a,.int .i64 b],[],0 => (some (kindV z a b)).bind fun v => K (.ret (.tup [.int .i64 v.1,.bool v.2])) (lcRet [] [] 0)
 | _,_,_ => none
noncomputable def specs_value_Kind : List (FuncId × Bool × Spec) := (44,false,value_Kind.spec) :: specs_value_sortOf
noncomputable def cx_ref07_Kind : Cx U0 (Rr U0) := cxOf specs_value_Kind
noncomputable def ref07_Kind.spec : Spec := fun args st K => match args,st.box,st.nt with
 | [.int .i64 z,.int .i64 a,.int .i64 b],[],0 => (some (kindV z a b)).bind fun v => K (.ret (.tup [.int .i64 v.1,.bool v.2])) (lcRet [] [] 0)
 | _,_,_ => none
noncomputable def specs_ref07_Kind : List (FuncId × Bool × Spec) := (53,false,ref07_Kind.spec) :: specs_value_Kind
noncomputable def cx_expr_right : Cx U0 (Rr U0) := cxOf specs_ref07_Kind
noncomputable def expr_right.specR (k : Nat) : Spec := fun args st K => match args,st.box,st.nt with
 | [.agg [.int .i64 a0,.int .i64 a1,.int .i64 a2,.bool a3,.str a4,.str a5,.int .i64 a6,.sl (.user 0) a7 .no]],[],0 => (rightW k (nd a0 a1 a2 a3 a4 a5 a6 a7)).bind fun v => K (.ret (.bool v)) (lcRet [] [] 0)
 | _,_,_ => none
noncomputable def expr_right.rec (k : Nat) := recL [(41,expr_right.specR k)]
noncomputable def expr_right.spec : Spec := fun args st K => match args,st.box,st.nt with
 | [.agg [.int .i64 a0,.int .i64 a1,.int .i64 a2,.bool a3,.str a4,.str a5,.int .i64 a6,.sl (.user 0) a7 .no]],[],0 => (rightW (big a7) (nd a0 a1 a2 a3 a4 a5 a6 a7)).bind fun v => K (.ret (.bool v)) (lcRet [] [] 0)
 | _,_,_ => none
noncomputable def specs_expr_right : List (FuncId × Bool × Spec) := (41,false,expr_right.spec) :: specs_ref07_Kind
noncomputable def cx_expr_Can : Cx U0 (Rr U0) := cxOf specs_expr_right
noncomputable def expr_Can.spec : Spec := fun args st K => match args,st.box,st.nt with
 | [.agg [.int .i64 a0,.int .i64 a1,.int .i64 a2,.bool a3,.str a4,.str a5,.int .i64 a6,.sl (.user 0) a7 .no]],[],0 => (canW (nd a0 a1 a2 a3 a4 a5 a6 a7)).bind fun v => K (.ret (.bool v)) (lcRet [] [] 0)
 | _,_,_ => none
noncomputable def specs_expr_Can : List (FuncId × Bool × Spec) := (27,false,expr_Can.spec) :: specs_expr_right
noncomputable def cx_ref_alone : Cx U0 (Rr U0) := cxOf specs_expr_Can
noncomputable def ref_alone.spec : Spec := fun args st K => match args,st.box,st.nt with
 | [.agg [.int .i64 a0,.int .i64 a1,.int .i64 a2,.bool a3,.str a4,.str a5,.int .i64 a6,.sl (.user 0) a7 .no]],[],0 => (if a4.size ≤ 900000 ∧ a5.size ≤ 900000 then some (aloneB a0 a1 a2 a3 a4 a5 a6) else none).bind fun v => K (.ret (.bool v)) (lcRet [] [] 0)
 | _,_,_ => none
noncomputable def specs_ref_alone : List (FuncId × Bool × Spec) := (101,false,ref_alone.spec) :: specs_expr_Can
noncomputable def cx_ref_can : Cx U0 (Rr U0) := cxOf specs_ref_alone
noncomputable def ref_can.specR (k : Nat) : Spec := fun args st K => match args,st.box,st.nt with
 | [.agg [.int .i64 a0,.int .i64 a1,.int .i64 a2,.bool a3,.str a4,.str a5,.int .i64 a6,.sl (.user 0) a7 .no]],[],0 => (rightW k (nd a0 a1 a2 a3 a4 a5 a6 a7)).bind fun v => K (.ret (.bool v)) (lcRet [] [] 0)
 | _,_,_ => none
noncomputable def ref_can.rec (k : Nat) := recL [(50,ref_can.specR k)]
noncomputable def ref_can.spec : Spec := fun args st K => match args,st.box,st.nt with
 | [.agg [.int .i64 a0,.int .i64 a1,.int .i64 a2,.bool a3,.str a4,.str a5,.int .i64 a6,.sl (.user 0) a7 .no]],[],0 => (rightW (big a7) (nd a0 a1 a2 a3 a4 a5 a6 a7)).bind fun v => K (.ret (.bool v)) (lcRet [] [] 0)
 | _,_,_ => none
noncomputable def specs_ref_can : List (FuncId × Bool × Spec) := (50,false,ref_can.spec) :: specs_ref_alone
noncomputable def cx_ref_Can : Cx U0 (Rr U0) := cxOf specs_ref_can
noncomputable def ref_Can.spec : Spec := fun args st K => match args,st.box,st.nt with
 | [.agg [.int .i64 a0,.int .i64 a1,.int .i64 a2,.bool a3,.str a4,.str a5,.int .i64 a6,.sl (.user 0) a7 .no]],[],0 => (canW (nd a0 a1 a2 a3 a4 a5 a6 a7)).bind fun v => K (.ret (.bool v)) (lcRet [] [] 0)
 | _,_,_ => none
noncomputable def specs_ref_Can : List (FuncId × Bool × Spec) := (32,false,ref_Can.spec) :: specs_ref_can
noncomputable def cx_slices_ContainsS : Cx U0 (Rr U0) := cxOf specs_ref_Can
noncomputable def slices_ContainsS.spec : Spec := fun args st K => match args,st.box,st.nt with
 | [.sl .str a .no,.str s],[],0 => (if a.length ≤ 1000 then some (hasS a s) else none).bind fun v => K (.ret (.bool v)) (lcRet [] [] 0)
 | _,_,_ => none
noncomputable def specs_slices_ContainsS : List (FuncId × Bool × Spec) := (42,false,slices_ContainsS.spec) :: specs_ref_Can
noncomputable def cx_check_file1 : Cx U0 (Rr U0) := cxOf specs_slices_ContainsS
noncomputable def check_file1.spec : Spec := fun args st K => match args,st.box,st.nt with
 | [.agg [.str a0,.int .i64 a1,.int .i64 a2,.sl (.user 1) a3 .no,.sl .str a4 .no],.ptr 0 0],[[.str t]],0 => (some (seq a0 t)).bind fun v => K (.ret (.bool v)) (lcRet [[.str t]] [] 0)
 | _,_,_ => none
noncomputable def specs_check_file1 : List (FuncId × Bool × Spec) := (89,false,check_file1.spec) :: specs_slices_ContainsS
noncomputable def cx_slices_FindF : Cx U0 (Rr U0) := cxOf specs_check_file1
noncomputable def slices_FindF.spec : Spec := fun args st K => match args,st.box,st.nt with
 | [.sl (.user 1) l .no,.fn 89 [.ptr 0 0]],[[.str t]],0 => (if l.length ≤ 9223372036854775807 then some (idxN t l 0) else none).bind fun v => K (.ret (.int .i64 v)) (lcRet [[.str t]] [] 0)
 | _,_,_ => none
noncomputable def specs_slices_FindF : List (FuncId × Bool × Spec) := (88,false,slices_FindF.spec) :: specs_check_file1
noncomputable def cx_check_file : Cx U0 (Rr U0) := cxOf specs_slices_FindF
noncomputable def check_file.spec : Spec := fun args st K => match args,st.box,st.nt with
 | [.agg [.sl (.user 1) w0 .no,.sl .str w1 .no],.str s],[],0 => (fileW w0 s).bind fun v => K (.ret (.tup [.agg (C0.flat 1 (v.1)),.bool v.2])) (lcRet [] [] 0)
 | _,_,_ => none
noncomputable def specs_check_file : List (FuncId × Bool × Spec) := (43,false,check_file.spec) :: specs_slices_FindF
noncomputable def cx_ref10_find : Cx U0 (Rr U0) := cxOf specs_check_file
noncomputable def ref10_find.specR (k : Nat) : Spec := fun args st K => match args,st.box,st.nt with
 | [.sl (.user 1) l .no,.sl .str p .no],[],0 => (findR k l p).bind fun v => K (.ret (.tup [.agg (C0.flat 1 (v.1)),.bool v.2])) (lcRet [] [] 0)
 | _,_,_ => none
noncomputable def ref10_find.rec (k : Nat) := recL [(102,ref10_find.specR k)]
noncomputable def ref10_find.spec : Spec := fun args st K => match args,st.box,st.nt with
 | [.sl (.user 1) l .no,.sl .str p .no],[],0 => (findR (p.length+1) l p).bind fun v => K (.ret (.tup [.agg (C0.flat 1 (v.1)),.bool v.2])) (lcRet [] [] 0)
 | _,_,_ => none
noncomputable def specs_ref10_find : List (FuncId × Bool × Spec) := (102,false,ref10_find.spec) :: specs_check_file
noncomputable def cx_ref10_Find : Cx U0 (Rr U0) := cxOf specs_ref10_find
noncomputable def ref10_Find.spec : Spec := fun args st K => match args,st.box,st.nt with
 | [.sl (.user 1) l .no,.str s],[],0 => (fileW l s).bind fun v => K (.ret (.tup [.agg (C0.flat 1 (v.1)),.bool v.2])) (lcRet [] [] 0)
 | _,_,_ => none
noncomputable def specs_ref10_Find : List (FuncId × Bool × Spec) := (51,false,ref10_Find.spec) :: specs_ref10_find
noncomputable def cx_ref10_has : Cx U0 (Rr U0) := cxOf specs_ref10_Find
noncomputable def ref10_has.spec : Spec := fun args st K => match args,st.box,st.nt with
 | [.sl .str a .no,.str s],[],0 => (if a.length ≤ 1000 then some (hasS a s) else none).bind fun v => K (.ret (.bool v)) (lcRet [] [] 0)
 | _,_,_ => none
noncomputable def specs_ref10_has : List (FuncId × Bool × Spec) := (52,false,ref10_has.spec) :: specs_ref10_Find
noncomputable def cx_check_kind : Cx U0 (Rr U0) := cxOf specs_ref10_has
noncomputable def check_kind.specR (k : Nat) : Spec := fun args st K => match args,st.box,st.nt with
 | [.agg [.sl (.user 1) w0 .no,.sl .str w1 .no],.agg [.int .i64 a0,.int .i64 a1,.int .i64 a2,.bool a3,.str a4,.str a5,.int .i64 a6,.sl (.user 0) a7 .no]],[],0 => (kindW w0 w1 k (nd a0 a1 a2 a3 a4 a5 a6 a7)).bind fun v => K (.ret (.tup [.int .i64 v.1,.int .i64 v.2])) (lcRet [] [] 0)
 | _,_,_ => none
noncomputable def check_kind.rec (k : Nat) := recL [(28,check_kind.specR k)]
noncomputable def check_kind.spec : Spec := fun args st K => match args,st.box,st.nt with
 | [.agg [.sl (.user 1) w0 .no,.sl .str w1 .no],.agg [.int .i64 a0,.int .i64 a1,.int .i64 a2,.bool a3,.str a4,.str a5,.int .i64 a6,.sl (.user 0) a7 .no]],[],0 => (kindW w0 w1 (big a7) (nd a0 a1 a2 a3 a4 a5 a6 a7)).bind fun v => K (.ret (.tup [.int .i64 v.1,.int .i64 v.2])) (lcRet [] [] 0)
 | _,_,_ => none
noncomputable def specs_check_kind : List (FuncId × Bool × Spec) := (28,false,check_kind.spec) :: specs_ref10_has
noncomputable def cx_ref10_kind : Cx U0 (Rr U0) := cxOf specs_check_kind
noncomputable def ref10_kind.specR (k : Nat) : Spec := fun args st K => match args,st.box,st.nt with
 | [.agg [.int .i64 a0,.int .i64 a1,.int .i64 a2,.bool a3,.str a4,.str a5,.int .i64 a6,.sl (.user 0) a7 .no],.sl (.user 1) f .no,.sl .str i .no],[],0 => (kindW f i k (nd a0 a1 a2 a3 a4 a5 a6 a7)).bind fun v => K (.ret (.tup [.int .i64 v.1,.int .i64 v.2])) (lcRet [] [] 0)
 | _,_,_ => none
noncomputable def ref10_kind.rec (k : Nat) := recL [(33,ref10_kind.specR k)]
noncomputable def ref10_kind.spec : Spec := fun args st K => match args,st.box,st.nt with
 | [.agg [.int .i64 a0,.int .i64 a1,.int .i64 a2,.bool a3,.str a4,.str a5,.int .i64 a6,.sl (.user 0) a7 .no],.sl (.user 1) f .no,.sl .str i .no],[],0 => (kindW f i (big a7) (nd a0 a1 a2 a3 a4 a5 a6 a7)).bind fun v => K (.ret (.tup [.int .i64 v.1,.int .i64 v.2])) (lcRet [] [] 0)
 | _,_,_ => none
noncomputable def specs_ref10_kind : List (FuncId × Bool × Spec) := (33,false,ref10_kind.spec) :: specs_check_kind
noncomputable def cx_check_Kind : Cx U0 (Rr U0) := cxOf specs_ref10_kind
noncomputable def check_Kind.spec : Spec := fun args st K => match args,st.box,st.nt with
 | [.agg [.int .i64 a0,.int .i64 a1,.int .i64 a2,.bool a3,.str a4,.str a5,.int .i64 a6,.sl (.user 0) a7 .no],.sl (.user 1) f .no,.sl .str i .no],[],0 => (kindT (nd a0 a1 a2 a3 a4 a5 a6 a7) f i).bind fun v => K (.ret (.tup [.int .i64 v.1,.int .i64 v.2])) (lcRet [] [] 0)
 | _,_,_ => none
noncomputable def specs_check_Kind : List (FuncId × Bool × Spec) := (15,false,check_Kind.spec) :: specs_ref10_kind
noncomputable def cx_ref10_Kind : Cx U0 (Rr U0) := cxOf specs_check_Kind
noncomputable def ref10_Kind.spec : Spec := fun args st K => match args,st.box,st.nt with
 | [.agg [.int .i64 a0,.int .i64 a1,.int .i64 a2,.bool a3,.str a4,.str a5,.int .i64 a6,.sl (.user 0) a7 .no],.sl (.user 1) f .no,.sl .str i .no],[],0 => (kindT (nd a0 a1 a2 a3 a4 a5 a6 a7) f i).bind fun v => K (.ret (.tup [.int .i64 v.1,.int .i64 v.2])) (lcRet [] [] 0)
 | _,_,_ => none
noncomputable def specs_ref10_Kind : List (FuncId × Bool × Spec) := (17,false,ref10_Kind.spec) :: specs_check_Kind
noncomputable def cx_check_Truth : Cx U0 (Rr U0) := cxOf specs_ref10_Kind
noncomputable def check_Truth.spec : Spec := fun args st K => match args,st.box,st.nt with
 | [.str s,.sl (.user 1) f .no,.sl .str i .no],[],0 => (truthW parseP s f i).bind fun v => K (.ret (.int .i64 v)) (lcRet [] [] 0)
 | _,_,_ => none
noncomputable def specs_check_Truth : List (FuncId × Bool × Spec) := (7,false,check_Truth.spec) :: specs_ref10_Kind
noncomputable def cx_ref10_Truth : Cx U0 (Rr U0) := cxOf specs_check_Truth
noncomputable def ref10_Truth.spec : Spec := fun args st K => match args,st.box,st.nt with
 | [.str s,.sl (.user 1) f .no,.sl .str i .no],[],0 => (truthW parseR s f i).bind fun v => K (.ret (.int .i64 v)) (lcRet [] [] 0)
 | _,_,_ => none
noncomputable def specs_ref10_Truth : List (FuncId × Bool × Spec) := (8,false,ref10_Truth.spec) :: specs_check_Truth
noncomputable def cx_plain_files : Cx U0 (Rr U0) := cxOf specs_ref10_Truth
noncomputable def plain_files.specR (k : Nat) : Spec := fun args st K => match args,st.box,st.nt with
 | [.sl (.user 1) l .no,.int .i64 d,.ptr 0 0],[[.int .i64 u]],0 => (filesW k l d u).bind fun v => K (.ret (.bool v.1)) (lcRet [[.int .i64 (v.2)]] [] 0)
 | _,_,_ => none
noncomputable def plain_files.rec (k : Nat) := recL [(13,plain_files.specR k)]
noncomputable def plain_files.spec : Spec := fun args st K => match args,st.box,st.nt with
 | [.sl (.user 1) l .no,.int .i64 d,.ptr 0 0],[[.int .i64 u]],0 => (filesW 42 l d u).bind fun v => K (.ret (.bool v.1)) (lcRet [[.int .i64 (v.2)]] [] 0)
 | _,_,_ => none
noncomputable def specs_plain_files : List (FuncId × Bool × Spec) := (13,false,plain_files.spec) :: specs_ref10_Truth
noncomputable def cx_plain_Files : Cx U0 (Rr U0) := cxOf specs_plain_files
noncomputable def plain_Files.spec : Spec := fun args st K => match args,st.box,st.nt with
 | [.sl (.user 1) l .no],[],0 => ((filesW 42 l 0 120).bind fun v => some v.1).bind fun v => K (.ret (.bool v)) (lcRet [] [] 0)
 | _,_,_ => none
noncomputable def specs_plain_Files : List (FuncId × Bool × Spec) := (5,false,plain_Files.spec) :: specs_plain_files
noncomputable def law10_awake.spec : Spec := fun args st K => match args,st.box,st.nt with
 | [],[],0 => (some true).bind fun v => K (.ret (.bool v)) (lcRet [] [] 0)
 | _,_,_ => none
noncomputable def specs_law10_awake : List (FuncId × Bool × Spec) := (6,false,law10_awake.spec) :: specs_plain_Files
noncomputable def cx_law_Truths : Cx U0 (Rr U0) := cxOf specs_law10_awake
noncomputable def law_Truths.spec : Spec := fun args st K => match args,st.box,st.nt with
 | [.str s,.sl (.user 1) f .no,.sl .str i .no],[],0 => (truthsW s f i).bind fun v => K (.ret (.bool v)) (lcRet [] [] 0)
 | _,_,_ => none
noncomputable def specs_law_Truths : List (FuncId × Bool × Spec) := (3,false,law_Truths.spec) :: specs_law10_awake
end Go.Proofs.YtbcpnpbkbndkjaaGreatDoor.Ev
end
