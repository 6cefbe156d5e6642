/- Several texts in one, in their order. -/
import Derived.Test.YtifgpigicgaadaaGreatDoorBLexerBack2
import Derived.Test.YtifgpigicgaadaaGreatDoorBLexerBack4
import Derived.Test.YtifgpigicgaadaaGreatDoorBLexerBack5
import Derived.Test.YtifgpigicgaadaaGreatDoorBLexerBack6
import Derived.Test.YtifgpigicgaadaaGreatDoorBLexerBack7
import Derived.Test.YtifgpigicgaadaaGreatDoorBLexerBack8
import Derived.Shelf.Strings.OnBuilder
import Derived.Test.YtifgpigicgaadaaGreatDoorProg
section
namespace Go.Proofs.YtifgpigicgaadaaGreatDoor.Q
open Go.RowKit Go.Proofs.YtifgpigicgaadaaGreatDoorH Go.Proofs.YtifgpigicgaadaaGreatDoorW.PrintWords Go.Proofs.YtifgpigicgaadaaGreatDoorW.PrintLast Go.Proofs.YtifgpigicgaadaaGreatDoorW.PrintMore
attribute [local go_sem] max2_int min2_int max_two min_two max_three min_three max_four min_four
set_option linter.unusedVariables false
set_option linter.unusedSimpArgs false
section
attribute [local go_sem high] eqA43
/-! ### dossierref08_Same: function 25 -/
def dossierref08_Same.l0 : Nat → List (S43) → List (S43) → Int → Int → Option (Bool)
 | 0,_,_,_,_ => none
 | k + 1,x0,x1,x12,x13 => if x13 < x12 then (if 0 ≤ x13 then (if x13 < (x0.length : Int) then (if x13 < (x1.length : Int) then (if (!(((rd_T43 x0 x13).f0) == ((rd_T43 x1 x13).f0)) || (!((((rd_T43 x0 x13).f1).toList) == (((rd_T43 x1 x13).f1).toList)) || (!(((rd_T43 x0 x13).f2) == ((rd_T43 x1 x13).f2))))) = true then (some false) else (dossierref08_Same.l0 k x0 x1 x12 (wrap64 (x13 + 1)))) else (none)) else (none)) else (none)) else (some true)
def dossierref08_Same.f (k : Nat) (l0 : List (S43)) (l1 : List (S43)) : Option (Bool) := if (l0.length : Int) = (l1.length : Int) then (dossierref08_Same.l0 k l0 l1 (l0.length : Int) 0) else (some false)
set_option maxHeartbeats 8000000 in
set_option maxRecDepth 100000 in
theorem dossierref08_Same.calls (k : Nat) (A0 : Option Addr) (c0 : Nat) (l0 : List (S43)) (A1 : Option Addr) (c1 : Nat) (l1 : List (S43)) (r : Bool) (w : World) (hr0 : Kd.C k43 w A0 l0.length l0) (hc0 : l0.length ≤ c0) (hr1 : Kd.C k43 w A1 l1.length l1) (hc1 : l1.length ≤ c1) (h : dossierref08_Same.f k l0 l1 = some r) :
 Calls Tryz.prog 25 #[.slice A0 l0.length c0,.slice A1 l1.length c1] w fun e w' => e = .returned (.bool r) ∧ Drawn0 w w' := by
 have hu43 := Tryz.underlying43
 have HR0 := Aside0.mk hr0
 have HC0 := Aside0.mk hc0
 clear hr0 hc0
 have HR1 := Aside0.mk hr1
 have HC1 := Aside0.mk hc1
 clear hr1 hc1
 have H : (if (l0.length : Int) = (l1.length : Int) then (dossierref08_Same.l0 k l0 l1 (l0.length : Int) 0) else (some false)) = some r := h
 clear h
 by_cases c3 : (l0.length : Int) = (l1.length : Int)
 · rw [if_pos c3] at H
   have c3b0 : ((l0.length : Int) == (l1.length : Int)) = true := beq_iff_eq.mpr c3
   have c3b1 : ((l0.length : Int) != (l1.length : Int)) = false := bne_eq_false_iff_eq.mpr c3
   have c3b2 : (l0.length == l1.length) = true := by first | simpa using c3 | (simp at c3 ⊢; omega)
   clear c3
   have H' := Aside0.mk H
   clear H
   go_enter Tryz.func25,Tryz.ntmps25
   go_wp2
   repeat (go_quiet (fail); try go_wp2)
   go_loopg [13] k (fun kq v13 w' => ∃ (x13_1 : Int),v13 = .int .i64 x13_1 ∧ Aside0 (dossierref08_Same.l0 kq l0 l1 (l0.length : Int) x13_1 = some r) ∧ Aside0 (kq ≤ k) ∧ Drawn0 w w')
   case atStart => exact ⟨(0),(by first | rfl | (simp; done) | (simp [*]; done)),H',⟨Nat.le_refl _⟩,by repeat (first | exact Drawn0.refl _ | apply Drawn0.step)⟩
   case round =>
    clear H'
    try clear c1
    try clear c2
    try clear p2
    try clear c3
    try clear c3b0
    try clear c3b1
    try clear c3b2
    obtain ⟨x13_1,rfl,HA,HK1,⟨m1,rfl⟩⟩ := hrel
    cases gk with
    | zero => exact absurd HA.out (by simp [dossierref08_Same.l0])
    | succ k1 =>
     have H := HA.out
     clear HA
     simp only [dossierref08_Same.l0] at H
     by_cases c4 : x13_1 < (l0.length : Int)
     · rw [if_pos c4] at H
       have c4b0 : decide (x13_1 < (l0.length : Int)) = true := decide_eq_true c4
       clear c4
       by_cases c5 : 0 ≤ x13_1
       · rw [if_pos c5] at H
         have c5b0 : decide (0 ≤ x13_1) = true := decide_eq_true c5
         clear c5
         by_cases c6 : x13_1 < (l0.length : Int)
         · rw [if_pos c6] at H
           have c6b0 : decide (x13_1 < (l0.length : Int)) = true := decide_eq_true c6
           clear c6
           by_cases c7 : x13_1 < (l1.length : Int)
           · rw [if_pos c7] at H
             have c7b0 : decide (x13_1 < (l1.length : Int)) = true := decide_eq_true c7
             clear c7
             by_cases c8 : (!(((rd_T43 l0 x13_1).f0) == ((rd_T43 l1 x13_1).f0)) || (!((((rd_T43 l0 x13_1).f1).toList) == (((rd_T43 l1 x13_1).f1).toList)) || (!(((rd_T43 l0 x13_1).f2) == ((rd_T43 l1 x13_1).f2))))) = true
             · rw [if_pos c8] at H
               have c8b0 : (!(((rd_T43 l0 x13_1).f0) == ((rd_T43 l1 x13_1).f0)) || (!((((rd_T43 l0 x13_1).f1).toList) == (((rd_T43 l1 x13_1).f1).toList)) || (!(((rd_T43 l0 x13_1).f2) == ((rd_T43 l1 x13_1).f2))))) = true := c8
               clear c8
               obtain rfl := Option.some.inj H
               have p461 : 0 ≤ (x13_1 : Int) := of_decide_eq_true (by first | (with_reducible assumption) | assumption)
               have q461 : x13_1 < (l0.length : Int) := of_decide_eq_true (by first | (with_reducible assumption) | assumption)
               obtain ⟨ad461,e461,hx461_0,hx461_1,hx461_2⟩ := at_T43 HR0.out x13_1 p461 q461
               cases e461
               replace p461 := eq_true p461
               replace q461 := eq_true q461
               have p462 : 0 ≤ (x13_1 : Int) := of_decide_eq_true (by first | (with_reducible assumption) | assumption)
               have q462 : x13_1 < (l1.length : Int) := of_decide_eq_true (by first | (with_reducible assumption) | assumption)
               obtain ⟨ad462,e462,hx462_0,hx462_1,hx462_2⟩ := at_T43 HR1.out x13_1 p462 q462
               cases e462
               replace p462 := eq_true p462
               replace q462 := eq_true q462
               go_wp2
               repeat (go_quiet (fail); try go_wp2)
               go_ret
               exact ⟨by first | rfl | (simp; done) | (simp [*]; done),by repeat (first | exact Drawn0.refl _ | apply Drawn0.step)⟩
             · rw [if_neg c8] at H
               have c8b0 : (!(((rd_T43 l0 x13_1).f0) == ((rd_T43 l1 x13_1).f0)) || (!((((rd_T43 l0 x13_1).f1).toList) == (((rd_T43 l1 x13_1).f1).toList)) || (!(((rd_T43 l0 x13_1).f2) == ((rd_T43 l1 x13_1).f2))))) = false := by simpa using c8
               clear c8
               have H' := Aside0.mk H
               clear H
               have p461 : 0 ≤ (x13_1 : Int) := of_decide_eq_true (by first | (with_reducible assumption) | assumption)
               have q461 : x13_1 < (l0.length : Int) := of_decide_eq_true (by first | (with_reducible assumption) | assumption)
               obtain ⟨ad461,e461,hx461_0,hx461_1,hx461_2⟩ := at_T43 HR0.out x13_1 p461 q461
               cases e461
               replace p461 := eq_true p461
               replace q461 := eq_true q461
               have p462 : 0 ≤ (x13_1 : Int) := of_decide_eq_true (by first | (with_reducible assumption) | assumption)
               have q462 : x13_1 < (l1.length : Int) := of_decide_eq_true (by first | (with_reducible assumption) | assumption)
               obtain ⟨ad462,e462,hx462_0,hx462_1,hx462_2⟩ := at_T43 HR1.out x13_1 p462 q462
               cases e462
               replace p462 := eq_true p462
               replace q462 := eq_true q462
               go_wp2
               repeat (go_quiet (fail); try go_wp2)
               go_roundg k1
               case measure => have := HK1.out; omega
               case rel => exact ⟨(wrap64 (x13_1 + 1)),(by first | rfl | (simp; done) | (simp [*]; done)),H',⟨by have := HK1.out; omega⟩,by repeat (first | exact Drawn0.refl _ | apply Drawn0.step)⟩
           · rw [if_neg c7] at H
             exact absurd H (by simp)
         · rw [if_neg c6] at H
           exact absurd H (by simp)
       · rw [if_neg c5] at H
         exact absurd H (by simp)
     · rw [if_neg c4] at H
       have c4b0 : decide (x13_1 < (l0.length : Int)) = false := decide_eq_false c4
       clear c4
       obtain rfl := Option.some.inj H
       go_wp2
       repeat (go_quiet (fail); try go_wp2)
       go_ret
       exact ⟨by first | rfl | (simp; done) | (simp [*]; done),by repeat (first | exact Drawn0.refl _ | apply Drawn0.step)⟩
 · rw [if_neg c3] at H
   have c3b0 : ((l0.length : Int) == (l1.length : Int)) = false := beq_eq_false_iff_ne.mpr c3
   have c3b1 : ((l0.length : Int) != (l1.length : Int)) = true := bne_iff_ne.mpr c3
   have c3b2 : (l0.length == l1.length) = false := by first | simpa using c3 | (simp at c3 ⊢; omega)
   obtain rfl := Option.some.inj H
   go_enter Tryz.func25,Tryz.ntmps25
   go_wp2
   repeat (go_quiet (fail); try go_wp2)
   go_ret
   exact ⟨by first | rfl | (simp; done) | (simp [*]; done),by repeat (first | exact Drawn0.refl _ | apply Drawn0.step)⟩
end
end Go.Proofs.YtifgpigicgaadaaGreatDoor.Q
end
section
/- The words of a text: what the program and the reference read. -/
set_option linter.unusedSimpArgs false
set_option linter.unusedVariables false
namespace Go.Proofs.YtifgpigicgaadaaGreatDoor.Words
open Go.RowKit Go.Proofs.YtifgpigicgaadaaGreatDoor.Q Go.Proofs.YtifgpigicgaadaaGreatDoorW.PrintWords Go.Proofs.YtifgpigicgaadaaGreatDoorW.PrintLast Go.Proofs.YtifgpigicgaadaaGreatDoorH Go.Proofs.YtifgpigicgaadaaGreatDoor.Chars Go.Proofs.YtifgpigicgaadaaGreatDoor.Values Go.Proofs.YtifgpigicgaadaaGreatDoor.Bytes Go.Proofs.YtifgpigicgaadaaGreatDoor.Num Go.Proofs.YtifgpigicgaadaaGreatDoor.Lex Go.Proofs.YtifgpigicgaadaaGreatDoor.Quoted

/-! ## Signs -/
def TWO : List (List Int) := [[60, 61], [62, 61], [33, 61]]
def ONE : List Int := [40, 41, 46, 44, 43, 45, 42, 47, 37, 60, 62, 61]
def signV (l : List Int) : Nat := if TWO.contains (l.take 2) = true then 2 else if ONE.contains (l.getD 0 0) = true then 1 else 0
theorem ext0 (s : ByteArray) (n : Nat) : bytesOf (s.extract 0 n) = (bytesOf s).take n := by rw [b_extract, List.drop_zero, Nat.sub_zero]
theorem ext00 (s : ByteArray) : s.extract 0 0 = ⟨#[]⟩ := by apply b_inj; rw [ext0]; rfl
theorem ext_take (s : ByteArray) (n : Nat) : s.extract 0 n = strOfNums ((bytesOf s).take n) := by
  apply b_inj; rw [ext0, b_str ((bytes_of s).take n)]
theorem one_iff (a : Int) : ONE.contains a = true ↔ a = 40 ∨ a = 41 ∨ a = 46 ∨ a = 44 ∨ a = 43 ∨ a = 45 ∨ a = 42 ∨ a = 47 ∨ a = 37 ∨ a = 60 ∨ a = 62 ∨ a = 61 := by simp [ONE]
theorem sign_one (k : Nat) (s : ByteArray) (a : Int) (t : List Int) (h : bytesOf s = a :: t) : lexer_sign.l0 (k + 2) s 1 = some (s.extract 0 (if ONE.contains a = true then 1 else 0)) := by
  have hb : bytesOf (s.extract 0 (1 : Int).toNat) = [a] := by rw [ext0, h]; rfl
  have hz : s.size = t.length + 1 := by rw [b_size, h]; rfl
  have e0 : lexer_sign.l0 (k + 1) s (wrap64 (1 - 1)) = some ⟨#[]⟩ := by
    rw [show wrap64 (1 - 1) = 0 from by unfold wrap64; omega, lexer_sign.l0, if_neg (by omega)]
  rw [show k + 2 = (k + 1) + 1 from rfl, lexer_sign.l0, if_pos (by omega), if_pos (by omega), if_pos (by omega), e0]
  simp only [toList_iff, hb, List.map_cons, List.map_nil]
  simp only [List.cons.injEq, and_true, and_false, if_false, reduceCtorEq]
  by_cases hc : ONE.contains a = true
  · rcases (one_iff a).1 hc with rfl | rfl | rfl | rfl | rfl | rfl | rfl | rfl | rfl | rfl | rfl | rfl <;> rfl
  · have n : ∀ x : Int, ONE.contains x = true → ¬ a = x := fun x hx he => hc (by rw [he]; exact hx)
    rw [if_neg hc, ext00]
    exact (if_neg (n 40 rfl)).trans <| (if_neg (n 41 rfl)).trans <| (if_neg (n 46 rfl)).trans <| (if_neg (n 44 rfl)).trans <| (if_neg (n 43 rfl)).trans <| (if_neg (n 45 rfl)).trans <| (if_neg (n 42 rfl)).trans <| (if_neg (n 47 rfl)).trans <| (if_neg (n 37 rfl)).trans <| (if_neg (n 60 rfl)).trans <| (if_neg (n 62 rfl)).trans <| (if_neg (n 61 rfl))
theorem signV_one (a : Int) : signV [a] = if ONE.contains a = true then 1 else 0 := by
  unfold signV
  have : ¬ TWO.contains ([a].take 2) = true := by simp [TWO]
  rw [if_neg this]; rfl
theorem sign_spec (k : Nat) (s : ByteArray) (h : bytesOf s ≠ []) : lexer_sign.f (k + 3) s = some (s.extract 0 (signV (bytesOf s))) := by
  match hl : bytesOf s, h with
  | [a], _ =>
    have hz : s.size = 1 := by rw [b_size, hl]; rfl
    unfold lexer_sign.f
    rw [hz, show mn 2 ((1 : Nat) : Int) = 1 from rfl, show k + 3 = (k + 1) + 2 from rfl, sign_one _ s a [] hl, signV_one]
  | a :: b :: t, _ =>
    have hz : s.size = t.length + 2 := by rw [b_size, hl]; rfl
    have hm : mn 2 (s.size : Int) = 2 := by unfold mn; split <;> omega
    unfold lexer_sign.f
    have hb : bytesOf (s.extract 0 (2 : Int).toNat) = [a, b] := by rw [ext0, hl]; rfl
    rw [hm, show k + 3 = (k + 2) + 1 from rfl, lexer_sign.l0, if_pos (by omega), if_pos (by omega), if_pos (by omega)]
    simp only [toList_iff, hb, List.map_cons, List.map_nil]
    have e : wrap64 (2 - 1) = 1 := by unfold wrap64; omega
    rw [e, sign_one k s a (b :: t) hl]
    simp only [List.cons.injEq, and_true, and_false, if_false, reduceCtorEq]
    unfold signV
    simp only [List.take_succ_cons, List.take_zero, List.getD_cons_zero]
    by_cases h1 : TWO.contains [a, b] = true
    · rw [if_pos h1]
      have : (a = 60 ∧ b = 61) ∨ (a = 62 ∧ b = 61) ∨ (a = 33 ∧ b = 61) := by simpa [TWO] using h1
      rcases this with ⟨rfl, rfl⟩ | ⟨rfl, rfl⟩ | ⟨rfl, rfl⟩ <;> rfl
    · rw [if_neg h1]
      have : ¬ ((a = 60 ∧ b = 61) ∨ (a = 62 ∧ b = 61) ∨ (a = 33 ∧ b = 61)) := fun x => h1 (by simpa [TWO] using x)
      rw [if_neg (fun x => this (Or.inl (by simpa using x))), if_neg (fun x => this (Or.inr (Or.inl (by simpa using x)))), if_neg (fun x => this (Or.inr (Or.inr (by simpa using x))))]
theorem sign_at (s : ByteArray) (a : Int) (t : List Int) (h : bytesOf s = a :: t) (xs : List ByteArray) (hx : xs.length ≤ 1000) : ∀ d i k : Nat, i + d = xs.length →
    dossierref08_sign.l0 (k + d + 1) s xs (xs.length : Int) (i : Int) = some (if ((xs.drop i).map bytesOf).contains [a] = true then (4, s.extract 0 1, 0, 1, true) else (0, (⟨#[]⟩ : ByteArray), 0, 0, false)) := by
  have hz : s.size = t.length + 1 := by rw [b_size, h]; rfl
  have hb : bytesOf (s.extract 0 1) = [a] := by rw [ext0, h]; rfl
  intro d
  induction d with
  | zero =>
    intro i k hi
    rw [dossierref08_sign.l0, if_neg (by omega), List.drop_of_length_le (by omega)]; rfl
  | succ d ih =>
    intro i k hi
    have e2 : wrap64 ((i : Int) + 1) = ((i + 1 : Nat) : Int) := by rw [w64' _ (by omega) (by omega)]; omega
    have hlt : i < xs.length := by omega
    have hr : rdOf ByteArray.empty xs (i : Int) = xs[i] := by
      unfold rdOf; rw [Int.toNat_natCast, List.getD_eq_getElem?_getD, List.getElem?_eq_getElem hlt]; rfl
    rw [show k + (d + 1) + 1 = (k + d + 1) + 1 from by omega, dossierref08_sign.l0, if_pos (by omega), if_pos (by omega), if_pos (by omega), if_pos (by omega), if_pos (by omega), hr, e2, ih (i + 1) k (by omega), List.drop_eq_getElem_cons hlt, List.map_cons, List.contains_cons]
    by_cases hc : (s.extract 0 1).toList = xs[i].toList
    · have hc' := (toList_iff2 _ _).1 hc
      have hs : xs[i] = s.extract 0 1 := b_inj hc'.symm
      rw [if_pos hc, if_pos (by rw [← hc', hb]; simp), hs]
    · have hc' : ¬ [a] = bytesOf xs[i] := fun x => hc ((toList_iff2 _ _).2 (by rw [hb]; exact x))
      rw [if_neg hc]
      have : ([a] == bytesOf xs[i]) = false := by simpa using hc'
      rw [this, Bool.false_or]
theorem ref_sign_spec (k : Nat) (s : ByteArray) (h : bytesOf s ≠ []) : dossierref08_sign.f (k + 20) s = some (if signV (bytesOf s) = 0 then (0, (⟨#[]⟩ : ByteArray), 0, 0, false) else (4, s.extract 0 (signV (bytesOf s)), 0, (signV (bytesOf s) : Int), true)) := by
  have one : ∀ (a : Int) (t : List Int), bytesOf s = a :: t → dossierref08_sign.j0 (k + 20) s false = some (if ONE.contains a = true then (4, s.extract 0 1, 0, 1, true) else (0, (⟨#[]⟩ : ByteArray), 0, 0, false)) := by
    intro a t ht
    rw [show k + 20 = (k + 19) + 1 from rfl, dossierref08_sign.j0, if_neg (by decide), Option.bind_some]
    have := sign_at s a t ht [(⟨#[40]⟩ : ByteArray), (⟨#[41]⟩ : ByteArray), (⟨#[46]⟩ : ByteArray), (⟨#[44]⟩ : ByteArray), (⟨#[43]⟩ : ByteArray), (⟨#[45]⟩ : ByteArray), (⟨#[42]⟩ : ByteArray), (⟨#[47]⟩ : ByteArray), (⟨#[37]⟩ : ByteArray), (⟨#[60]⟩ : ByteArray), (⟨#[62]⟩ : ByteArray), (⟨#[61]⟩ : ByteArray)] (by decide) 12 0 (k + 6) rfl
    rw [show k + 6 + 12 + 1 = k + 19 from rfl] at this
    refine this.trans ?_
    have e : ((([(⟨#[40]⟩ : ByteArray), (⟨#[41]⟩ : ByteArray), (⟨#[46]⟩ : ByteArray), (⟨#[44]⟩ : ByteArray), (⟨#[43]⟩ : ByteArray), (⟨#[45]⟩ : ByteArray), (⟨#[42]⟩ : ByteArray), (⟨#[47]⟩ : ByteArray), (⟨#[37]⟩ : ByteArray), (⟨#[60]⟩ : ByteArray), (⟨#[62]⟩ : ByteArray), (⟨#[61]⟩ : ByteArray)] : List ByteArray).drop 0).map bytesOf) = ONE.map fun x => [x] := rfl
    rw [e]
    have e2 : (ONE.map fun x => [x]).contains [a] = ONE.contains a := by
      rw [Bool.eq_iff_iff, List.contains_iff_mem, List.contains_iff_mem, List.mem_map]
      constructor
      · rintro ⟨x, hx, he⟩
        cases he; exact hx
      · intro hx; exact ⟨a, hx, rfl⟩
    rw [e2]
  have two : dossierref08_sign.j0 (k + 20) s true = if 2 ≤ (s.size : Int) then some (4, s.extract 0 2, 0, 2, true) else none := by
    rw [show k + 20 = (k + 19) + 1 from rfl, dossierref08_sign.j0, if_pos rfl, if_pos (by decide)]
  match hl : bytesOf s, h with
  | [a], _ =>
    have hz : s.size = 1 := by rw [b_size, hl]; rfl
    unfold dossierref08_sign.f
    rw [if_neg (by omega), one a [] hl]
    rw [signV_one]
    by_cases h1 : ONE.contains a = true
    · rw [if_pos h1, if_pos h1]; rfl
    · rw [if_neg h1, if_neg h1]; rfl
  | a :: b :: t, _ =>
    have hz : s.size = t.length + 2 := by rw [b_size, hl]; rfl
    have hb : bytesOf (s.extract 0 2) = [a, b] := by rw [ext0, hl]; rfl
    unfold dossierref08_sign.f
    have two := two.trans (if_pos (by omega))
    rw [if_pos (by omega), if_pos (by omega), if_pos (by omega), two]
    have hbe : ((s.extract 0 2).toList == ([33, 61] : List UInt8)) = decide (a = 33 ∧ b = 61) := by
      rw [Bool.eq_iff_iff, beq_iff_eq, toList_iff, hb]; simp
    rw [hbe]
    simp only [toList_iff, hb, List.map_cons, List.map_nil, List.cons.injEq, and_true]
    unfold signV
    simp only [List.take_succ_cons, List.take_zero, List.getD_cons_zero]
    by_cases h1 : TWO.contains [a, b] = true
    · simp only [if_pos h1]
      have : (a = 60 ∧ b = 61) ∨ (a = 62 ∧ b = 61) ∨ (a = 33 ∧ b = 61) := by simpa [TWO] using h1
      rcases this with ⟨rfl, rfl⟩ | ⟨rfl, rfl⟩ | ⟨rfl, rfl⟩
      · rfl
      · rfl
      · rw [if_neg (by decide), if_neg (by decide), show decide ((33 : Int) = 33 ∧ (61 : Int) = 61) = true from rfl, two]; rfl
    · simp only [if_neg h1]
      have : ¬ ((a = 60 ∧ b = 61) ∨ (a = 62 ∧ b = 61) ∨ (a = 33 ∧ b = 61)) := fun x => h1 (by simpa [TWO] using x)
      rw [if_neg (fun x => this (Or.inl (by simpa using x))), if_neg (fun x => this (Or.inr (Or.inl (by simpa using x)))), show decide (a = 33 ∧ b = 61) = false from by simpa using fun x y => this (Or.inr (Or.inr ⟨x, y⟩)), one a (b :: t) hl]
      by_cases h2 : ONE.contains a = true
      · rw [if_pos h2, if_pos h2]; rfl
      · rw [if_neg h2, if_neg h2]; rfl

/-! ## A word -/
def nameP (x : Int) : Bool := letterV x || digitV x
theorem take_while (p : Int → Bool) : ∀ l : List Int, l.take (l.takeWhile p).length = l.takeWhile p
  | [] => rfl
  | x :: t => by
    by_cases h : p x = true
    · rw [List.takeWhile_cons_of_pos h, List.length_cons, List.take_succ_cons, take_while p t]
    · rw [List.takeWhile_cons_of_neg h]; rfl
theorem while_len (p : Int → Bool) (l : List Int) : (l.takeWhile p).length ≤ l.length := by
  have := congrArg List.length (take_while p l)
  rw [List.length_take] at this; omega
theorem ext_while (s : ByteArray) (p : Int → Bool) : s.extract 0 ((bytesOf s).takeWhile p).length = strOfNums ((bytesOf s).takeWhile p) := by
  rw [ext_take, take_while]
theorem while_digits (l : List Int) : Digits (l.takeWhile digitV) := by
  induction l with
  | nil => intro x hx; exact absurd hx (by simp)
  | cons a t ih =>
    intro x hx
    rw [List.takeWhile_cons] at hx
    split at hx
    · rename_i ha
      rcases List.mem_cons.1 hx with rfl | hx
      · unfold digitV at ha; simp at ha; exact ha
      · exact ih x hx
    · exact absurd hx (by simp)
open Classical in
noncomputable def textV (r : Option (List Int × Nat)) : Option (S43 × Nat) :=
  match r with
  | none => none
  | some r => if 256 < r.1.length ∨ ¬ Lex.Good r.1 then none else some (⟨3, strOfNums r.1, 0⟩, r.2 + 1)
/-- The word that bytes begin with. -/
noncomputable def wordV (l : List Int) : Option (S43 × Nat) :=
  if letterV (l.getD 0 0) = true then some (⟨1, strOfNums (l.takeWhile nameP), 0⟩, (l.takeWhile nameP).length)
  else if digitV (l.getD 0 0) = true then (if (numV (l.takeWhile digitV)).2 = 0 then some (⟨2, ⟨#[]⟩, (numV (l.takeWhile digitV)).1⟩, (l.takeWhile digitV).length) else none)
  else if l.getD 0 0 = 34 then textV (scan (l.drop 1))
  else if signV l = 0 then none else some (⟨4, strOfNums (l.take (signV l)), 0⟩, signV l)
theorem signV_le (l : List Int) (h : l ≠ []) : signV l ≤ l.length := by
  unfold signV
  split
  · rename_i h2
    match l, h with
    | [a], _ => simp [TWO] at h2
    | a :: b :: t, _ => simp
  · have : 0 < l.length := List.length_pos_iff.2 h
    split <;> omega
theorem wordV_len (l : List Int) (hl : Bytes l) (h : l ≠ []) (w : S43) (n : Nat) (hw : wordV l = some (w, n)) : 1 ≤ n ∧ n ≤ l.length := by
  obtain ⟨a, t, rfl⟩ : ∃ a t, l = a :: t := List.exists_cons_of_ne_nil h
  unfold wordV at hw
  rw [List.getD_cons_zero] at hw
  by_cases h1 : letterV a = true
  · rw [if_pos h1] at hw
    have hp : nameP a = true := by unfold nameP; rw [h1]; rfl
    have := while_len nameP (a :: t)
    cases hw
    rw [List.takeWhile_cons_of_pos hp] at this ⊢
    simp at this ⊢
    omega
  · rw [if_neg h1] at hw
    by_cases h2 : digitV a = true
    · rw [if_pos h2] at hw
      split at hw
      · have := while_len digitV (a :: t)
        cases hw
        rw [List.takeWhile_cons_of_pos h2] at this ⊢
        simp at this ⊢
        omega
      · cases hw
    · rw [if_neg h2] at hw
      by_cases h3 : a = 34
      · rw [if_pos h3, List.drop_succ_cons, List.drop_zero] at hw
        cases hs : scan t with
        | none => rw [hs] at hw; cases hw
        | some r =>
          obtain ⟨o, m⟩ := r
          have := scan_bytes _ t rfl (fun x hx => hl x (by simp [hx])) o m hs
          rw [hs] at hw
          unfold textV at hw
          simp only at hw
          split at hw
          · cases hw
          · cases hw
            simp; omega
      · rw [if_neg h3] at hw
        have := signV_le (a :: t) h
        split at hw
        · cases hw
        · cases hw; omega
def Says (v : Option (S43 × Nat)) (r : Int × ByteArray × Int × Int) : Prop :=
  (∀ w n, v = some (w, n) → r = (w.f0, w.f1, w.f2, (n : Int))) ∧ (v = none → r.2.2.2 = 0)
def Tells (v : Option (S43 × Nat)) (r : Int × ByteArray × Int × Int × Bool) : Prop :=
  (∀ w n, v = some (w, n) → r = (w.f0, w.f1, w.f2, (n : Int), true)) ∧ (v = none → r.2.2.2.2 = false)
theorem word_spec (s : ByteArray) (a : Int) (t : List Int) (h : bytesOf s = a :: t) (hs : (bytesOf s).length ≤ 1000) (k : Nat) (hk : 3000 ≤ k) : ∃ r, lexer_word.f k s = some r ∧ Says (wordV (bytesOf s)) r := by
  have hz : s.size = t.length + 1 := by rw [b_size, h]; rfl
  have hb : bt s 0 = a := by rw [bt_get, h]; rfl
  have ha : 0 ≤ a ∧ a < 256 := bytes_of s a (by rw [h]; simp)
  have hS := sets_at a ha
  have g0 : (bytesOf s).getD 0 0 = a := by rw [h]; rfl
  unfold LET DIG at hS
  unfold lexer_word.f wordV
  rw [if_pos (by omega), hb, g0, hS.1, Option.bind_some]
  by_cases h1 : letterV a = true
  · rw [if_pos h1, if_pos h1]
    have hr := run_spec s LETDIG nameP (fun x hx => (sets_at x hx).2.1) (by omega) k (by omega)
    unfold LETDIG at hr
    rw [hr, Option.bind_some, ext_while]
    refine ⟨_, rfl, fun w n hw => ?_, fun hw => (by cases hw)⟩
    cases hw
    rw [str_size]
  · rw [if_neg h1, if_neg h1, hS.2.2.1, Option.bind_some]
    by_cases h2 : digitV a = true
    · rw [if_pos h2, if_pos h2]
      have hr := run_spec s DIG digitV (fun x hx => (sets_at x hx).2.2.1) (by omega) k (by omega)
      unfold DIG at hr
      have hd := while_digits (bytesOf s)
      have hn0 : (bytesOf s).takeWhile digitV ≠ [] := by rw [h, List.takeWhile_cons_of_pos h2]; simp
      have hle := while_len digitV (bytesOf s)
      have hbs : bytesOf (strOfNums ((bytesOf s).takeWhile digitV)) = (bytesOf s).takeWhile digitV := b_str (by rw [← take_while]; exact (bytes_of s).take _)
      have hN := number_spec (strOfNums ((bytesOf s).takeWhile digitV)) (by rw [hbs]; exact hd) (by rw [hbs]; exact hn0) (by rw [hbs]; omega) k (by rw [hbs]; omega)
      rw [hbs] at hN
      rw [hr, Option.bind_some, ext_while, hN, Option.bind_some]
      by_cases h3 : (numV ((bytesOf s).takeWhile digitV)).2 = 0
      · rw [if_pos h3, if_pos h3]
        refine ⟨_, rfl, fun w n hw => ?_, fun hw => (by cases hw)⟩
        cases hw
        rw [str_size]
      · rw [if_neg h3, if_neg h3]
        exact ⟨_, rfl, fun w n hw => (by cases hw), fun _ => rfl⟩
    · rw [if_neg h2, if_neg h2]
      by_cases h3 : a = 34
      · rw [if_pos h3, if_pos h3]
        have hq := quoted_at s hs ((bytesOf s).length - 1) 1 (k - ((bytesOf s).length - 1) - 400) [] (by rw [h]; simp; omega) (fun x hx => absurd hx (by simp)) (by simp)
        rw [show k - ((bytesOf s).length - 1) - 400 + ((bytesOf s).length - 1) + 400 = k from by omega] at hq
        unfold lexer_quoted.f
        rw [show ((1 : Nat) : Int) = 1 from rfl] at hq
        rw [hq, Option.bind_some]
        cases hsc : scan ((bytesOf s).drop 1) with
        | none => exact ⟨_, rfl, fun w n hw => (by cases hw), fun _ => rfl⟩
        | some r =>
          obtain ⟨o, m⟩ := r
          unfold textV quoP quoE
          simp only [List.nil_append]
          by_cases h4 : 256 < o.length ∨ ¬ Lex.Good o
          · rw [if_pos h4, if_pos h4]
            exact ⟨_, rfl, fun w n hw => (by cases hw), fun _ => rfl⟩
          · rw [if_neg h4, if_neg h4]
            refine ⟨_, rfl, fun w n hw => ?_, fun hw => (by cases hw)⟩
            cases hw
            simp only [Nat.add_comm]
      · rw [if_neg h3, if_neg h3]
        have hg := sign_spec (k - 3) s (by rw [h]; simp)
        rw [show k - 3 + 3 = k from by omega] at hg
        rw [hg, Option.bind_some]
        by_cases h4 : signV (bytesOf s) = 0
        · rw [if_pos h4, h4, ext00]
          exact ⟨_, rfl, fun w n hw => (by cases hw), fun _ => rfl⟩
        · rw [if_neg h4, ext_take]
          have hle := signV_le (bytesOf s) (by rw [h]; simp)
          refine ⟨_, rfl, fun w n hw => ?_, fun hw => (by cases hw)⟩
          cases hw
          rw [str_size, List.length_take, Nat.min_eq_left hle]
theorem ref_word_spec (s : ByteArray) (a : Int) (t : List Int) (h : bytesOf s = a :: t) (hs : (bytesOf s).length ≤ 1000) (k : Nat) (hk : 3000 ≤ k) : ∃ r, dossierref08_word.f k s = some r ∧ Tells (wordV (bytesOf s)) r := by
  have hz : s.size = t.length + 1 := by rw [b_size, h]; rfl
  have hb : bt s 0 = a := by rw [bt_get, h]; rfl
  have ha : 0 ≤ a ∧ a < 256 := bytes_of s a (by rw [h]; simp)
  have g0 : (bytesOf s).getD 0 0 = a := by rw [h]; rfl
  unfold dossierref08_word.f wordV
  rw [if_pos (by omega), hb, g0, digit_spec, Option.bind_some, letter_spec]
  by_cases h2 : digitV a = true
  · have h1 : ¬ letterV a = true := by
      intro x; unfold letterV at x; unfold digitV at h2; simp at x h2; omega
    rw [if_pos h2, if_neg h1, if_pos h2]
    have hd := while_digits (bytesOf s)
    have hn0 : (bytesOf s).takeWhile digitV ≠ [] := by rw [h, List.takeWhile_cons_of_pos h2]; simp
    have hle := while_len digitV (bytesOf s)
    have hbs : bytesOf (s.extract 0 ((bytesOf s).takeWhile digitV).length) = (bytesOf s).takeWhile digitV := by rw [ext0, take_while]
    have hI := integer_at s (by omega) 1100 (numV ((bytesOf s).takeWhile digitV)) ((bytesOf s).takeWhile digitV).length
      (fun k hk => by
        have := ref_number_spec (s.extract 0 ((bytesOf s).takeWhile digitV).length) (by rw [hbs]; exact hd) (by rw [hbs]; exact hn0) (by rw [hbs]; omega) k (by rw [hbs]; omega)
        rw [hbs] at this; exact this) (bytesOf s).length 0 (k - 1100 - (bytesOf s).length - 1) (by omega) (by rw [List.drop_zero]; omega)
    rw [show 1100 + (k - 1100 - (bytesOf s).length - 1) + (bytesOf s).length + 1 = k from by omega] at hI
    unfold dossierref08_integer.f
    rw [show ((0 : Nat) : Int) = 0 from rfl] at hI
    rw [hI, Option.bind_some]
    by_cases h3 : (numV ((bytesOf s).takeWhile digitV)).2 = 0
    · rw [if_pos h3]
      refine ⟨_, rfl, fun w n hw => ?_, fun hw => (by cases hw)⟩
      cases hw
      rw [h3]; rfl
    · rw [if_neg h3]
      refine ⟨_, rfl, fun w n hw => (by cases hw), fun _ => ?_⟩
      simpa using h3
  · rw [if_neg h2, if_neg h2]
    by_cases h3 : a = 34
    · have h1 : ¬ letterV a = true := by rw [h3]; decide
      rw [if_pos h3, if_neg h1, if_pos h3]
      obtain ⟨r, hr, ht⟩ := text_at s hs ((bytesOf s).length - 1) 1 (k - ((bytesOf s).length - 1) - 60) ⟨#[]⟩ (by rw [h]; simp; omega) (by decide)
      rw [show k - ((bytesOf s).length - 1) - 60 + ((bytesOf s).length - 1) + 60 = k from by omega] at hr
      unfold dossierref08_text.f
      rw [show ((1 : Nat) : Int) = 1 from rfl] at hr
      rw [hr, Option.bind_some]
      refine ⟨r, rfl, ?_⟩
      cases hsc : scan ((bytesOf s).drop 1) with
      | none => exact ⟨fun w n hw => (by cases hw), fun _ => ht.2 fun o n x => by rw [hsc] at x; cases x⟩
      | some q =>
        obtain ⟨o, m⟩ := q
        by_cases hg : Lex.Good o
        · have e := ht.1 o m hsc hg
          unfold textV
          simp only
          by_cases h4 : 256 < o.length
          · rw [if_pos (Or.inl h4)]
            refine ⟨fun w n hw => (by cases hw), fun _ => ?_⟩
            rw [e]
            simp
            omega
          · rw [if_neg (fun x => x.elim h4 (fun y => y hg))]
            refine ⟨fun w n hw => ?_, fun hw => (by cases hw)⟩
            cases hw
            rw [e, nil_append]
            have : decide ((((⟨#[]⟩ : ByteArray).size + o.length : Nat) : Int) ≤ 256) = true := by
              rw [decide_eq_true_eq]
              have : (⟨#[]⟩ : ByteArray).size = 0 := rfl
              omega
            rw [this, Nat.add_comm]
        · unfold textV
          simp only
          rw [if_pos (Or.inr hg)]
          exact ⟨fun w n hw => (by cases hw), fun _ => ht.2 fun o' n' x => by rw [hsc] at x; cases x; exact hg⟩
    · rw [if_neg h3, if_neg h3, Option.bind_some]
      by_cases h1 : letterV a = true
      · rw [if_pos h1, if_pos h1]
        have hn := name_at s (by omega) ((bytesOf s).length - 1) 1 (k - ((bytesOf s).length - 1) - 1) (by rw [h]; simp; omega)
        rw [show k - ((bytesOf s).length - 1) - 1 + ((bytesOf s).length - 1) + 1 = k from by omega, show ((1 : Nat) : Int) = 1 from rfl] at hn
        rw [hn]
        have hp : nameP a = true := by unfold nameP; rw [h1]; rfl
        have e : 1 + (((bytesOf s).drop 1).takeWhile fun x => letterV x || digitV x).length = ((bytesOf s).takeWhile nameP).length := by
          rw [h, List.takeWhile_cons_of_pos hp, List.length_cons, List.drop_succ_cons, List.drop_zero, Nat.add_comm]; rfl
        rw [e, ext_while]
        refine ⟨_, rfl, fun w n hw => ?_, fun hw => (by cases hw)⟩
        cases hw; rfl
      · rw [if_neg h1, if_neg h1]
        have hg := ref_sign_spec (k - 20) s (by rw [h]; simp)
        rw [show k - 20 + 20 = k from by omega] at hg
        rw [hg, Option.bind_some]
        by_cases h4 : signV (bytesOf s) = 0
        · rw [if_pos h4, if_pos h4]
          exact ⟨_, rfl, fun w n hw => (by cases hw), fun _ => rfl⟩
        · rw [if_neg h4, if_neg h4, ext_take]
          refine ⟨_, rfl, fun w n hw => ?_, fun hw => (by cases hw)⟩
          cases hw; rfl

/-! ## All words -/
def blankV (x : Int) : Bool := decide (x = 32) || decide (x = 9) || decide (x = 10) || decide (x = 13)
theorem space_spec (x : Int) : dossierref01_Space.f x = some (blankV x) := by
  unfold dossierref01_Space.f blankV
  repeat' split
  all_goals (congr 1; rw [Bool.eq_iff_iff]; simp; omega)
theorem trim_spec (s : ByteArray) : ∃ r, strings_TrimLeft.f s ⟨#[32, 9, 10, 13]⟩ = some r ∧ bytesOf r = (bytesOf s).dropWhile blankV := by
  unfold strings_TrimLeft.f
  rw [if_pos ⟨by decide, by decide⟩]
  refine ⟨_, rfl, ?_⟩
  unfold bytesOf
  simp only
  generalize s.data.toList = l
  unfold Lib.trimLeftS
  induction l with
  | nil => rfl
  | cons b t ih =>
    have hb : ([32, 9, 10, 13] : List UInt8).contains b = blankV (b.toNat : Int) := by
      unfold blankV
      rw [Bool.eq_iff_iff]
      simp [← UInt8.toNat_inj]
      omega
    have hb' : (⟨#[32, 9, 10, 13]⟩ : ByteArray).data.toList.contains b = blankV (b.toNat : Int) := hb
    rw [List.dropWhile_cons, List.map_cons, List.dropWhile_cons, hb']
    by_cases hc : blankV (b.toNat : Int) = true
    · rw [if_pos hc, if_pos hc]; exact ih
    · rw [if_neg hc, if_neg hc]; rfl
theorem words_at (s : ByteArray) (hs : (bytesOf s).length ≤ 400) (C : Nat) (hC : 3001 ≤ C) : ∀ (d i k1 k2 : Nat) (acc : List S43) (rest : ByteArray), i + d = (bytesOf s).length → acc.length ≤ i → bytesOf rest = ((bytesOf s).drop i).dropWhile blankV → d + C ≤ k1 → d + C ≤ k2 →
    ∃ r, lexer_Words.l0 k1 s acc rest = some r ∧ dossierref08_Words.l0 k2 s acc (i : Int) = some r ∧ r.1.length ≤ 401 := by
  intro d
  induction d using Nat.strongRecOn with
  | ind d ih =>
    intro i k1 k2 acc rest hi hacc hrest hk1 hk2
    have hss := b_size s
    by_cases hlt : i < (bytesOf s).length
    · obtain ⟨d', rfl⟩ : ∃ d', d = d' + 1 := ⟨d - 1, by omega⟩
      obtain ⟨m2, rfl⟩ : ∃ m, k2 = m + 1 := ⟨k2 - 1, by omega⟩
      have hbx := bytes_of s _ (List.getElem_mem hlt)
      have e2 : wrap64 ((i : Int) + 1) = ((i + 1 : Nat) : Int) := by rw [w64' _ (by omega) (by omega)]; omega
      have e3 : wrap64 ((bytesOf s)[i]) = (bytesOf s)[i] := by rw [w64' _ (by omega) (by omega)]
      rw [dossierref08_Words.l0, if_pos (by omega), if_pos (by omega), bt_at' hlt, e3, space_spec, Option.bind_some]
      by_cases hbl : blankV (bytesOf s)[i] = true
      · rw [if_pos hbl, e2]
        refine ih d' (by omega) (i + 1) k1 m2 acc rest (by omega) (by omega) ?_ (by omega) (by omega)
        rw [hrest, drop_cons hlt, List.dropWhile_cons, if_pos hbl]
      · have hrb : bytesOf rest = (bytesOf s).drop i := by rw [hrest, drop_cons hlt, List.dropWhile_cons, if_neg hbl]
        have hrs : rest = s.extract i s.size := by apply b_inj; rw [hrb, ext_all]
        have hrz : rest.size = (bytesOf s).length - i := by rw [b_size, hrb, List.length_drop]
        have hcons := hrb.trans (drop_cons hlt)
        rw [if_neg hbl, if_pos (by omega), Int.toNat_natCast, ← hrs]
        obtain ⟨m1, rfl⟩ : ∃ m, k1 = m + 1 := ⟨k1 - 1, by omega⟩
        obtain ⟨r1, hr1, hsay⟩ := word_spec rest _ _ hcons (by rw [hrb, List.length_drop]; omega) m1 (by omega)
        obtain ⟨r2, hr2, htell⟩ := ref_word_spec rest _ _ hcons (by rw [hrb, List.length_drop]; omega) m2 (by omega)
        rw [lexer_Words.l0, if_neg (by rw [toList_iff, hcons]; exact List.cons_ne_nil _ _), hr1, Option.bind_some, hr2, Option.bind_some]
        cases hw : wordV (bytesOf rest) with
        | none =>
          have q1 := hsay.2 hw
          have q2 := htell.2 hw
          rw [if_pos q1, if_neg (by rw [q2]; decide)]
          refine ⟨_, rfl, ?_, by simp⟩
          have : wrap64 ((s.size : Int) - (rest.size : Int)) = (i : Int) := by rw [w64' _ (by omega) (by omega)]; omega
          rw [this]
        | some v =>
          obtain ⟨w, n⟩ := v
          have q1 := hsay.1 w n hw
          have q2 := htell.1 w n hw
          have hn := wordV_len (bytesOf rest) (bytes_of rest) (by rw [hcons]; exact List.cons_ne_nil _ _) w n hw
          have hl := b_size rest
          subst q1 q2
          simp only
          rw [if_neg (by omega), if_pos (by omega), if_pos (by omega), if_pos (by omega), if_pos trivial, if_pos (by omega), Int.toNat_natCast]
          obtain ⟨r3, hr3, hb3⟩ := trim_spec (rest.extract n rest.size)
          have e4 : wrap64 ((i : Int) + (n : Int)) = ((i + n : Nat) : Int) := by rw [w64' _ (by omega) (by omega)]; omega
          rw [hr3, Option.bind_some, e4]
          have t1 : d' + 1 - n < d' + 1 := by omega
          have t2 : i + n + (d' + 1 - n) = (bytesOf s).length := by omega
          have t3 : (acc ++ [(⟨w.f0, w.f1, w.f2⟩ : S43)]).length ≤ i + n := by rw [List.length_append, List.length_singleton]; exact Nat.add_le_add hacc hn.1
          have t4 : d' + 1 - n + C ≤ m1 := by omega
          have t5 : d' + 1 - n + C ≤ m2 := by omega
          refine ih (d' + 1 - n) t1 (i + n) m1 m2 _ r3 t2 t3 ?_ t4 t5
          rw [hb3, ext_all, hrb, List.drop_drop]
    · have hd : (bytesOf s).drop i = [] := List.drop_of_length_le (by omega)
      rw [hd] at hrest
      obtain ⟨m1, rfl⟩ : ∃ m, k1 = m + 1 := ⟨k1 - 1, by omega⟩
      obtain ⟨m2, rfl⟩ : ∃ m, k2 = m + 1 := ⟨k2 - 1, by omega⟩
      rw [lexer_Words.l0, if_pos (by rw [toList_iff, hrest]; rfl), if_pos (by omega), dossierref08_Words.l0, if_neg (by omega), if_pos (by omega)]
      exact ⟨_, rfl, rfl, by rw [List.length_append, List.length_singleton]; omega⟩
theorem words_same (s : ByteArray) (k : Nat) (hk : 4000 ≤ k) : ∃ r, lexer_Words.f k s = some r ∧ dossierref08_Words.f k s = some r ∧ r.1.length ≤ 401 := by
  have hss := b_size s
  unfold lexer_Words.f dossierref08_Words.f
  by_cases h : 400 < (bytesOf s).length
  · rw [if_pos (by omega), if_pos (by omega)]
    exact ⟨_, rfl, rfl, by simp⟩
  · rw [if_neg (by omega), if_neg (by omega)]
    obtain ⟨r, hr, hb⟩ := trim_spec s
    rw [hr, Option.bind_some]
    exact words_at s (by omega) 3001 (Nat.le_refl _) _ 0 k k [] r (Nat.zero_add _) (by simp) hb (by omega) (by omega)
theorem same_at (l : List S43) (hl : l.length ≤ 1000) : ∀ d i k : Nat, i + d = l.length → dossierref08_Same.l0 (k + d + 1) l l (l.length : Int) (i : Int) = some true := by
  intro d
  induction d with
  | zero => intro i k hi; rw [dossierref08_Same.l0, if_neg (by omega)]
  | succ d ih =>
    intro i k hi
    have e2 : wrap64 ((i : Int) + 1) = ((i + 1 : Nat) : Int) := by rw [w64' _ (by omega) (by omega)]; omega
    rw [show k + (d + 1) + 1 = (k + d + 1) + 1 from by omega, dossierref08_Same.l0, if_pos (by omega), if_pos (by omega), if_pos (by omega), if_pos (by omega), if_neg (by simp), e2]
    exact ih (i + 1) k (by omega)
theorem same_spec (l : List S43) (hl : l.length ≤ 1000) (k : Nat) (hk : 1001 ≤ k) : dossierref08_Same.f k l l = some true := by
  unfold dossierref08_Same.f
  rw [if_pos rfl]
  have := same_at l hl l.length 0 (k - l.length - 1) (Nat.zero_add _)
  rw [show k - l.length - 1 + l.length + 1 = k from by omega] at this
  exact this
theorem mono_le {α : Type} (f : Nat → Option α) (h : ∀ k, LeO (f k) (f (k + 1))) {k k' : Nat} (hk : k ≤ k') {r : α} (e : f k = some r) : f k' = some r := by
  obtain ⟨d, rfl⟩ : ∃ d, k' = k + d := ⟨k' - k, by omega⟩
  clear hk
  induction d with
  | zero => exact e
  | succ d ih => exact h _ r ih
theorem awake_small : dossierlaw08_awake.f 60 = some true := by kernel_rfl
theorem awake_spec (k : Nat) (hk : 60 ≤ k) : dossierlaw08_awake.f k = some true := mono_le _ dossierlaw08_awake.mono hk awake_small
end Go.Proofs.YtifgpigicgaadaaGreatDoor.Words
end
section
namespace Go.Proofs.YtifgpigicgaadaaGreatDoor.Q
open Go.RowKit Go.Proofs.YtifgpigicgaadaaGreatDoorH Go.Proofs.YtifgpigicgaadaaGreatDoorW.PrintWords Go.Proofs.YtifgpigicgaadaaGreatDoorW.PrintLast Go.Proofs.YtifgpigicgaadaaGreatDoorW.PrintMore
attribute [local go_sem] max2_int min2_int max_two min_two max_three min_three max_four min_four
set_option linter.unusedVariables false
set_option linter.unusedSimpArgs false
section
/-! ### value_Print: function 18 -/
def value_Print.f (a0_0 : Int) (a0_1 : Int) (a0_2 : Bool) (a0_3 : ByteArray) : Option ByteArray :=
 if a0_0 = 1 then (if -9223372036854775808 ≤ a0_1 ∧ a0_1 ≤ 9223372036854775807 then some (strOfNums (Go.Proofs.YtifgpigicgaadaaGreatDoor.Hand.textOf a0_1)) else none)
 else if a0_0 = 2 then some (if a0_2 = true then ⟨#[116,114,117,101]⟩ else ⟨#[102,97,108,115,101]⟩)
 else if a0_0 = 3 then (if a0_3.size ≤ 140737488351232 then some (Go.Proofs.YtifgpigicgaadaaGreatDoor.Hand.quoteV a0_3) else none) else some ⟨#[]⟩
theorem value_Print.calls (a0_0 : Int) (a0_1 : Int) (a0_2 : Bool) (a0_3 : ByteArray) (r : ByteArray) (w : World) (h : value_Print.f a0_0 a0_1 a0_2 a0_3 = some r) :
 Calls Tryz.prog 18 #[.agg #[.int .i64 a0_0,.int .i64 a0_1,.bool a0_2,.string a0_3]] w fun e w' => e = .returned (.string r) ∧ Below w.heap.size w w' := by
 unfold value_Print.f at h
 by_cases h1 : a0_0 = 1
 · subst h1
   rw [if_pos rfl] at h
   split at h
   · rename_i hr
     obtain rfl := Option.some.inj h
     exact Go.Proofs.YtifgpigicgaadaaGreatDoor.Hand.print_int w a0_1 a0_2 a0_3 hr
   · cases h
 · rw [if_neg h1] at h
   by_cases h2 : a0_0 = 2
   · subst h2
     rw [if_pos rfl] at h
     obtain rfl := Option.some.inj h
     exact Go.Proofs.YtifgpigicgaadaaGreatDoor.Hand.print_bool w a0_1 a0_2 a0_3
   · rw [if_neg h2] at h
     by_cases h3 : a0_0 = 3
     · subst h3
       rw [if_pos rfl] at h
       split at h
       · rename_i hr
         obtain rfl := Option.some.inj h
         exact Go.Proofs.YtifgpigicgaadaaGreatDoor.Hand.print_text w a0_1 a0_2 a0_3 hr
       · cases h
     · rw [if_neg h3] at h
       obtain rfl := Option.some.inj h
       exact Go.Proofs.YtifgpigicgaadaaGreatDoor.Hand.print_none w a0_0 a0_1 a0_2 a0_3 h1 h2 h3
end
section
/-! ### chars_Text: function 34 -/
def chars_Text.f (a0 : Int) : Option ByteArray := if -9223372036854775808 ≤ a0 ∧ a0 ≤ 9223372036854775807 then some (strOfNums (Go.Proofs.YtifgpigicgaadaaGreatDoor.Hand.textOf a0)) else none
theorem chars_Text.calls (a0 : Int) (r : ByteArray) (w : World) (h : chars_Text.f a0 = some r) :
 Calls Tryz.prog 34 #[.int .i64 a0] w fun e w' => e = .returned (.string r) ∧ Below w.heap.size w w' := by
 unfold chars_Text.f at h
 split at h
 · rename_i hr
   obtain rfl := Option.some.inj h
   exact Go.Proofs.YtifgpigicgaadaaGreatDoor.Hand.text_calls w a0 hr
 · cases h
end
section
/-! ### value_Text: function 10 -/
def value_Text.f (a0 : ByteArray) : Option (Int × Int × Bool × ByteArray) := some (3,0,false,a0)
set_option maxHeartbeats 8000000 in
set_option maxRecDepth 100000 in
theorem value_Text.calls (a0 : ByteArray) (r1 : Int) (r2 : Int) (r3 : Bool) (r4 : ByteArray) (w : World) (h : value_Text.f a0 = some (r1,r2,r3,r4)) :
 Calls Tryz.prog 10 #[.string a0] w fun e w' => e = .returned (.agg #[.int .i64 r1,.int .i64 r2,.bool r3,.string r4]) ∧ Below w.heap.size w w' := by
 have hu23 := Tryz.underlying23
 have HB := Aside0.mk (Below.refl w.heap.size w)
 have H : (some (3,0,false,a0)) = some (r1,r2,r3,r4) := h
 clear h
 simp only [Option.some.injEq,Prod.mk.injEq] at H
 obtain ⟨rfl,rfl,rfl,rfl⟩ := H
 go_enter Tryz.func10,Tryz.ntmps10
 go_wp2_with (first | ((with_reducible refine gate_dst (N := 2) rfl ?_); refine box_event ?hg (N := 2) ?hd (cs := #[.int .i64 0,.int .i64 0,.bool false,.string (⟨#[]⟩ : ByteArray)]) (t := 23) ?hr ?_; (case hd => rfl); (case hg => rfl); (case hr => first | (go_simp; done) | (go_simp; rfl)); intro gb105 hg w2 hbox hb; have n0_ := Aside0.mk (below_step (by repeat (first | (with_reducible first | exact HB.out | apply below_alloc | apply pw_below_drewN | apply below_drew1 | apply bytes_below1) | exact HB.out)) hb); have n1_ := Aside0.mk (hbox); have n2_ := Aside0.mk ((by rw [hg]; exact (below_size (by repeat (first | (with_reducible first | exact HB.out | apply below_alloc | apply pw_below_drewN | apply below_drew1 | apply bytes_below1) | exact HB.out))) : w.heap.size ≤ gb105)); have n3_ := Aside0.mk ((by rw [hg]; exact (below_size (by repeat (first | (with_reducible first | exact HB.out | apply below_alloc | apply pw_below_drewN | apply below_drew1 | apply bytes_below1) | exact HB.out))) : w.heap.size ≤ gb105)); clear HB; have HB := n0_; have BK105 := n1_; have GW105 := n2_; have GE105 := n3_; clear n0_ n1_ n2_ n3_; clear hb hbox hg; have hcz3_0 : w2.cell? ⟨gb105,0,none⟩ = some (.int .i64 0) := (blk_cell BK105.out 0).trans rfl; have hcz3_1 : w2.cell? ⟨gb105,1,none⟩ = some (.int .i64 0) := (blk_cell BK105.out 1).trans rfl; have hcz3_2 : w2.cell? ⟨gb105,2,none⟩ = some (.bool false) := (blk_cell BK105.out 2).trans rfl; have hcz3_3 : w2.cell? ⟨gb105,3,none⟩ = some (.string (⟨#[]⟩ : ByteArray)) := (blk_cell BK105.out 3).trans rfl; have hfz3_0 := blk_frozen BK105.out 0; have hfz3_1 := blk_frozen BK105.out 1; have hfz3_2 := blk_frozen BK105.out 2; have hfz3_3 := blk_frozen BK105.out 3))
 refine bodyPost_ret (results_cell_row rfl _ _ gb105 23 #[.int .i64 3,.int .i64 0,.bool false,.string a0] (0,0) _ rfl (by (with_reducible repeat (first | refine blk_bytes ?_ _ _ | refine blk_drewN ?_ _ | refine blk_drew ?_ | refine blk_alloc ?_ _)); refine blk_put (cs := #[.int .i64 3,.int .i64 0,.bool false,.string (⟨#[]⟩ : ByteArray)]) ?_ 3 _ rfl; (with_reducible repeat (first | refine blk_bytes ?_ _ _ | refine blk_drewN ?_ _ | refine blk_drew ?_ | refine blk_alloc ?_ _)); refine blk_put (cs := #[.int .i64 3,.int .i64 0,.bool false,.string (⟨#[]⟩ : ByteArray)]) ?_ 2 _ rfl; (with_reducible repeat (first | refine blk_bytes ?_ _ _ | refine blk_drewN ?_ _ | refine blk_drew ?_ | refine blk_alloc ?_ _)); refine blk_put (cs := #[.int .i64 3,.int .i64 0,.bool false,.string (⟨#[]⟩ : ByteArray)]) ?_ 1 _ rfl; (with_reducible repeat (first | refine blk_bytes ?_ _ _ | refine blk_drewN ?_ _ | refine blk_drew ?_ | refine blk_alloc ?_ _)); refine blk_put (cs := #[.int .i64 0,.int .i64 0,.bool false,.string (⟨#[]⟩ : ByteArray)]) ?_ 0 _ rfl; (with_reducible repeat (first | refine blk_bytes ?_ _ _ | refine blk_drewN ?_ _ | refine blk_drew ?_ | refine blk_alloc ?_ _)); exact BK105.out) Tryz.underlying23 rfl (by kernel_rfl)) rfl ?_
 exact ⟨by first | rfl | (simp [errW_none,errW_some] <;> rfl) | (simp [*,errW_none,errW_some] <;> rfl),by repeat (first | (with_reducible first | exact HB.out | apply below_alloc | apply pw_below_drewN | apply below_drew1 | apply bytes_below1 | refine below_set ?_ GE105.out) | exact HB.out)⟩
end
end Go.Proofs.YtifgpigicgaadaaGreatDoor.Q
end
section
/- What the program's library functions are, against the shelf's own bodies: a table of numbers and one theorem for each, by the kernel's comparison. Written by the kit's lay-plain.mjs for this seat. -/
namespace Go.Proofs
open Go.Shelf
def Tryz.layJoin_ren : Go.Shelf.Ren := ⟨fun | 156 => 44 | 165 => 69 | 166 => 70 | 169 => 71 | 240 => 89 | 241 => 90 | 276 => 105 | 277 => 106 | n => n, fun | 31 => 61 | 9 => 9 | 3 => 3 | 4 => 4 | 0 => 0 | 20 => 20 | 72 => 104 | 76 => 108 | 70 => 102 | 37 => 24 | 75 => 107 | 127 => 131 | 164 => 151 | 5 => 5 | 80 => 110 | n => n, fun | n => n⟩
theorem Tryz.layJoin : Go.Proofs.Lays.n156 Tryz.prog Tryz.layJoin_ren := {
  mixed := by kernel_rfl
  f156 := Tryz.func44.trans (congrArg some (by kernel_rfl))
  f165 := Tryz.func69.trans (congrArg some (by kernel_rfl))
  f166 := Tryz.func70.trans (congrArg some (by kernel_rfl))
  f169 := Tryz.func71.trans (congrArg some (by kernel_rfl))
  f240 := Tryz.func89.trans (congrArg some (by kernel_rfl))
  f241 := Tryz.func90.trans (congrArg some (by kernel_rfl))
  f276 := Tryz.func105.trans (congrArg some (by kernel_rfl))
  f277 := Tryz.func106.trans (congrArg some (by kernel_rfl))
  t0 := Tryz.underlying0
  a0 := Tryz.isAgg0
  z0 := Tryz.sizeOf0
  v0 := Tryz.zeroValue0
  t3 := Tryz.underlying3
  a3 := Tryz.isAgg3
  z3 := Tryz.sizeOf3
  v3 := Tryz.zeroValue3
  t4 := Tryz.underlying4
  a4 := Tryz.isAgg4
  z4 := Tryz.sizeOf4
  v4 := Tryz.zeroValue4
  t9 := Tryz.underlying9
  a9 := Tryz.isAgg9
  z9 := Tryz.sizeOf9
  v9 := Tryz.zeroValue9
  t20 := Tryz.underlying20
  a20 := Tryz.isAgg20
  z20 := Tryz.sizeOf20
  v20 := Tryz.zeroValue20
  t31 := Tryz.underlying61
  a31 := Tryz.isAgg61
  z31 := Tryz.sizeOf61
  v31 := Tryz.zeroValue61
  t37 := Tryz.underlying24
  a37 := Tryz.isAgg24
  z37 := Tryz.sizeOf24
  v37 := Tryz.zeroValue24
  t70 := Tryz.underlying102
  a70 := Tryz.isAgg102
  z70 := Tryz.sizeOf102
  v70 := Tryz.zeroValue102
  t72 := Tryz.underlying104
  a72 := Tryz.isAgg104
  z72 := Tryz.sizeOf104
  v72 := Tryz.zeroValue104
  t75 := Tryz.underlying107
  a75 := Tryz.isAgg107
  z75 := Tryz.sizeOf107
  v75 := Tryz.zeroValue107
  t76 := Tryz.underlying108
  a76 := Tryz.isAgg108
  z76 := Tryz.sizeOf108
  v76 := Tryz.zeroValue108
  t127 := Tryz.underlying131
  a127 := Tryz.isAgg131
  z127 := Tryz.sizeOf131
  v127 := Tryz.zeroValue131
  t164 := Tryz.underlying151
  a164 := Tryz.isAgg151
  z164 := Tryz.sizeOf151
  v164 := Tryz.zeroValue151 }
end Go.Proofs
end
section
namespace Go.Proofs.YtifgpigicgaadaaGreatDoor.Q
open Go.RowKit Go.Proofs.YtifgpigicgaadaaGreatDoorH Go.Proofs.YtifgpigicgaadaaGreatDoorW.PrintWords Go.Proofs.YtifgpigicgaadaaGreatDoorW.PrintLast Go.Proofs.YtifgpigicgaadaaGreatDoorW.PrintMore
attribute [local go_sem] max2_int min2_int max_two min_two max_three min_three max_four min_four
set_option linter.unusedVariables false
set_option linter.unusedSimpArgs false
section
/-! ### strings_Join: function 44 -/
theorem strings_Join.extra : Builder.Extra Tryz.prog Tryz.layJoin_ren where
 sizeBuilder := by kernel_rfl
 liesBuilder := by kernel_rfl
 t5 := Tryz.underlying5
 a5 := Tryz.isAgg5
 z5 := Tryz.sizeOf5
 v5 := Tryz.zeroValue5
 infoByte := by kernel_rfl
 cellsByte := by kernel_rfl
 sizeByte := by kernel_rfl
 neB5 := by decide
/-- Of texts that are not too many, and not too long together (nothing at others). -/
def strings_Join.f (l0 : List ByteArray) (a1 : ByteArray) : Option ByteArray := if l0.length ≤ 140737488355328 ∧ (Lib.join (l0.map (·.data.toList)) a1.data.toList).length ≤ 140737488355328 then some ⟨(Lib.join (l0.map (·.data.toList)) a1.data.toList).toArray⟩ else none
theorem strings_Join.calls (A0 : Option Addr) (c0 : Nat) (l0 : List ByteArray) (a1 : ByteArray) (r : ByteArray) (w : World) (hr0 : Kd.C Kd.string w A0 l0.length l0) (hc0 : l0.length ≤ c0) (h : strings_Join.f l0 a1 = some r) :
 Calls Tryz.prog 44 #[.slice A0 l0.length c0,.string a1] w fun e w' => e = .returned (.string r) ∧ Below w.heap.size w w' := by
 unfold strings_Join.f at h
 by_cases hk : l0.length ≤ 140737488355328 ∧ (Lib.join (l0.map (·.data.toList)) a1.data.toList).length ≤ 140737488355328
 · rw [if_pos hk] at h
   obtain rfl := Option.some.inj h
   by_cases h0 : l0.length = 0
   · obtain rfl := List.length_eq_zero_iff.1 h0
     refine (Any.strings_Join_none Tryz.layJoin strings_Join.extra A0 c0 a1 w).mono fun e w' hw => ?_
     exact ⟨hw.1,hw.2 ▸ Below.refl _ _⟩
   · obtain ⟨ad,rfl,hc⟩ := Kd.at_string hr0 0 (by omega) (by omega)
     have hsp := World.cell?_spot hc
     obtain ⟨bk,o,spot⟩ := ad
     obtain rfl : spot = none := by simpa [Addr.add] using hsp
     refine Any.strings_Join Tryz.layJoin strings_Join.extra bk o c0 l0 a1 w (fun j x hx => ?_) ?_ hk.1 hc0 hk.2
     · have hj := (List.getElem?_eq_some_iff.1 hx).1
       obtain ⟨ad2,e2,h2⟩ := Kd.at_string hr0 (j : Int) (by omega) (by omega)
       obtain rfl := Option.some.inj e2
       rw [Addr.add_lit,Int.toNat_natCast] at h2
       rw [h2]
       unfold rdOf
       rw [Int.toNat_natCast,List.getD_eq_getElem?_getD,hx]
       rfl
     · have := World.block_lt_of_cell? w _ hc
       simpa [Addr.add] using this
 · rw [if_neg hk] at h; cases h
end
section
/-! ### lexer_Spell: function 24 -/
mutual
def lexer_Spell.l0 : Nat → List ByteArray → List (S43) → Int → Int → Option (ByteArray)
 | 0,_,_,_,_ => none
 | k + 1,x3,x6,x7,x8 => if x8 < x7 then (if 0 ≤ x8 then (if x8 < (x6.length : Int) then (if ((rd_T43 x6 x8).f0) = 1 then (lexer_Spell.j1 k x3 x6 x7 x8 ((rd_T43 x6 x8).f0) (((rd_T43 x6 x8).f0) == 1) ((rd_T43 x6 x8).f0) ((rd_T43 x6 x8).f1) ((rd_T43 x6 x8).f2)) else (lexer_Spell.j1 k x3 x6 x7 x8 ((rd_T43 x6 x8).f0) (((rd_T43 x6 x8).f0) == 4) ((rd_T43 x6 x8).f0) ((rd_T43 x6 x8).f1) ((rd_T43 x6 x8).f2))) else (none)) else (none)) else ((strings_Join.f x3 (⟨#[32]⟩ : ByteArray)).bind fun t443 => (some t443))
def lexer_Spell.j1 : Nat → List ByteArray → List (S43) → Int → Int → Int → Bool → Int → ByteArray → Int → Option (ByteArray)
 | 0,_,_,_,_,_,_,_,_,_ => none
 | k + 1,x3,x6,x7,x8,x13,x14,x446000,x446001,x446002 => if x14 = true then (if x3.length < 8796093022208 then (lexer_Spell.l0 k (x3 ++ [x446001]) x6 x7 (wrap64 (x8 + 1))) else (none)) else (if x13 = 2 then ((chars_Text.f x446002).bind fun t449 => (if x3.length < 8796093022208 then (lexer_Spell.l0 k (x3 ++ [t449]) x6 x7 (wrap64 (x8 + 1))) else (none))) else (if x13 = 3 then ((value_Text.f x446001).bind fun bt453 => ((value_Print.f bt453.1 bt453.2.1 bt453.2.2.1 bt453.2.2.2).bind fun t457 => (if x3.length < 8796093022208 then (lexer_Spell.l0 k (x3 ++ [t457]) x6 x7 (wrap64 (x8 + 1))) else (none)))) else (lexer_Spell.l0 k x3 x6 x7 (wrap64 (x8 + 1)))))
end
def lexer_Spell.f (k : Nat) (l0 : List (S43)) : Option (ByteArray) := lexer_Spell.l0 k ([] : List ByteArray) l0 (l0.length : Int) 0
set_option maxHeartbeats 8000000 in
set_option maxRecDepth 100000 in
theorem lexer_Spell.calls (k : Nat) (A0 : Option Addr) (c0 : Nat) (l0 : List (S43)) (r : ByteArray) (w : World) (hr0 : Kd.C k43 w A0 l0.length l0) (hc0 : l0.length ≤ c0) (h : lexer_Spell.f k l0 = some r) :
 Calls Tryz.prog 24 #[.slice A0 l0.length c0] w fun e w' => e = .returned (.string r) ∧ Below w.heap.size w w' := by
 have hu43 := Tryz.underlying43
 have HR0 := Aside0.mk hr0
 have HC0 := Aside0.mk hc0
 clear hr0 hc0
 have HB := Aside0.mk (Below.refl w.heap.size w)
 have H : (lexer_Spell.l0 k ([] : List ByteArray) l0 (l0.length : Int) 0) = some r := h
 clear h
 have H' := Aside0.mk H
 clear H
 go_enter Tryz.func24,Tryz.ntmps24
 go_wp2
 go_loopg [3,8] k (fun kq v3 v8 w' => ∃ (x3_1 : List ByteArray) (x8_1 : Int),v8 = .int .i64 x8_1 ∧ Aside0 (lexer_Spell.l0 kq x3_1 l0 (l0.length : Int) x8_1 = some r) ∧ Aside0 (kq ≤ k) ∧ Aside0 (Kd.R Kd.string 9 w' w.heap.size (fun _ => True) v3 x3_1) ∧ Aside0 (Below w.heap.size w w'))
 case atStart => exact ⟨(([] : List ByteArray)),(0),(by first | rfl | (simp; done) | (simp [*]; done)),H',⟨Nat.le_refl _⟩,⟨by first | exact Kd.R_nil _ _ _ _ _ | exact Kd.N_nil _ _ _ _ _ | exact Kd.V_nil _ _ _ _ _ | exact Kd.Q_nil _ _ _ _ _ | exact Kd.S_nil _ _ _ _ _⟩,⟨by repeat (first | (with_reducible first | exact HB.out | apply below_alloc | apply pw_below_drewN | apply below_drew1 | apply bytes_below1) | exact HB.out)⟩⟩
 case round =>
  clear H'
  obtain ⟨x3_1,x8_1,rfl,HA,HK1,HO_3,HB⟩ := hrel
  cases gk with
  | zero => exact absurd HA.out (by simp [lexer_Spell.l0])
  | succ k1 =>
   have H := HA.out
   clear HA
   simp only [lexer_Spell.l0] at H
   by_cases c2 : x8_1 < (l0.length : Int)
   · rw [if_pos c2] at H
     have c2b0 : decide (x8_1 < (l0.length : Int)) = true := decide_eq_true c2
     clear c2
     by_cases c3 : 0 ≤ x8_1
     · rw [if_pos c3] at H
       have c3b0 : decide (0 ≤ x8_1) = true := decide_eq_true c3
       clear c3
       by_cases c4 : x8_1 < (l0.length : Int)
       · rw [if_pos c4] at H
         have c4b0 : decide (x8_1 < (l0.length : Int)) = true := decide_eq_true c4
         clear c4
         have HC5 := Aside0.mk H
         clear H
         have p444 : 0 ≤ (x8_1 : Int) := of_decide_eq_true (by first | (with_reducible assumption) | assumption)
         have q444 : x8_1 < (l0.length : Int) := of_decide_eq_true (by first | (with_reducible assumption) | assumption)
         obtain ⟨ad444,e444,hx444_0,hx444_1,hx444_2⟩ := at_T43 HR0.out x8_1 p444 q444
         cases e444
         replace hx444_0 := (HB.out.cell (World.block_lt_of_cell? w _ hx444_0)).trans hx444_0
         replace hx444_1 := (HB.out.cell (World.block_lt_of_cell? w _ hx444_1)).trans hx444_1
         replace hx444_2 := (HB.out.cell (World.block_lt_of_cell? w _ hx444_2)).trans hx444_2
         replace p444 := eq_true p444
         replace q444 := eq_true q444
         go_upto_if 14 with (first | ((with_reducible refine gate_dst (N := 5) rfl ?_); refine box_event ?hg (N := 5) ?hd (cs := #[.int .i64 0,.string (⟨#[]⟩ : ByteArray),.int .i64 0]) (t := 43) ?hr ?_; (case hd => rfl); (case hg => rfl); (case hr => first | (go_simp; done) | (go_simp; rfl)); intro gb445 hg w6 hbox hb; have n0_ := Aside0.mk (Kd.R_below (by (with_reducible repeat (first | apply Kd.R_alloc | apply R_bytes | apply Kd.R_drewN | apply Kd.R_drew)); exact HO_3.out) hb); have n1_ := Aside0.mk (below_step (by repeat (first | (with_reducible first | exact HB.out | apply below_alloc | apply pw_below_drewN | apply below_drew1 | apply bytes_below1) | exact HB.out)) hb); have n2_ := Aside0.mk (hbox); have n3_ := Aside0.mk ((by rw [hg]; exact (below_size (by repeat (first | (with_reducible first | exact HB.out | apply below_alloc | apply pw_below_drewN | apply below_drew1 | apply bytes_below1) | exact HB.out))) : w.heap.size ≤ gb445)); have n4_ := Aside0.mk ((by rw [hg]; exact (below_size (by repeat (first | (with_reducible first | exact HB.out | apply below_alloc | apply pw_below_drewN | apply below_drew1 | apply bytes_below1) | exact HB.out))) : w.heap.size ≤ gb445)); clear HO_3; clear HB; have HO_3 := n0_; have HB := n1_; have BK445 := n2_; have GW445 := n3_; have GE445 := n4_; clear n0_ n1_ n2_ n3_ n4_; clear hb hbox hg; have hcz7_0 : w6.cell? ⟨gb445,0,none⟩ = some (.int .i64 0) := (blk_cell BK445.out 0).trans rfl; have hcz7_1 : w6.cell? ⟨gb445,1,none⟩ = some (.string (⟨#[]⟩ : ByteArray)) := (blk_cell BK445.out 1).trans rfl; have hcz7_2 : w6.cell? ⟨gb445,2,none⟩ = some (.int .i64 0) := (blk_cell BK445.out 2).trans rfl; have hfz7_0 := blk_frozen BK445.out 0; have hfz7_1 := blk_frozen BK445.out 1; have hfz7_2 := blk_frozen BK445.out 2))
         (try simp only [Act.put,List.setIfInBounds_toArray,List.set_cons_zero,List.set_cons_succ])
         go_cut [14] (fun v14 wc => ∃ (kq : Nat) (x14_4 : Bool),v14 = .bool x14_4 ∧ Aside0 (lexer_Spell.j1 kq x3_1 l0 (l0.length : Int) x8_1 ((rd_T43 l0 x8_1).f0) x14_4 ((rd_T43 l0 x8_1).f0) ((rd_T43 l0 x8_1).f1) ((rd_T43 l0 x8_1).f2) = some r) ∧ Aside0 (kq ≤ k1) ∧ Aside0 (Kd.R Kd.string 9 wc w.heap.size (fun _ => True) u3 x3_1) ∧ Aside0 (wc.heap[gb445]? = some (.cells #[.int .i64 ((rd_T43 l0 x8_1).f0),.string ((rd_T43 l0 x8_1).f1),.int .i64 ((rd_T43 l0 x8_1).f2)] 43 (0,0))) ∧ Aside0 (Below w.heap.size w wc))
         case first =>
          have H := HC5.out
          clear HC5
          by_cases c8 : ((rd_T43 l0 x8_1).f0) = 1
          · rw [if_pos c8] at H
            have c8b0 : (((rd_T43 l0 x8_1).f0) == 1) = true := beq_iff_eq.mpr c8
            have c8b1 : (((rd_T43 l0 x8_1).f0) != 1) = false := bne_eq_false_iff_eq.mpr c8
            clear c8
            (first | rw [c8b0] | (simp only [i64_w,i32_w]; rw [c8b0]) | skip)
            have H' := Aside0.mk H
            clear H
            go_wp2
            go_meet
            case rel => exact ⟨_,((((rd_T43 l0 x8_1).f0) == 1)),(by first | rfl | (simp; done) | (simp [*]; done)),H',⟨by have := HK1.out; first | omega | exact Nat.le_refl _⟩,⟨by (with_reducible repeat (first | apply Kd.R_alloc | apply R_bytes | apply Kd.R_drewN | apply Kd.R_drew)); exact Kd.R_mono (Kd.R_far (p := ⟨gb445,2,none⟩) (Kd.R_far (p := ⟨gb445,1,none⟩) (Kd.R_far (p := ⟨gb445,0,none⟩) (Kd.R_types HO_3.out BK445.out (by decide)) (fun _ hk => hk.2) (.int .i64 ((rd_T43 l0 x8_1).f0))) (fun _ hk => hk.2) (.string ((rd_T43 l0 x8_1).f1))) (fun _ hk => hk.2) (.int .i64 ((rd_T43 l0 x8_1).f2))) (fun _ hk => trivial)⟩,⟨by (with_reducible repeat (first | refine blk_bytes ?_ _ _ | refine blk_drewN ?_ _ | refine blk_drew ?_ | refine blk_alloc ?_ _)); refine blk_put (cs := #[.int .i64 ((rd_T43 l0 x8_1).f0),.string ((rd_T43 l0 x8_1).f1),.int .i64 0]) ?_ 2 _ rfl; (with_reducible repeat (first | refine blk_bytes ?_ _ _ | refine blk_drewN ?_ _ | refine blk_drew ?_ | refine blk_alloc ?_ _)); refine blk_put (cs := #[.int .i64 ((rd_T43 l0 x8_1).f0),.string (⟨#[]⟩ : ByteArray),.int .i64 0]) ?_ 1 _ rfl; (with_reducible repeat (first | refine blk_bytes ?_ _ _ | refine blk_drewN ?_ _ | refine blk_drew ?_ | refine blk_alloc ?_ _)); refine blk_put (cs := #[.int .i64 0,.string (⟨#[]⟩ : ByteArray),.int .i64 0]) ?_ 0 _ rfl; (with_reducible repeat (first | refine blk_bytes ?_ _ _ | refine blk_drewN ?_ _ | refine blk_drew ?_ | refine blk_alloc ?_ _)); exact BK445.out⟩,⟨by repeat (first | (with_reducible first | exact HB.out | apply below_alloc | apply pw_below_drewN | apply below_drew1 | apply bytes_below1 | refine below_set ?_ GE445.out) | exact HB.out)⟩⟩
          · rw [if_neg c8] at H
            have c8b0 : (((rd_T43 l0 x8_1).f0) == 1) = false := beq_eq_false_iff_ne.mpr c8
            have c8b1 : (((rd_T43 l0 x8_1).f0) != 1) = true := bne_iff_ne.mpr c8
            (first | rw [c8b0] | (simp only [i64_w,i32_w]; rw [c8b0]) | skip)
            have H' := Aside0.mk H
            clear H
            go_wp2
            go_meet
            case rel => exact ⟨_,((((rd_T43 l0 x8_1).f0) == 4)),(by first | rfl | (simp; done) | (simp [*]; done)),H',⟨by have := HK1.out; first | omega | exact Nat.le_refl _⟩,⟨by (with_reducible repeat (first | apply Kd.R_alloc | apply R_bytes | apply Kd.R_drewN | apply Kd.R_drew)); exact Kd.R_mono (Kd.R_far (p := ⟨gb445,2,none⟩) (Kd.R_far (p := ⟨gb445,1,none⟩) (Kd.R_far (p := ⟨gb445,0,none⟩) (Kd.R_types HO_3.out BK445.out (by decide)) (fun _ hk => hk.2) (.int .i64 ((rd_T43 l0 x8_1).f0))) (fun _ hk => hk.2) (.string ((rd_T43 l0 x8_1).f1))) (fun _ hk => hk.2) (.int .i64 ((rd_T43 l0 x8_1).f2))) (fun _ hk => trivial)⟩,⟨by (with_reducible repeat (first | refine blk_bytes ?_ _ _ | refine blk_drewN ?_ _ | refine blk_drew ?_ | refine blk_alloc ?_ _)); refine blk_put (cs := #[.int .i64 ((rd_T43 l0 x8_1).f0),.string ((rd_T43 l0 x8_1).f1),.int .i64 0]) ?_ 2 _ rfl; (with_reducible repeat (first | refine blk_bytes ?_ _ _ | refine blk_drewN ?_ _ | refine blk_drew ?_ | refine blk_alloc ?_ _)); refine blk_put (cs := #[.int .i64 ((rd_T43 l0 x8_1).f0),.string (⟨#[]⟩ : ByteArray),.int .i64 0]) ?_ 1 _ rfl; (with_reducible repeat (first | refine blk_bytes ?_ _ _ | refine blk_drewN ?_ _ | refine blk_drew ?_ | refine blk_alloc ?_ _)); refine blk_put (cs := #[.int .i64 0,.string (⟨#[]⟩ : ByteArray),.int .i64 0]) ?_ 0 _ rfl; (with_reducible repeat (first | refine blk_bytes ?_ _ _ | refine blk_drewN ?_ _ | refine blk_drew ?_ | refine blk_alloc ?_ _)); exact BK445.out⟩,⟨by repeat (first | (with_reducible first | exact HB.out | apply below_alloc | apply pw_below_drewN | apply below_drew1 | apply bytes_below1 | refine below_set ?_ GE445.out) | exact HB.out)⟩⟩
         case rest =>
          clear HC5
          try clear c2
          try clear c2b0
          try clear p2
          try clear c3
          try clear c3b0
          try clear c4
          try clear c4b0
          try clear p4
          try clear q4
          try clear hx4
          try clear c8
          try clear c8b0
          try clear c8b1
          try clear hcz7_0
          try clear hcz7_1
          try clear hcz7_2
          try clear hfz7_0
          try clear hfz7_1
          try clear hfz7_2
          try clear hx444_0
          try clear hx444_1
          try clear hx444_2
          try clear p444
          try clear q444
          obtain ⟨kq,x14_4,rfl,HA,HJ4,HO_3,BK445,HB⟩ := hcut
          cases kq with
          | zero => exact absurd HA.out (by simp [lexer_Spell.j1])
          | succ kj4 =>
           have H := HA.out
           clear HA
           simp only [lexer_Spell.j1] at H
           by_cases c9 : x14_4 = true
           · subst c9
             have H1 : (if x3_1.length < 8796093022208 then (lexer_Spell.l0 kj4 (x3_1 ++ [((rd_T43 l0 x8_1).f1)]) l0 (l0.length : Int) (wrap64 (x8_1 + 1))) else (none)) = some r := by rw [if_pos rfl] at H; exact H
             clear H
             have H := H1
             clear H1
             by_cases c10 : x3_1.length < 8796093022208
             · rw [if_pos c10] at H
               have LMc10 := Aside0.mk c10
               clear c10
               obtain ⟨y446,hy446⟩ : ∃ y_ : List ByteArray,y_ = (x3_1 ++ [((rd_T43 l0 x8_1).f1)]) := ⟨_,rfl⟩
               replace H : (lexer_Spell.l0 kj4 y446 l0 (l0.length : Int) (wrap64 (x8_1 + 1))) = some r := by first | (rw [hy446]; with_reducible exact H) | (have H2_ := (Option.bind_some _ _).symm.trans H; rw [hy446]; with_reducible exact H2_) | (have H2_ := (Option.bind_some _ _).symm.trans H; with_reducible exact H2_) | with_reducible exact H | (rw [hy446]; exact H) | exact H
               have Ny446 := Aside0.mk hy446
               clear hy446
               have H' := Aside0.mk H
               clear H
               have hcz11_0 : wc.cell? ⟨gb445,0,none⟩ = some (.int .i64 ((rd_T43 l0 x8_1).f0)) := (blk_cell BK445.out 0).trans rfl
               have hcz11_1 : wc.cell? ⟨gb445,1,none⟩ = some (.string ((rd_T43 l0 x8_1).f1)) := (blk_cell BK445.out 1).trans rfl
               have hcz11_2 : wc.cell? ⟨gb445,2,none⟩ = some (.int .i64 ((rd_T43 l0 x8_1).f2)) := (blk_cell BK445.out 2).trans rfl
               have hfz11_0 := blk_frozen BK445.out 0
               have hfz11_1 := blk_frozen BK445.out 1
               have hfz11_2 := blk_frozen BK445.out 2
               go_wp2_with (first | ((with_reducible refine gate_builtin (b := .append) (xs := #[.tmp 17,.tmp 20]) rfl ?_); at_builtin; refine Kd.R_append Kd.string (w0 := w) w.heap.size rfl (.tmp 17) (.tmp 20) 61 9 (.string ⟨#[]⟩) 16 rfl Tryz.underlying61 info9 rfl (by decide) (by omega) u3 x3_1 ((rd_T43 l0 x8_1).f1) [.string ((rd_T43 l0 x8_1).f1)] (fun _ => True) (fun _ => False) rfl rfl ?aP (fun _ hk => hk.elim) ?aF ?aO ?aB ?aS ?aL ?_; (case aP => exact rfl); (case aB => exact (by repeat (first | (with_reducible first | exact HB.out | apply below_alloc | apply pw_below_drewN | apply below_drew1 | apply bytes_below1 | refine below_set ?_ GE445.out) | exact HB.out))); (case aF => exact (fun _ _ => trivial)); (case aO => exact (by (with_reducible repeat (first | apply Kd.R_alloc | apply R_bytes | apply Kd.R_drewN | apply Kd.R_drew)); exact HO_3.out)); (case aS => exact (below_size (by repeat (first | (with_reducible first | exact HB.out | apply below_alloc | apply pw_below_drewN | apply below_drew1 | apply bytes_below1 | refine below_set ?_ GE445.out) | exact HB.out)))); (case aL => have := LMc10.out; omega); intro v447 w12 ho hb hg hat; rw [← Ny446.out] at ho; have n0_ := Aside0.mk (blk_grown (g := gb445) (o := .cells #[.int .i64 ((rd_T43 l0 x8_1).f0),.string ((rd_T43 l0 x8_1).f1),.int .i64 ((rd_T43 l0 x8_1).f2)] 43 (0,0)) (by (with_reducible repeat (first | refine blk_bytes ?_ _ _ | refine blk_drewN ?_ _ | refine blk_drew ?_ | refine blk_alloc ?_ _)); exact BK445.out) hg (Kd.R_ne HO_3.out BK445.out (by decide))); have n1_ := Aside0.mk (hb); have n2_ := Aside0.mk (ho); clear BK445; clear HB; clear HO_3; have BK445 := n0_; have HB := n1_; have HO448 := n2_; clear n0_ n1_ n2_; clear ho hb hg hat))
               go_roundg kj4
               case measure => have := HK1.out; have := HJ4.out; omega
               case rel => exact ⟨(y446),(wrap64 (x8_1 + 1)),(by first | rfl | (simp; done) | (simp [*]; done)),H',⟨by have := HK1.out; have := HJ4.out; omega⟩,⟨by (with_reducible repeat (first | apply Kd.R_alloc | apply R_bytes | apply Kd.R_drewN | apply Kd.R_drew)); exact HO448.out⟩,⟨by repeat (first | (with_reducible first | exact HB.out | apply below_alloc | apply pw_below_drewN | apply below_drew1 | apply bytes_below1 | refine below_set ?_ GE445.out) | exact HB.out)⟩⟩
             · rw [if_neg c10] at H
               exact absurd H (by simp)
           · replace c9 := Bool.eq_false_iff.mpr c9
             subst c9
             have H1 : (if ((rd_T43 l0 x8_1).f0) = 2 then ((chars_Text.f ((rd_T43 l0 x8_1).f2)).bind fun t449 => (if x3_1.length < 8796093022208 then (lexer_Spell.l0 kj4 (x3_1 ++ [t449]) l0 (l0.length : Int) (wrap64 (x8_1 + 1))) else (none))) else (if ((rd_T43 l0 x8_1).f0) = 3 then ((value_Text.f ((rd_T43 l0 x8_1).f1)).bind fun bt453 => ((value_Print.f bt453.1 bt453.2.1 bt453.2.2.1 bt453.2.2.2).bind fun t457 => (if x3_1.length < 8796093022208 then (lexer_Spell.l0 kj4 (x3_1 ++ [t457]) l0 (l0.length : Int) (wrap64 (x8_1 + 1))) else (none)))) else (lexer_Spell.l0 kj4 x3_1 l0 (l0.length : Int) (wrap64 (x8_1 + 1))))) = some r := by rw [if_neg (show ¬ (false = true) by decide)] at H; exact H
             clear H
             have H := H1
             clear H1
             by_cases c13 : ((rd_T43 l0 x8_1).f0) = 2
             · rw [if_pos c13] at H
               have c13b0 : (((rd_T43 l0 x8_1).f0) == 2) = true := beq_iff_eq.mpr c13
               have c13b1 : (((rd_T43 l0 x8_1).f0) != 2) = false := bne_eq_false_iff_eq.mpr c13
               clear c13
               replace H := Option.bind_eq_some_iff.mp H
               obtain ⟨t449,A140,H⟩ := H
               replace H : (if x3_1.length < 8796093022208 then (lexer_Spell.l0 kj4 (x3_1 ++ [t449]) l0 (l0.length : Int) (wrap64 (x8_1 + 1))) else (none)) = some r := H
               have A14 := Aside0.mk A140
               clear A140
               by_cases c15 : x3_1.length < 8796093022208
               · rw [if_pos c15] at H
                 have LMc15 := Aside0.mk c15
                 clear c15
                 obtain ⟨y450,hy450⟩ : ∃ y_ : List ByteArray,y_ = (x3_1 ++ [t449]) := ⟨_,rfl⟩
                 replace H : (lexer_Spell.l0 kj4 y450 l0 (l0.length : Int) (wrap64 (x8_1 + 1))) = some r := by first | (rw [hy450]; with_reducible exact H) | (have H2_ := (Option.bind_some _ _).symm.trans H; rw [hy450]; with_reducible exact H2_) | (have H2_ := (Option.bind_some _ _).symm.trans H; with_reducible exact H2_) | with_reducible exact H | (rw [hy450]; exact H) | exact H
                 have Ny450 := Aside0.mk hy450
                 clear hy450
                 have H' := Aside0.mk H
                 clear H
                 have hcz16_0 : wc.cell? ⟨gb445,0,none⟩ = some (.int .i64 ((rd_T43 l0 x8_1).f0)) := (blk_cell BK445.out 0).trans rfl
                 have hcz16_1 : wc.cell? ⟨gb445,1,none⟩ = some (.string ((rd_T43 l0 x8_1).f1)) := (blk_cell BK445.out 1).trans rfl
                 have hcz16_2 : wc.cell? ⟨gb445,2,none⟩ = some (.int .i64 ((rd_T43 l0 x8_1).f2)) := (blk_cell BK445.out 2).trans rfl
                 have hfz16_0 := blk_frozen BK445.out 0
                 have hfz16_1 := blk_frozen BK445.out 1
                 have hfz16_2 := blk_frozen BK445.out 2
                 go_wp2_with (first | ((with_reducible refine gate_callee (f := 34) rfl ?_); refine goesL_ (some 27) rfl rfl Tryz.func34 (by kernel_rfl) rfl #[.int .i64 ((rd_T43 l0 x8_1).f2)] rfl (by (try simp only [List.map_toArray,List.map_cons,List.map_nil]); first | done | rfl | (simp only [List.length_drop,List.length_take]; rfl)) ?_; (with_reducible refine (chars_Text.calls ((rd_T43 l0 x8_1).f2) t449 _ A14.out).mono ?_); rintro e w17 ⟨rfl,hb⟩; refine ⟨_,rfl,?_⟩; have n0_ := Aside0.mk (Kd.R_below (by (with_reducible repeat (first | apply Kd.R_alloc | apply R_bytes | apply Kd.R_drewN | apply Kd.R_drew)); exact HO_3.out) hb); have n1_ := Aside0.mk (blk_below (g := gb445) (o := .cells #[.int .i64 ((rd_T43 l0 x8_1).f0),.string ((rd_T43 l0 x8_1).f1),.int .i64 ((rd_T43 l0 x8_1).f2)] 43 (0,0)) (by (with_reducible repeat (first | refine blk_bytes ?_ _ _ | refine blk_drewN ?_ _ | refine blk_drew ?_ | refine blk_alloc ?_ _)); exact BK445.out) hb); have n2_ := Aside0.mk (below_step (by repeat (first | (with_reducible first | exact HB.out | apply below_alloc | apply pw_below_drewN | apply below_drew1 | apply bytes_below1 | refine below_set ?_ GE445.out) | exact HB.out)) hb); clear HO_3; clear BK445; clear HB; have HO_3 := n0_; have BK445 := n1_; have HB := n2_; clear n0_ n1_ n2_; (try clear hb); (try clear hb2); (try clear hk); (try clear hi)) | ((with_reducible refine gate_builtin (b := .append) (xs := #[.tmp 24,.tmp 28]) rfl ?_); at_builtin; refine Kd.R_append Kd.string (w0 := w) w.heap.size rfl (.tmp 24) (.tmp 28) 61 9 (.string ⟨#[]⟩) 16 rfl Tryz.underlying61 info9 rfl (by decide) (by omega) u3 x3_1 t449 [.string t449] (fun _ => True) (fun _ => False) rfl rfl ?aP (fun _ hk => hk.elim) ?aF ?aO ?aB ?aS ?aL ?_; (case aP => exact rfl); (case aB => exact (by repeat (first | (with_reducible first | exact HB.out | apply below_alloc | apply pw_below_drewN | apply below_drew1 | apply bytes_below1 | refine below_set ?_ GE445.out) | exact HB.out))); (case aF => exact (fun _ _ => trivial)); (case aO => exact (by (with_reducible repeat (first | apply Kd.R_alloc | apply R_bytes | apply Kd.R_drewN | apply Kd.R_drew)); exact HO_3.out)); (case aS => exact (below_size (by repeat (first | (with_reducible first | exact HB.out | apply below_alloc | apply pw_below_drewN | apply below_drew1 | apply bytes_below1 | refine below_set ?_ GE445.out) | exact HB.out)))); (case aL => have := LMc15.out; omega); intro v451 w18 ho hb hg hat; rw [← Ny450.out] at ho; have n0_ := Aside0.mk (blk_grown (g := gb445) (o := .cells #[.int .i64 ((rd_T43 l0 x8_1).f0),.string ((rd_T43 l0 x8_1).f1),.int .i64 ((rd_T43 l0 x8_1).f2)] 43 (0,0)) (by (with_reducible repeat (first | refine blk_bytes ?_ _ _ | refine blk_drewN ?_ _ | refine blk_drew ?_ | refine blk_alloc ?_ _)); exact BK445.out) hg (Kd.R_ne HO_3.out BK445.out (by decide))); have n1_ := Aside0.mk (hb); have n2_ := Aside0.mk (ho); clear BK445; clear HB; clear HO_3; have BK445 := n0_; have HB := n1_; have HO452 := n2_; clear n0_ n1_ n2_; clear ho hb hg hat))
                 go_roundg kj4
                 case measure => have := HK1.out; have := HJ4.out; omega
                 case rel => exact ⟨(y450),(wrap64 (x8_1 + 1)),(by first | rfl | (simp; done) | (simp [*]; done)),H',⟨by have := HK1.out; have := HJ4.out; omega⟩,⟨by (with_reducible repeat (first | apply Kd.R_alloc | apply R_bytes | apply Kd.R_drewN | apply Kd.R_drew)); exact HO452.out⟩,⟨by repeat (first | (with_reducible first | exact HB.out | apply below_alloc | apply pw_below_drewN | apply below_drew1 | apply bytes_below1 | refine below_set ?_ GE445.out) | exact HB.out)⟩⟩
               · rw [if_neg c15] at H
                 exact absurd H (by simp)
             · rw [if_neg c13] at H
               have c13b0 : (((rd_T43 l0 x8_1).f0) == 2) = false := beq_eq_false_iff_ne.mpr c13
               have c13b1 : (((rd_T43 l0 x8_1).f0) != 2) = true := bne_iff_ne.mpr c13
               by_cases c19 : ((rd_T43 l0 x8_1).f0) = 3
               · rw [if_pos c19] at H
                 have c19b0 : (((rd_T43 l0 x8_1).f0) == 3) = true := beq_iff_eq.mpr c19
                 have c19b1 : (((rd_T43 l0 x8_1).f0) != 3) = false := bne_eq_false_iff_eq.mpr c19
                 clear c19
                 replace H := Option.bind_eq_some_iff.mp H
                 obtain ⟨⟨t453,t454,t455,t456⟩,A200,H⟩ := H
                 replace H : ((value_Print.f t453 t454 t455 t456).bind fun t457 => (if x3_1.length < 8796093022208 then (lexer_Spell.l0 kj4 (x3_1 ++ [t457]) l0 (l0.length : Int) (wrap64 (x8_1 + 1))) else (none))) = some r := H
                 have A20 := Aside0.mk A200
                 clear A200
                 replace H := Option.bind_eq_some_iff.mp H
                 obtain ⟨t457,A210,H⟩ := H
                 replace H : (if x3_1.length < 8796093022208 then (lexer_Spell.l0 kj4 (x3_1 ++ [t457]) l0 (l0.length : Int) (wrap64 (x8_1 + 1))) else (none)) = some r := H
                 have A21 := Aside0.mk A210
                 clear A210
                 by_cases c22 : x3_1.length < 8796093022208
                 · rw [if_pos c22] at H
                   have LMc22 := Aside0.mk c22
                   clear c22
                   obtain ⟨y458,hy458⟩ : ∃ y_ : List ByteArray,y_ = (x3_1 ++ [t457]) := ⟨_,rfl⟩
                   replace H : (lexer_Spell.l0 kj4 y458 l0 (l0.length : Int) (wrap64 (x8_1 + 1))) = some r := by first | (rw [hy458]; with_reducible exact H) | (have H2_ := (Option.bind_some _ _).symm.trans H; rw [hy458]; with_reducible exact H2_) | (have H2_ := (Option.bind_some _ _).symm.trans H; with_reducible exact H2_) | with_reducible exact H | (rw [hy458]; exact H) | exact H
                   have Ny458 := Aside0.mk hy458
                   clear hy458
                   have H' := Aside0.mk H
                   clear H
                   have hcz23_0 : wc.cell? ⟨gb445,0,none⟩ = some (.int .i64 ((rd_T43 l0 x8_1).f0)) := (blk_cell BK445.out 0).trans rfl
                   have hcz23_1 : wc.cell? ⟨gb445,1,none⟩ = some (.string ((rd_T43 l0 x8_1).f1)) := (blk_cell BK445.out 1).trans rfl
                   have hcz23_2 : wc.cell? ⟨gb445,2,none⟩ = some (.int .i64 ((rd_T43 l0 x8_1).f2)) := (blk_cell BK445.out 2).trans rfl
                   have hfz23_0 := blk_frozen BK445.out 0
                   have hfz23_1 := blk_frozen BK445.out 1
                   have hfz23_2 := blk_frozen BK445.out 2
                   go_wp2_with (first | ((with_reducible refine gate_callee (f := 10) rfl ?_); refine goesL_ (some 35) rfl rfl Tryz.func10 (by kernel_rfl) rfl #[.string ((rd_T43 l0 x8_1).f1)] rfl (by (try simp only [List.map_toArray,List.map_cons,List.map_nil]); first | done | rfl | (simp only [List.length_drop,List.length_take]; rfl)) ?_; (with_reducible refine (value_Text.calls ((rd_T43 l0 x8_1).f1) t453 t454 t455 t456 _ A20.out).mono ?_); rintro e w24 ⟨rfl,hb⟩; refine ⟨_,rfl,?_⟩; have n0_ := Aside0.mk (Kd.R_below (by (with_reducible repeat (first | apply Kd.R_alloc | apply R_bytes | apply Kd.R_drewN | apply Kd.R_drew)); exact HO_3.out) hb); have n1_ := Aside0.mk (blk_below (g := gb445) (o := .cells #[.int .i64 ((rd_T43 l0 x8_1).f0),.string ((rd_T43 l0 x8_1).f1),.int .i64 ((rd_T43 l0 x8_1).f2)] 43 (0,0)) (by (with_reducible repeat (first | refine blk_bytes ?_ _ _ | refine blk_drewN ?_ _ | refine blk_drew ?_ | refine blk_alloc ?_ _)); exact BK445.out) hb); have n2_ := Aside0.mk (below_step (by repeat (first | (with_reducible first | exact HB.out | apply below_alloc | apply pw_below_drewN | apply below_drew1 | apply bytes_below1 | refine below_set ?_ GE445.out) | exact HB.out)) hb); clear HO_3; clear BK445; clear HB; have HO_3 := n0_; have BK445 := n1_; have HB := n2_; clear n0_ n1_ n2_; (try clear hb); (try clear hb2); (try clear hk); (try clear hi)) | ((with_reducible refine gate_callee (f := 18) rfl ?_); refine goesL_ (some 36) rfl rfl Tryz.func18 (by kernel_rfl) rfl #[.agg #[.int .i64 t453,.int .i64 t454,.bool t455,.string t456]] rfl (by (try simp only [List.map_toArray,List.map_cons,List.map_nil]); first | done | rfl | (simp only [List.length_drop,List.length_take]; rfl)) ?_; (with_reducible refine (value_Print.calls t453 t454 t455 t456 t457 _ A21.out).mono ?_); rintro e w25 ⟨rfl,hb⟩; refine ⟨_,rfl,?_⟩; have n0_ := Aside0.mk (Kd.R_below (by (with_reducible repeat (first | apply Kd.R_alloc | apply R_bytes | apply Kd.R_drewN | apply Kd.R_drew)); exact HO_3.out) hb); have n1_ := Aside0.mk (blk_below (g := gb445) (o := .cells #[.int .i64 ((rd_T43 l0 x8_1).f0),.string ((rd_T43 l0 x8_1).f1),.int .i64 ((rd_T43 l0 x8_1).f2)] 43 (0,0)) (by (with_reducible repeat (first | refine blk_bytes ?_ _ _ | refine blk_drewN ?_ _ | refine blk_drew ?_ | refine blk_alloc ?_ _)); exact BK445.out) hb); have n2_ := Aside0.mk (below_step (by repeat (first | (with_reducible first | exact HB.out | apply below_alloc | apply pw_below_drewN | apply below_drew1 | apply bytes_below1 | refine below_set ?_ GE445.out) | exact HB.out)) hb); clear HO_3; clear BK445; clear HB; have HO_3 := n0_; have BK445 := n1_; have HB := n2_; clear n0_ n1_ n2_; (try clear hb); (try clear hb2); (try clear hk); (try clear hi)) | ((with_reducible refine gate_builtin (b := .append) (xs := #[.tmp 32,.tmp 37]) rfl ?_); at_builtin; refine Kd.R_append Kd.string (w0 := w) w.heap.size rfl (.tmp 32) (.tmp 37) 61 9 (.string ⟨#[]⟩) 16 rfl Tryz.underlying61 info9 rfl (by decide) (by omega) u3 x3_1 t457 [.string t457] (fun _ => True) (fun _ => False) rfl rfl ?aP (fun _ hk => hk.elim) ?aF ?aO ?aB ?aS ?aL ?_; (case aP => exact rfl); (case aB => exact (by repeat (first | (with_reducible first | exact HB.out | apply below_alloc | apply pw_below_drewN | apply below_drew1 | apply bytes_below1 | refine below_set ?_ GE445.out) | exact HB.out))); (case aF => exact (fun _ _ => trivial)); (case aO => exact (by (with_reducible repeat (first | apply Kd.R_alloc | apply R_bytes | apply Kd.R_drewN | apply Kd.R_drew)); exact HO_3.out)); (case aS => exact (below_size (by repeat (first | (with_reducible first | exact HB.out | apply below_alloc | apply pw_below_drewN | apply below_drew1 | apply bytes_below1 | refine below_set ?_ GE445.out) | exact HB.out)))); (case aL => have := LMc22.out; omega); intro v459 w26 ho hb hg hat; rw [← Ny458.out] at ho; have n0_ := Aside0.mk (blk_grown (g := gb445) (o := .cells #[.int .i64 ((rd_T43 l0 x8_1).f0),.string ((rd_T43 l0 x8_1).f1),.int .i64 ((rd_T43 l0 x8_1).f2)] 43 (0,0)) (by (with_reducible repeat (first | refine blk_bytes ?_ _ _ | refine blk_drewN ?_ _ | refine blk_drew ?_ | refine blk_alloc ?_ _)); exact BK445.out) hg (Kd.R_ne HO_3.out BK445.out (by decide))); have n1_ := Aside0.mk (hb); have n2_ := Aside0.mk (ho); clear BK445; clear HB; clear HO_3; have BK445 := n0_; have HB := n1_; have HO460 := n2_; clear n0_ n1_ n2_; clear ho hb hg hat))
                   go_roundg kj4
                   case measure => have := HK1.out; have := HJ4.out; omega
                   case rel => exact ⟨(y458),(wrap64 (x8_1 + 1)),(by first | rfl | (simp; done) | (simp [*]; done)),H',⟨by have := HK1.out; have := HJ4.out; omega⟩,⟨by (with_reducible repeat (first | apply Kd.R_alloc | apply R_bytes | apply Kd.R_drewN | apply Kd.R_drew)); exact HO460.out⟩,⟨by repeat (first | (with_reducible first | exact HB.out | apply below_alloc | apply pw_below_drewN | apply below_drew1 | apply bytes_below1 | refine below_set ?_ GE445.out) | exact HB.out)⟩⟩
                 · rw [if_neg c22] at H
                   exact absurd H (by simp)
               · rw [if_neg c19] at H
                 have c19b0 : (((rd_T43 l0 x8_1).f0) == 3) = false := beq_eq_false_iff_ne.mpr c19
                 have c19b1 : (((rd_T43 l0 x8_1).f0) != 3) = true := bne_iff_ne.mpr c19
                 have H' := Aside0.mk H
                 clear H
                 go_wp2
                 go_roundg kj4
                 case measure => have := HK1.out; have := HJ4.out; omega
                 case rel => exact ⟨(x3_1),(wrap64 (x8_1 + 1)),(by first | rfl | (simp; done) | (simp [*]; done)),H',⟨by have := HK1.out; have := HJ4.out; omega⟩,⟨by (with_reducible repeat (first | apply Kd.R_alloc | apply R_bytes | apply Kd.R_drewN | apply Kd.R_drew)); exact HO_3.out⟩,⟨by repeat (first | (with_reducible first | exact HB.out | apply below_alloc | apply pw_below_drewN | apply below_drew1 | apply bytes_below1 | refine below_set ?_ GE445.out) | exact HB.out)⟩⟩
       · rw [if_neg c4] at H
         exact absurd H (by simp)
     · rw [if_neg c3] at H
       exact absurd H (by simp)
   · rw [if_neg c2] at H
     have c2b0 : decide (x8_1 < (l0.length : Int)) = false := decide_eq_false c2
     clear c2
     replace H := Option.bind_eq_some_iff.mp H
     obtain ⟨t443,A270,H⟩ := H
     replace H : (some t443) = some r := H
     have A27 := Aside0.mk A270
     clear A270
     obtain rfl := Option.some.inj H
     obtain ⟨Ao28,co28,eo28⟩ := Kd.R_slice HO_3.out
     subst eo28
     go_wp2_with (first | ((with_reducible refine gate_callee (f := 44) rfl ?_); refine goesL_ (some 41) rfl rfl Tryz.func44 (by kernel_rfl) rfl #[.slice Ao28 x3_1.length co28,.string (⟨#[32]⟩ : ByteArray)] rfl (by (try simp only [List.map_toArray,List.map_cons,List.map_nil]); first | done | rfl | (simp only [List.length_drop,List.length_take]; rfl)) ?_; (with_reducible refine (strings_Join.calls _ _ x3_1 (⟨#[32]⟩ : ByteArray) t443 _ ?side1 ?side2 A27.out).mono ?_); (case side1 => repeat (first | exact (Kd.R_reads' HO_3.out).2.2 | (with_reducible refine Kd.C_alloc ?_ _) | (with_reducible refine C_bytes ?_ _ _) | (with_reducible refine Kd.C_drewN ?_ _) | (with_reducible refine Kd.C_drew ?_))); (case side2 => exact (Kd.R_reads' HO_3.out).2.1); rintro e w29 ⟨rfl,hb⟩; refine ⟨_,rfl,?_⟩; have n0_ := Aside0.mk (Kd.R_below (by (with_reducible repeat (first | apply Kd.R_alloc | apply R_bytes | apply Kd.R_drewN | apply Kd.R_drew)); exact HO_3.out) hb); have n1_ := Aside0.mk (below_step (by repeat (first | (with_reducible first | exact HB.out | apply below_alloc | apply pw_below_drewN | apply below_drew1 | apply bytes_below1) | exact HB.out)) hb); clear HO_3; clear HB; have HO_3 := n0_; have HB := n1_; clear n0_ n1_; (try clear hb); (try clear hb2); (try clear hk); (try clear hi)))
     go_ret
     exact ⟨by first | rfl | (simp [errW_none,errW_some] <;> rfl) | (simp [*,errW_none,errW_some] <;> rfl),by repeat (first | (with_reducible first | exact HB.out | apply below_alloc | apply pw_below_drewN | apply below_drew1 | apply bytes_below1) | exact HB.out)⟩
end
end Go.Proofs.YtifgpigicgaadaaGreatDoor.Q
end
section
/- The words of a text, spelt, are read as the same words. -/
set_option linter.unusedSimpArgs false
set_option linter.unusedVariables false
namespace Go.Proofs.YtifgpigicgaadaaGreatDoor.Back
open Go.RowKit Go.Proofs.YtifgpigicgaadaaGreatDoor.Q Go.Proofs.YtifgpigicgaadaaGreatDoorW.PrintWords Go.Proofs.YtifgpigicgaadaaGreatDoorW.PrintLast Go.Proofs.YtifgpigicgaadaaGreatDoorH Go.Proofs.YtifgpigicgaadaaGreatDoor.Chars Go.Proofs.YtifgpigicgaadaaGreatDoor.Values Go.Proofs.YtifgpigicgaadaaGreatDoor.Bytes Go.Proofs.YtifgpigicgaadaaGreatDoor.Num Go.Proofs.YtifgpigicgaadaaGreatDoor.Lex Go.Proofs.YtifgpigicgaadaaGreatDoor.Quoted Go.Proofs.YtifgpigicgaadaaGreatDoor.Words Go.Proofs.YtifgpigicgaadaaGreatDoor.Hand

abbrev Wd := S43
def stopW : Wd := ⟨0, ⟨#[]⟩, 0⟩
/-- Bytes that are the words ws, with blanks ahead of each. -/
inductive Lexes : List Int → List Wd → Prop
  | nil (l : List Int) : l.dropWhile blankV = [] → Lexes l []
  | cons (l m : List Int) (w : Wd) (n : Nat) (ws : List Wd) : l.dropWhile blankV = m → m ≠ [] → wordV m = some (w, n) → Lexes (m.drop n) ws → Lexes l (w :: ws)
theorem Lexes.blank {x : Int} {l : List Int} {ws : List Wd} (hx : blankV x = true) (h : Lexes l ws) : Lexes (x :: l) ws := by
  have e : (x :: l).dropWhile blankV = l.dropWhile blankV := by rw [List.dropWhile_cons, if_pos hx]
  cases h with
  | nil _ h => exact .nil _ (e.trans h)
  | cons _ m w n ws h h0 hw ht => exact .cons _ m w n ws (e.trans h) h0 hw ht
theorem drop_blank {l m : List Int} (h : l.dropWhile blankV = m) : m.dropWhile blankV = m := by
  subst h
  induction l with
  | nil => rfl
  | cons x t ih =>
    rw [List.dropWhile_cons]
    by_cases hx : blankV x = true
    · rw [if_pos hx]; exact ih
    · rw [if_neg hx, List.dropWhile_cons, if_neg hx]
theorem drop_suffix (p : Int → Bool) : ∀ l : List Int, ∃ q, l = q ++ l.dropWhile p
  | [] => ⟨[], rfl⟩
  | x :: t => by
    rw [List.dropWhile_cons]
    obtain ⟨q, hq⟩ := drop_suffix p t
    split
    · exact ⟨x :: q, by rw [List.cons_append, ← hq]⟩
    · exact ⟨[], rfl⟩
theorem Lexes.one {l : List Int} {ws vs : List Wd} (h : Lexes l ws) : Lexes l vs → ws = vs := by
  induction h generalizing vs with
  | nil l h =>
    intro g
    cases g with
    | nil => rfl
    | cons _ m w n ws e h0 => exact absurd (e.symm.trans h) h0
  | cons l m w n ws e h0 hw ht ih =>
    intro g
    cases g with
    | nil _ h => exact absurd (e.symm.trans h) h0
    | cons _ m' w' n' ws' e' h0' hw' ht' =>
      have hm : m = m' := e.symm.trans e'
      subst hm
      rw [hw] at hw'
      cases hw'
      rw [ih ht']
/-- The program's words are those. -/
theorem prog_at (s : ByteArray) (C : Nat) (hC : 3001 ≤ C) : ∀ (d k : Nat) (acc : List Wd) (rest : ByteArray) (l : List Int), bytesOf rest = l.dropWhile blankV → (bytesOf rest).length ≤ d → d ≤ 400 → acc.length + d ≤ 1000 → d + C ≤ k →
    ∃ r, lexer_Words.l0 k s acc rest = some r ∧ ((∃ ws, Lexes l ws ∧ r = (acc ++ ws ++ [stopW], 0, 0) ∧ ws.length ≤ d) ∨ (r.2.2 ≠ 0 ∧ ∀ ws, ¬ Lexes l ws)) := by
  intro d
  induction d using Nat.strongRecOn with
  | ind d ih =>
    intro k acc rest l hl hd hd4 hacc hk
    obtain ⟨m, rfl⟩ : ∃ m, k = m + 1 := ⟨k - 1, by omega⟩
    rw [lexer_Words.l0]
    cases hr : bytesOf rest with
    | nil =>
      rw [hr] at hl
      rw [if_pos (by rw [toList_iff, hr]; rfl), if_pos (by omega)]
      exact ⟨_, rfl, .inl ⟨[], .nil _ hl.symm, by rw [List.append_nil]; rfl, by simp⟩⟩
    | cons a t =>
      rw [if_neg (by rw [toList_iff, hr]; exact List.cons_ne_nil _ _)]
      rw [hr] at hl
      have hlen : (bytesOf rest).length = t.length + 1 := by rw [hr]; rfl
      obtain ⟨r1, hr1, hsay⟩ := word_spec rest a t hr (by omega) m (by omega)
      rw [hr1, Option.bind_some]
      rw [hr] at hsay
      cases hw : wordV (a :: t) with
      | none =>
        rw [if_pos (hsay.2 hw)]
        refine ⟨_, rfl, .inr ⟨(show (20 : Int) ≠ 0 from by decide), fun ws g => ?_⟩⟩
        cases g with
        | nil _ h => rw [← hl] at h; cases h
        | cons _ m' w' n' ws' e' h0' hw' ht' =>
          rw [← hl] at e'
          subst e'
          rw [hw] at hw'; cases hw'
      | some v =>
        obtain ⟨w, n⟩ := v
        have q1 := hsay.1 w n hw
        have hn := wordV_len (a :: t) (by rw [← hr]; exact bytes_of rest) (List.cons_ne_nil _ _) w n hw
        have hz := b_size rest
        have hn2 : n ≤ t.length + 1 := by simpa using hn.2
        subst q1
        simp only
        rw [if_neg (by omega), if_pos (by omega), if_pos (by omega), if_pos (by omega), Int.toNat_natCast]
        obtain ⟨r3, hr3, hb3⟩ := trim_spec (rest.extract n rest.size)
        rw [ext_all, hr] at hb3
        rw [hr3, Option.bind_some]
        have hl3 : (bytesOf r3).length ≤ d - n := by
          obtain ⟨q, hq⟩ := drop_suffix blankV ((a :: t).drop n)
          have := congrArg List.length hq
          rw [← hb3, List.length_append, List.length_drop, List.length_cons] at this
          omega
        obtain ⟨r, hres, hor⟩ := ih (d - n) (by omega) m (acc ++ [(⟨w.f0, w.f1, w.f2⟩ : Wd)]) r3 ((a :: t).drop n) hb3 hl3 (by omega) (by rw [List.length_append, List.length_singleton]; omega) (by omega)
        refine ⟨r, hres, ?_⟩
        rcases hor with ⟨ws, h1, h2, h3⟩ | ⟨h1, h2⟩
        · refine .inl ⟨w :: ws, .cons _ _ w n ws hl.symm (List.cons_ne_nil _ _) hw h1, ?_, by rw [List.length_cons]; omega⟩
          rw [h2]; simp
        · refine .inr ⟨h1, fun vs g => ?_⟩
          cases g with
          | nil _ h => rw [← hl] at h; cases h
          | cons _ m' w' n' ws' e' h0' hw' ht' =>
            rw [← hl] at e'
            subst e'
            rw [hw] at hw'; cases hw'
            exact h2 _ ht'
theorem prog_words (s : ByteArray) (k : Nat) (hk : 4000 ≤ k) : ∃ r, lexer_Words.f k s = some r ∧
    ((400 < s.size ∧ r.2.2 = 4) ∨ (s.size ≤ 400 ∧ ∃ ws, Lexes (bytesOf s) ws ∧ r = (ws ++ [stopW], 0, 0) ∧ ws.length ≤ 400) ∨ (s.size ≤ 400 ∧ r.2.2 ≠ 0 ∧ ∀ ws, ¬ Lexes (bytesOf s) ws)) := by
  have hz := b_size s
  unfold lexer_Words.f
  by_cases h : 400 < s.size
  · rw [if_pos (by omega)]
    exact ⟨_, rfl, .inl ⟨h, rfl⟩⟩
  · rw [if_neg (by omega)]
    obtain ⟨r, hr, hb⟩ := trim_spec s
    have hl : (bytesOf r).length ≤ 400 := by
      obtain ⟨q, hq⟩ := drop_suffix blankV (bytesOf s)
      have := congrArg List.length hq
      rw [← hb, List.length_append] at this
      omega
    rw [hr, Option.bind_some]
    obtain ⟨x, hx, hor⟩ := prog_at s 3001 (Nat.le_refl _) 400 k [] r (bytesOf s) hb hl (Nat.le_refl _) (by simp) (by omega)
    refine ⟨x, hx, .inr ?_⟩
    rcases hor with ⟨ws, h1, h2, h3⟩ | ⟨h1, h2⟩
    · exact .inl ⟨by omega, ws, h1, by simpa using h2, h3⟩
    · exact .inr ⟨by omega, h1, h2⟩

/-! ## A word's text -/
def spellB (w : Wd) : List Int := if w.f0 = 2 then textOf w.f2 else if w.f0 = 3 then 34 :: (esc (bytesOf w.f1) ++ [34]) else bytesOf w.f1
def joinL : List (List Int) → List Int
  | [] => []
  | [x] => x
  | x :: y :: r => x ++ 32 :: joinL (y :: r)
/-- What stands behind a word: nothing, or a blank. -/
def Tail (T : List Int) : Prop := ∀ x t, T = x :: t → blankV x = true
theorem blank_no {x : Int} (h : blankV x = true) : nameP x = false ∧ digitV x = false ∧ letterV x = false := by
  have hx : x = 32 ∨ x = 9 ∨ x = 10 ∨ x = 13 := by
    unfold blankV at h; simpa [or_assoc] using h
  rcases hx with rfl | rfl | rfl | rfl <;> exact ⟨rfl, rfl, rfl⟩
theorem while_tail (p : Int → Bool) (l T : List Int) (hl : ∀ x ∈ l, p x = true) (hT : ∀ x t, T = x :: t → p x = false) : (l ++ T).takeWhile p = l := by
  induction l with
  | nil =>
    cases T with
    | nil => rfl
    | cons x t => rw [List.nil_append, List.takeWhile_cons, if_neg (by rw [hT x t rfl]; decide)]
  | cons a l ih =>
    rw [List.cons_append, List.takeWhile_cons, if_pos (hl a (by simp)), ih (fun x hx => hl x (by simp [hx]))]
theorem while_mem (p : Int → Bool) (l : List Int) : ∀ x ∈ l.takeWhile p, p x = true := by
  induction l with
  | nil => intro x hx; cases hx
  | cons a t ih =>
    rw [List.takeWhile_cons]
    split
    · intro x hx
      rcases List.mem_cons.1 hx with rfl | hx
      · assumption
      · exact ih x hx
    · intro x hx; cases hx
theorem scan_back : ∀ (o T : List Int), scan (esc o ++ 34 :: T) = some (o, (esc o).length + 1) := by
  intro o T
  induction o with
  | nil => exact scan_quote T
  | cons x o ih =>
    have e : esc (x :: o) = escB x ++ esc o := rfl
    rw [e, List.append_assoc, List.length_append]
    unfold escB
    by_cases h1 : x = 34
    · rw [if_pos h1, h1]
      show scan (92 :: 34 :: (esc o ++ 34 :: T)) = _
      rw [scan_esc, if_pos (.inl rfl), ih]
      simp; omega
    · rw [if_neg h1]
      by_cases h2 : x = 92
      · rw [if_pos h2, h2]
        show scan (92 :: 92 :: (esc o ++ 34 :: T)) = _
        rw [scan_esc, if_pos (.inr rfl), ih]
        simp; omega
      · rw [if_neg h2]
        show scan (x :: (esc o ++ 34 :: T)) = _
        rw [scan_plain x _ h1 h2, ih]
        simp; omega
theorem val_pos : ∀ (l : List Int) (a : Int), Digits l → 1 ≤ a → a ≤ l.foldl (fun a x => 10 * a + (x - 48)) a := by
  intro l
  induction l with
  | nil => intro a _ _; exact Int.le_refl _
  | cons z l ih =>
    intro a hd h
    rw [List.foldl_cons]
    have := hd z (by simp)
    have := ih (10 * a + (z - 48)) (fun w hw => hd w (by simp [hw])) (by omega)
    omega
/-- A number's digits, as it is told. -/
theorem dec_back : ∀ (f : Nat) (l : List Int), l ≠ [] → Digits l → (l.getD 0 0 = 48 → l.length = 1) → l.length ≤ f → dec10 f (val l).natAbs = l := by
  intro f
  induction f with
  | zero => intro l h0 _ _ hf; exact absurd (List.length_eq_zero_iff.1 (by omega)) h0
  | succ f ih =>
    intro l h0 hd hz hf
    rcases List.eq_nil_or_concat l with rfl | ⟨m, x, rfl⟩
    · exact absurd rfl h0
    · rw [List.concat_eq_append] at *
      have hx := hd x (by simp)
      rw [dec10, val_snoc]
      cases m with
      | nil =>
        have hv : val [] = 0 := rfl
        rw [hv, if_pos (by omega), List.nil_append, List.nil_append]
        congr 1; omega
      | cons y t =>
        have hdm : Digits (y :: t) := hd.left
        have hy := hdm y (by simp)
        have hy48 : y ≠ 48 := fun h => by have := hz (by rw [h]; rfl); simp at this
        have hv : 1 ≤ val (y :: t) := by
          have := val_pos t (10 * 0 + (y - 48)) (fun w hw => hdm w (by simp [hw])) (by omega)
          have e : val (y :: t) = t.foldl (fun a x => 10 * a + (x - 48)) (10 * 0 + (y - 48)) := rfl
          omega
        have hlen : (y :: t).length ≤ f := by simp at hf ⊢; omega
        have hr := ih (y :: t) (by simp) hdm (fun h => absurd h hy48) hlen
        rw [if_neg (by omega), show (10 * val (y :: t) + (x - 48)).natAbs / 10 = (val (y :: t)).natAbs from by omega, hr]
        congr 2; omega
/-- What holds of a word that was read, whatever stands behind its text. -/
structure Good1 (w : Wd) : Prop where
  len : (spellB w).length ≤ 1000
  ne : spellB w ≠ []
  head : ∀ x t, spellB w = x :: t → blankV x = false
  back : ∀ T, Tail T → wordV (spellB w ++ T) = some (w, (spellB w).length)
  kind : w.f0 = 1 ∨ w.f0 = 4 ∨ w.f0 = 2 ∨ w.f0 = 3
  range : -9223372036854775808 ≤ w.f2 ∧ w.f2 ≤ 9223372036854775807
  size : w.f1.size ≤ 1000
  bytes : Bytes (spellB w)
theorem good_name (m : List Int) (hb : Bytes m) (hl : m.length ≤ 400) (h : letterV (m.getD 0 0) = true) : Good1 ⟨1, strOfNums (m.takeWhile nameP), 0⟩ := by
  cases m with
  | nil => exact absurd h (by decide)
  | cons a t =>
    rw [List.getD_cons_zero] at h
    have hn : nameP a = true := by unfold nameP; rw [h]; rfl
    have hp : (a :: t).takeWhile nameP = a :: t.takeWhile nameP := List.takeWhile_cons_of_pos hn
    have hle := while_len nameP (a :: t)
    have hbb : bytesOf (strOfNums ((a :: t).takeWhile nameP)) = (a :: t).takeWhile nameP := b_str (fun x hx => hb x ((List.takeWhile_sublist _).subset hx))
    have hs : spellB ⟨1, strOfNums ((a :: t).takeWhile nameP), 0⟩ = (a :: t).takeWhile nameP := by
      unfold spellB
      rw [if_neg (show ¬ (1 : Int) = 2 by decide), if_neg (show ¬ (1 : Int) = 3 by decide)]
      exact hbb
    refine ⟨by rw [hs]; omega, by rw [hs, hp]; simp, ?_, ?_, .inl rfl, by simp, ?_, by rw [hs]; exact fun x hx => hb x ((List.takeWhile_sublist _).subset hx)⟩
    · intro x u hx
      rw [hs, hp] at hx
      obtain ⟨rfl, _⟩ := List.cons.inj hx
      by_cases hbl : blankV a = true
      · rw [(blank_no hbl).2.2] at h; cases h
      · simpa using hbl
    · intro T hT
      rw [hs]
      have hw := while_tail nameP ((a :: t).takeWhile nameP) T (while_mem nameP (a :: t)) (fun x u e => (blank_no (hT x u e)).1)
      unfold wordV
      rw [hw, if_pos]
      rw [hp]; exact h
    · show (strOfNums _).size ≤ 1000
      rw [str_size]; omega
theorem good_digits (m : List Int) (hl : m.length ≤ 400) (h : digitV (m.getD 0 0) = true) (hn : (numV (m.takeWhile digitV)).2 = 0) : Good1 ⟨2, ⟨#[]⟩, (numV (m.takeWhile digitV)).1⟩ := by
  cases m with
  | nil => exact absurd h (by decide)
  | cons a t =>
    rw [List.getD_cons_zero] at h
    have hp : (a :: t).takeWhile digitV = a :: t.takeWhile digitV := List.takeWhile_cons_of_pos h
    have hd := while_digits (a :: t)
    have hmem := while_mem digitV (a :: t)
    generalize (a :: t).takeWhile digitV = p at *
    have hpn : p ≠ [] := by rw [hp]; simp
    have hnum : ¬ (p.getD 0 0 = 48 ∧ 1 < p.length) ∧ p.length ≤ 19 ∧ val p ≤ 9223372036854775807 ∧ numV p = (val p, 0) := by
      unfold numV at hn ⊢
      by_cases h1 : p.getD 0 0 = 48 ∧ 1 < p.length
      · rw [if_pos h1] at hn; cases hn
      · rw [if_neg h1] at hn ⊢
        by_cases h2 : 19 < p.length
        · rw [if_pos h2] at hn; cases hn
        · rw [if_neg h2] at hn ⊢
          unfold endV at hn ⊢
          by_cases h3 : val p > 9223372036854775807
          · rw [if_pos h3] at hn; cases hn
          · rw [if_neg h3]
            exact ⟨h1, by omega, by omega, rfl⟩
    obtain ⟨h1, h2, h3, h4⟩ := hnum
    have hlp : 0 < p.length := List.length_pos_iff.2 hpn
    have hv := val_range p.length p rfl hd
    have hs : spellB ⟨2, ⟨#[]⟩, (numV p).1⟩ = p := by
      unfold spellB textOf
      rw [if_pos rfl, h4]
      show (if val p < 0 then [45] else []) ++ dec10 20 (val p).natAbs = p
      rw [if_neg (by omega), List.nil_append]
      exact dec_back 20 p hpn hd (fun x => by have := fun y => h1 ⟨x, y⟩; omega) (by omega)
    refine ⟨by rw [hs]; omega, by rw [hs]; exact hpn, ?_, ?_, .inr (.inr (.inl rfl)), ?_, Nat.zero_le _, by rw [hs]; exact fun x hx => by have := hd x hx; omega⟩
    · intro x u hx
      rw [hs, hp] at hx
      obtain ⟨rfl, _⟩ := List.cons.inj hx
      by_cases hbl : blankV a = true
      · rw [(blank_no hbl).2.1] at h; cases h
      · simpa using hbl
    · intro T hT
      rw [hs]
      have hw := while_tail digitV p T hmem (fun x u e => (blank_no (hT x u e)).2.1)
      have hg : (p ++ T).getD 0 0 = a := by rw [hp]; rfl
      have hnl : ¬ letterV a = true := by
        intro x; unfold letterV at x; unfold digitV at h; simp at x h; omega
      unfold wordV
      rw [hw, hg, if_neg hnl, if_pos h, if_pos (by rw [h4])]
    · show -9223372036854775808 ≤ (numV p).1 ∧ (numV p).1 ≤ 9223372036854775807
      rw [h4]; exact ⟨by omega, h3⟩
theorem esc_le (o : List Int) : (esc o).length ≤ 2 * o.length := by
  induction o with
  | nil => simp [esc]
  | cons x o ih =>
    have e : esc (x :: o) = escB x ++ esc o := rfl
    have : (escB x).length ≤ 2 := by unfold escB; split <;> (try split) <;> simp
    rw [e, List.length_append, List.length_cons]; omega
theorem esc_bytes {o : List Int} (h : Bytes o) : Bytes (esc o) := by
  intro x hx
  unfold esc at hx
  obtain ⟨y, hy, hxy⟩ := List.mem_flatMap.1 hx
  have := h y hy
  unfold escB at hxy
  split at hxy
  · have : x = 92 ∨ x = 34 := by simpa using hxy
    omega
  · split at hxy
    · have : x = 92 := by simpa using hxy
      omega
    · have : x = y := by simpa using hxy
      omega
theorem good_text (o : List Int) (hb : Bytes o) (hl : o.length ≤ 256) (hg : Lex.Good o) : Good1 ⟨3, strOfNums o, 0⟩ := by
  have hs : spellB ⟨3, strOfNums o, 0⟩ = 34 :: (esc o ++ [34]) := by
    unfold spellB
    rw [if_neg (show ¬ (3 : Int) = 2 by decide), if_pos rfl]
    show 34 :: (esc (bytesOf (strOfNums o)) ++ [34]) = _
    rw [b_str hb]
  have hle := esc_le o
  refine ⟨by rw [hs]; simp; omega, by rw [hs]; simp, ?_, ?_, .inr (.inr (.inr rfl)), by simp, ?_, ?_⟩
  · intro x u hx
    rw [hs] at hx
    obtain ⟨rfl, _⟩ := List.cons.inj hx
    rfl
  · intro T _
    rw [hs]
    have e : 34 :: (esc o ++ [34]) ++ T = 34 :: (esc o ++ 34 :: T) := by simp
    unfold wordV
    rw [e, List.getD_cons_zero, if_neg (by decide), if_neg (by decide), if_pos rfl, List.drop_succ_cons, List.drop_zero, scan_back]
    unfold textV
    simp only
    rw [if_neg (fun x => x.elim (fun y => by omega) (fun y => y hg))]
    simp
  · show (strOfNums _).size ≤ 1000
    rw [str_size]; omega
  · rw [hs]
    intro x hx
    have : x = 34 ∨ x ∈ esc o := by simpa [or_comm, or_left_comm] using hx
    rcases this with rfl | h
    · omega
    · exact esc_bytes hb x h
theorem good_sign (m : List Int) (hb : Bytes m) (h : m ≠ []) (h0 : signV m ≠ 0) : Good1 ⟨4, strOfNums (m.take (signV m)), 0⟩ := by
  have main : ∀ p : List Int, Bytes p → p ≠ [] → p.length ≤ 2 → (∀ T, Tail T → wordV (p ++ T) = some (⟨4, strOfNums p, 0⟩, p.length)) → (∀ x t, p = x :: t → blankV x = false) → Good1 ⟨4, strOfNums p, 0⟩ := by
    intro p hpb hp hp2 hw hh
    have hs : spellB ⟨4, strOfNums p, 0⟩ = p := by
      unfold spellB
      rw [if_neg (show ¬ (4 : Int) = 2 by decide), if_neg (show ¬ (4 : Int) = 3 by decide)]
      exact b_str hpb
    refine ⟨by rw [hs]; omega, by rw [hs]; exact hp, by rw [hs]; exact hh, ?_, .inr (.inl rfl), by simp, ?_, by rw [hs]; exact hpb⟩
    · intro T hT; rw [hs]; exact hw T hT
    · show (strOfNums _).size ≤ 1000
      rw [str_size]; omega
  cases m with
  | nil => exact absurd rfl h
  | cons a t =>
    by_cases h2 : TWO.contains ((a :: t).take 2) = true
    · have e : signV (a :: t) = 2 := by unfold signV; rw [if_pos h2]
      rw [e]
      cases t with
      | nil => simp [TWO] at h2
      | cons b u =>
        rw [List.take_succ_cons, List.take_succ_cons, List.take_zero] at h2 ⊢
        have hab : (a = 60 ∧ b = 61) ∨ (a = 62 ∧ b = 61) ∨ (a = 33 ∧ b = 61) := by simpa [TWO] using h2
        refine main [a, b] (fun x hx => hb x (by simp at hx ⊢; rcases hx with h | h <;> simp [h])) (by simp) (by simp) ?_ ?_
        · intro T _
          rcases hab with ⟨rfl, rfl⟩ | ⟨rfl, rfl⟩ | ⟨rfl, rfl⟩ <;> rfl
        · intro x u hx
          obtain ⟨rfl, _⟩ := List.cons.inj hx
          rcases hab with ⟨rfl, _⟩ | ⟨rfl, _⟩ | ⟨rfl, _⟩ <;> rfl
    · have h1 : ONE.contains a = true := by
        by_cases h1 : ONE.contains a = true
        · exact h1
        · exact absurd (by unfold signV; rw [if_neg h2, List.getD_cons_zero, if_neg h1]) h0
      have e : signV (a :: t) = 1 := by unfold signV; rw [if_neg h2, List.getD_cons_zero, if_pos h1]
      rw [e, List.take_succ_cons, List.take_zero]
      have ha := (one_iff a).1 h1
      refine main [a] (fun x hx => hb x (by simp at hx; simp [hx])) (by simp) (by simp) ?_ ?_
      · intro T hT
        have h3 : ¬ TWO.contains ((a :: T).take 2) = true := by
          cases T with
          | nil => simp [TWO]
          | cons x u =>
            have hx : x = 32 ∨ x = 9 ∨ x = 10 ∨ x = 13 := by have := hT x u rfl; unfold blankV at this; simpa [or_assoc] using this
            rcases hx with rfl | rfl | rfl | rfl <;> simp [TWO]
        have hs1 : signV (a :: T) = 1 := by unfold signV; rw [if_neg h3, List.getD_cons_zero, if_pos h1]
        have hf : letterV a = false ∧ digitV a = false ∧ a ≠ 34 := by
          rcases ha with rfl | rfl | rfl | rfl | rfl | rfl | rfl | rfl | rfl | rfl | rfl | rfl <;> exact ⟨rfl, rfl, by decide⟩
        unfold wordV
        rw [List.singleton_append, List.getD_cons_zero, hs1, if_neg (by rw [hf.1]; decide), if_neg (by rw [hf.2.1]; decide), if_neg hf.2.2, if_neg (by decide)]
        rfl
      · intro x u hx
        obtain ⟨rfl, _⟩ := List.cons.inj hx
        rcases ha with rfl | rfl | rfl | rfl | rfl | rfl | rfl | rfl | rfl | rfl | rfl | rfl <;> rfl
theorem good_word (m : List Int) (hb : Bytes m) (h : m ≠ []) (hl : m.length ≤ 400) (w : Wd) (n : Nat) (hw : wordV m = some (w, n)) : Good1 w := by
  unfold wordV at hw
  by_cases h1 : letterV (m.getD 0 0) = true
  · rw [if_pos h1] at hw; cases hw; exact good_name m hb hl h1
  · rw [if_neg h1] at hw
    by_cases h2 : digitV (m.getD 0 0) = true
    · rw [if_pos h2] at hw
      by_cases h3 : (numV (m.takeWhile digitV)).2 = 0
      · rw [if_pos h3] at hw; cases hw; exact good_digits m hl h2 h3
      · rw [if_neg h3] at hw; cases hw
    · rw [if_neg h2] at hw
      by_cases h3 : m.getD 0 0 = 34
      · rw [if_pos h3] at hw
        cases hs : scan (m.drop 1) with
        | none => rw [hs] at hw; cases hw
        | some r =>
          obtain ⟨o, q⟩ := r
          rw [hs] at hw
          unfold textV at hw
          simp only at hw
          have hso := scan_bytes _ _ rfl (hb.drop 1) o q hs
          by_cases h4 : 256 < o.length ∨ ¬ Lex.Good o
          · rw [if_pos h4] at hw; cases hw
          · rw [if_neg h4] at hw; cases hw
            have h5 : o.length ≤ 256 := by
              by_cases hx : 256 < o.length
              · exact absurd (.inl hx) h4
              · omega
            have h6 : Lex.Good o := by
              by_cases hx : Lex.Good o
              · exact hx
              · exact absurd (.inr hx) h4
            exact good_text o hso.1 h5 h6
      · rw [if_neg h3] at hw
        by_cases h4 : signV m = 0
        · rw [if_pos h4] at hw; cases hw
        · rw [if_neg h4] at hw; cases hw; exact good_sign m hb h h4
theorem lexes_good {l : List Int} {ws : List Wd} (h : Lexes l ws) (hb : Bytes l) (hl : l.length ≤ 400) : ∀ w ∈ ws, Good1 w := by
  induction h with
  | nil l _ => intro w hw; cases hw
  | cons l m w n ws e h0 hw ht ih =>
    obtain ⟨q, hq⟩ := drop_suffix blankV l
    rw [e] at hq
    have hmb : Bytes m := fun x hx => hb x (by rw [hq]; simp [hx])
    have hml : m.length ≤ 400 := by rw [hq, List.length_append] at hl; omega
    intro v hv
    rcases List.mem_cons.1 hv with rfl | hv
    · exact good_word m hmb h0 hml v n hw
    · exact ih (hmb.drop n) (by rw [List.length_drop]; omega) v hv

/-! ## Spelt words are read -/
theorem lexes_blanks (T : List Int) (hT : ∀ x ∈ T, blankV x = true) : Lexes T [] := by
  induction T with
  | nil => exact .nil _ rfl
  | cons x t ih => exact (ih fun y hy => hT y (by simp [hy])).blank (hT x (by simp))
theorem lexes_join (T : List Int) (hT : ∀ x ∈ T, blankV x = true) : ∀ ws : List Wd, (∀ w ∈ ws, Good1 w) → Lexes (joinL (ws.map spellB) ++ T) ws := by
  have head : ∀ (w : Wd) (R : List Int), Good1 w → Tail R → ∀ vs, Lexes R vs → Lexes (spellB w ++ R) (w :: vs) := by
    intro w R g hR vs hv
    refine .cons _ (spellB w ++ R) w (spellB w).length vs ?_ ?_ (g.back R hR) ?_
    · obtain ⟨x, t, hx⟩ := List.exists_cons_of_ne_nil g.ne
      rw [hx, List.cons_append, List.dropWhile_cons, if_neg (by rw [g.head x t hx]; decide)]
    · intro e; exact g.ne (List.append_eq_nil_iff.1 e).1
    · rw [List.drop_left]; exact hv
  intro ws
  induction ws with
  | nil => intro _; exact lexes_blanks T hT
  | cons w ws ih =>
    intro hg
    cases ws with
    | nil => exact head w T (hg w (by simp)) (fun x t e => hT x (by rw [e]; simp)) [] (lexes_blanks T hT)
    | cons v vs =>
      have hi := ih fun u hu => hg u (by simp [hu])
      have e : joinL ((w :: v :: vs).map spellB) ++ T = spellB w ++ (32 :: (joinL ((v :: vs).map spellB) ++ T)) := by
        show (spellB w ++ 32 :: joinL (spellB v :: vs.map spellB)) ++ T = _
        rw [List.append_assoc, List.cons_append]; rfl
      rw [e]
      exact head w _ (hg w (by simp)) (fun x t e => by obtain ⟨rfl, _⟩ := List.cons.inj e; rfl) _ (hi.blank rfl)
theorem joinL_len : ∀ ws : List (List Int), (∀ x ∈ ws, x.length ≤ 1000) → (joinL ws).length ≤ 1001 * ws.length
  | [], _ => by simp [joinL]
  | [x], h => by have := h x (by simp); simp [joinL]; omega
  | x :: y :: r, h => by
    have := h x (by simp)
    have ih := joinL_len (y :: r) (fun z hz => h z (by simp [hz]))
    rw [joinL, List.length_append, List.length_cons]
    simp only [List.length_cons] at ih ⊢
    omega

/-! ## Spelling -/
def spellS (w : Wd) : ByteArray := strOfNums (spellB w)
theorem str_cat (l m : List Int) : strOfNums (l ++ m) = strOfNums l ++ strOfNums m := by
  apply ByteArray.ext
  rw [ByteArray.data_append]
  unfold strOfNums
  apply Array.toList_inj.1
  simp
theorem str_b (s : ByteArray) : strOfNums (bytesOf s) = s := b_inj (b_str (bytes_of s))
theorem quote_is (s : ByteArray) : quoteV s = strOfNums (34 :: (esc (bytesOf s) ++ [34])) := by
  have e : 34 :: (esc (bytesOf s) ++ [34]) = [34] ++ esc (bytesOf s) ++ [34] := by simp
  rw [e, str_cat, str_cat]; rfl
theorem rd_left (ws : List Wd) (i : Nat) (h : i < ws.length) : rd_T43 (ws ++ [stopW]) (i : Int) = ws[i] := by
  unfold rd_T43
  rw [Int.toNat_natCast, List.getD_eq_getElem?_getD, List.getElem?_append_left h, List.getElem?_eq_getElem h]; rfl
theorem rd_end (ws : List Wd) : rd_T43 (ws ++ [stopW]) (ws.length : Int) = stopW := by
  unfold rd_T43
  rw [Int.toNat_natCast, List.getD_eq_getElem?_getD, List.getElem?_append_right (Nat.le_refl _), Nat.sub_self]; rfl
theorem drop_consW {l : List Wd} {i : Nat} (h : i < l.length) : l.drop i = l[i] :: l.drop (i + 1) := List.drop_eq_getElem_cons h
theorem spell_at (ws : List Wd) (hg : ∀ w ∈ ws, Good1 w) (hl : ws.length ≤ 400) : ∀ (d i k : Nat) (acc : List ByteArray), i + d = ws.length → acc.length ≤ i →
    lexer_Spell.l0 (k + 2 * d + 3) acc (ws ++ [stopW]) ((ws.length + 1 : Nat) : Int) (i : Int) = (strings_Join.f (acc ++ (ws.drop i).map spellS) ⟨#[32]⟩).bind fun t => some t := by
  have hL : (ws ++ [stopW]).length = ws.length + 1 := by simp
  intro d
  induction d with
  | zero =>
    intro i k acc hi ha
    have hi' : i = ws.length := by omega
    subst hi'
    have e2 : wrap64 ((ws.length : Int) + 1) = ((ws.length + 1 : Nat) : Int) := by rw [w64' _ (by omega) (by omega)]; omega
    rw [show k + 2 * 0 + 3 = (k + 2) + 1 from rfl, lexer_Spell.l0, if_pos (by omega), if_pos (by omega), if_pos (by rw [hL]; omega), rd_end, if_neg (show ¬ stopW.f0 = 1 by decide), lexer_Spell.j1, if_neg (show ¬ (stopW.f0 == 4) = true by decide), if_neg (show ¬ stopW.f0 = 2 by decide), if_neg (show ¬ stopW.f0 = 3 by decide), e2, lexer_Spell.l0, if_neg (by omega), List.drop_of_length_le (Nat.le_refl _), List.map_nil, List.append_nil]
  | succ d ih =>
    intro i k acc hi ha
    have hlt : i < ws.length := by omega
    have e2 : wrap64 ((i : Int) + 1) = ((i + 1 : Nat) : Int) := by rw [w64' _ (by omega) (by omega)]; omega
    have g := hg ws[i] (List.getElem_mem hlt)
    have hd := drop_consW hlt
    have go : ∀ x : ByteArray, x = spellS ws[i] → lexer_Spell.l0 (k + 2 * d + 3) (acc ++ [x]) (ws ++ [stopW]) ((ws.length + 1 : Nat) : Int) ((i + 1 : Nat) : Int) = (strings_Join.f (acc ++ (ws.drop i).map spellS) ⟨#[32]⟩).bind fun t => some t := by
      intro x hx
      rw [ih (i + 1) k _ (by omega) (by rw [List.length_append, List.length_singleton]; omega), hd, List.map_cons, hx, List.append_assoc]; rfl
    rw [show k + 2 * (d + 1) + 3 = (k + 2 * d + 3) + 1 + 1 from by omega, lexer_Spell.l0, if_pos (by omega), if_pos (by omega), if_pos (by rw [hL]; omega), rd_left ws i hlt]
    have hn : (acc.length < 8796093022208) := by omega
    have hplain : ws[i].f0 ≠ 2 → ws[i].f0 ≠ 3 → ws[i].f1 = spellS ws[i] := by
      intro h2 h3
      unfold spellS spellB
      rw [if_neg h2, if_neg h3, str_b]
    rcases g.kind with h | h | h | h
    · rw [if_pos h, lexer_Spell.j1, if_pos (by rw [h]; decide), if_pos hn, e2]
      exact go _ (hplain (by rw [h]; decide) (by rw [h]; decide))
    · rw [if_neg (by rw [h]; decide), lexer_Spell.j1, if_pos (by rw [h]; decide), if_pos hn, e2]
      exact go _ (hplain (by rw [h]; decide) (by rw [h]; decide))
    · rw [if_neg (by rw [h]; decide), lexer_Spell.j1, if_neg (by rw [h]; decide), if_pos h, chars_Text.f, if_pos g.range, Option.bind_some, if_pos hn, e2]
      exact go _ (by unfold spellS spellB; rw [if_pos h])
    · rw [if_neg (by rw [h]; decide), lexer_Spell.j1, if_neg (by rw [h]; decide), if_neg (by rw [h]; decide), if_pos h, value_Text.f, Option.bind_some, value_Print.f, if_neg (show ¬ (3 : Int) = 1 by decide), if_neg (show ¬ (3 : Int) = 2 by decide), if_pos rfl, if_pos (by have := g.size; show ws[i].f1.size ≤ _; omega), Option.bind_some, if_pos hn, e2]
      exact go _ (by unfold spellS spellB; rw [if_neg (by rw [h]; decide), if_pos h, ← quote_is])
theorem join_bytes : ∀ xs : List ByteArray, bytesOf ⟨(Lib.join (xs.map (·.data.toList)) [32]).toArray⟩ = joinL (xs.map bytesOf)
  | [] => rfl
  | [x] => by
    rw [List.map_cons, List.map_nil, Lib.join_one]; rfl
  | x :: y :: r => by
    have ih := join_bytes (y :: r)
    have e : Lib.join ((x :: y :: r).map (·.data.toList)) [32] = x.data.toList ++ 32 :: Lib.join ((y :: r).map (·.data.toList)) [32] := by
      simp [Lib.join_cons, Lib.joinTail]
    have e2 : bytesOf ⟨(Lib.join ((x :: y :: r).map (·.data.toList)) [32]).toArray⟩ = bytesOf x ++ 32 :: bytesOf ⟨(Lib.join ((y :: r).map (·.data.toList)) [32]).toArray⟩ := by
      rw [e]
      unfold bytesOf
      simp
    rw [e2, ih]; rfl
theorem spell_spec (ws : List Wd) (hg : ∀ w ∈ ws, Good1 w) (hl : ws.length ≤ 400) (k : Nat) (hk : 1000 ≤ k) : ∃ t, lexer_Spell.f k (ws ++ [stopW]) = some t ∧ bytesOf t = joinL (ws.map spellB) := by
  have h := spell_at ws hg hl ws.length 0 (k - 2 * ws.length - 3) [] (Nat.zero_add _) (Nat.le_refl _)
  rw [show k - 2 * ws.length - 3 + 2 * ws.length + 3 = k from by omega, List.nil_append, List.drop_zero] at h
  have hb := join_bytes (ws.map spellS)
  have hm : (ws.map spellS).map bytesOf = ws.map spellB := by
    rw [List.map_map]
    exact List.map_congr_left fun w hw => b_str (hg w hw).bytes
  rw [hm] at hb
  have hlen := joinL_len (ws.map spellB) (fun x hx => by obtain ⟨w, hw, rfl⟩ := List.mem_map.1 hx; exact (hg w hw).len)
  rw [← hb, bytesOf_length, List.length_map] at hlen
  have hs : (⟨(Lib.join ((ws.map spellS).map (·.data.toList)) [32]).toArray⟩ : ByteArray).size = (Lib.join ((ws.map spellS).map (·.data.toList)) [32]).length := by
    show (Lib.join ((ws.map spellS).map (·.data.toList)) [32]).toArray.size = _
    simp
  refine ⟨_, ?_, hb⟩
  unfold lexer_Spell.f
  rw [List.length_append, List.length_singleton]
  refine h.trans ?_
  unfold strings_Join.f
  have hc : (ws.map spellS).length ≤ 140737488355328 ∧ (Lib.join ((ws.map spellS).map (·.data.toList)) (⟨#[32]⟩ : ByteArray).data.toList).length ≤ 140737488355328 := by
    refine ⟨by rw [List.length_map]; omega, ?_⟩
    show (Lib.join ((ws.map spellS).map (·.data.toList)) [32]).length ≤ _
    rw [← hs]; omega
  rw [if_pos hc, Option.bind_some]
end Go.Proofs.YtifgpigicgaadaaGreatDoor.Back
end
