/- Several texts in one, in their order. -/
import Derived.Test.YtifgpigicgaadaaGreatDoorBLexerBack2
import Derived.Test.YtifgpigicgaadaaGreatDoorBLexerBack3
section
namespace Go.Proofs.YtifgpigicgaadaaGreatDoor.Q
open Go.RowKit Go.Proofs.YtifgpigicgaadaaGreatDoorH Go.Proofs.YtifgpigicgaadaaGreatDoorW.PrintWords Go.Proofs.YtifgpigicgaadaaGreatDoorW.PrintLast Go.Proofs.YtifgpigicgaadaaGreatDoorW.PrintMore
attribute [local go_sem] max2_int min2_int max_two min_two max_three min_three max_four min_four
set_option linter.unusedVariables false
set_option linter.unusedSimpArgs false
section
attribute [local go_sem high] eqA23
/-! ### dossierref07_Can: function 13 -/
def dossierref07_Can.f (k : Nat) (a0_0 : Int) (a0_1 : Int) (a0_2 : Bool) (a0_3 : ByteArray) : Option (Bool) := if a0_0 = 0 then (some (a0_0 == 0 && (a0_1 == 0 && (!a0_2 && (a0_3.toList.isEmpty))))) else (if a0_0 = 1 then ((dossierref07_Int.f a0_1).bind fun bt158 => (some (a0_0 == bt158.1 && (a0_1 == bt158.2.1 && (a0_2 == bt158.2.2.1 && (a0_3.toList == bt158.2.2.2.toList)))))) else (if a0_0 = 2 then ((dossierref07_Bool.f a0_2).bind fun bt162 => (some (a0_0 == bt162.1 && (a0_1 == bt162.2.1 && (a0_2 == bt162.2.2.1 && (a0_3.toList == bt162.2.2.2.toList)))))) else (if a0_0 = 3 then ((dossierref07_Text.f a0_3).bind fun bt166 => (if (a0_0 == bt166.1 && (a0_1 == bt166.2.1 && (a0_2 == bt166.2.2.1 && (a0_3.toList == bt166.2.2.2.toList)))) = true then (if (a0_3.size : Int) ≤ 256 then (if a0_3.size < 140737488355328 then ((dossierref01_Wrong.f k (bytesOf a0_3)).bind fun t170 => (some (decide (t170 < 0)))) else (none)) else (some false)) else (some false))) else (some false))))
def dossierref07_Can.T9 : Bool × List (List Nat × List Nat) := (true,[([],[]),([],[]),([1],[1]),([2],[2]),([0,3],[0,3]),([4,3],[4]),([5],[5]),([6,5],[5,6]),([7,5],[5,7]),([8,5],[5,8]),([5,9],[5,9]),([10,5],[10]),([11],[11]),([12,11],[11,12]),([13,11],[11,13]),([14,11,11],[11,14]),([15,11],[11,15]),([11,16],[11,16]),([17,15,0,1,2,3,4,5,6,7,8,9,10,11,12,13,14,15,16,17],[17])])
def dossierref07_Can.B9 : List Nat := [0,0,2,6,15,31,63,127,255,511,1023,2047,4095,8191,16383,32767,65535,131071,262143]
end
section
/-! ### value_sortOf: function 79 -/
mutual
def value_sortOf.j0 : Nat → Int → Bool → Option (Int)
 | 0,_,_ => none
 | k + 1,x3,x8 => if x8 = true then (some 3) else (if x3 = 12 then (value_sortOf.j1 k x3 (x3 == 12)) else (if x3 = 13 then (value_sortOf.j1 k x3 (x3 == 13)) else (if x3 = 14 then (value_sortOf.j1 k x3 (x3 == 14)) else (value_sortOf.j1 k x3 (x3 == 15)))))
def value_sortOf.j1 : Nat → Int → Bool → Option (Int)
 | 0,_,_ => none
 | k + 1,x3,x14 => if x14 = true then (some 4) else (if x3 = 16 then (value_sortOf.j2 k x3 (x3 == 16)) else (value_sortOf.j2 k x3 (x3 == 17)))
def value_sortOf.j2 : Nat → Int → Bool → Option (Int)
 | 0,_,_ => none
 | k + 1,x3,x19 => if x19 = true then (some 5) else (if x3 = 18 then (some 6) else (if x3 = 19 then (some 6) else (some 0)))
end
def value_sortOf.f (k : Nat) (a0 : Int) : Option (Int) := if a0 = 5 then (some 1) else (if a0 = 6 then (some 2) else (if a0 = 7 then (value_sortOf.j0 k a0 (a0 == 7)) else (if a0 = 8 then (value_sortOf.j0 k a0 (a0 == 8)) else (if a0 = 9 then (value_sortOf.j0 k a0 (a0 == 9)) else (if a0 = 10 then (value_sortOf.j0 k a0 (a0 == 10)) else (value_sortOf.j0 k a0 (a0 == 11)))))))
end
section
/-! ### value_Kind: function 52 -/
def value_Kind.f (k : Nat) (a0 : Int) (a1 : Int) (a2 : Int) : Option (Int × Bool) := (value_sortOf.f k a0).bind fun t265 => (if t265 = 1 then (if a1 = 2 then (if a2 = 0 then (some (2,true)) else (some (0,false))) else (some (0,false))) else (if t265 = 2 then (if a1 = 1 then (if a2 = 0 then (some (1,true)) else (some (0,false))) else (some (0,false))) else (if t265 = 3 then (if a1 = 1 then (if a2 = 1 then (some (1,true)) else (some (0,false))) else (some (0,false))) else (if t265 = 4 then (if a1 = a2 then (if a1 = 1 then (some (2,true)) else (if a1 = 3 then (some (2,true)) else (some (0,false)))) else (some (0,false))) else (if t265 = 5 then (if a1 = a2 then (if a1 = 1 then (some (2,true)) else (if a1 = 2 then (some (2,true)) else (if a1 = 3 then (some (2,true)) else (some (0,false))))) else (some (0,false))) else (if t265 = 6 then (if a1 = 2 then (if a2 = 2 then (some (2,true)) else (some (0,false))) else (some (0,false))) else (some (0,false))))))))
end
end Go.Proofs.YtifgpigicgaadaaGreatDoor.Q
end
section
/- Values: what the program and the reference make of any operator and any two values, told by one plain function. -/
set_option linter.unusedSimpArgs false
set_option linter.unusedVariables false
namespace Go.Proofs.YtifgpigicgaadaaGreatDoor.Values
open Go.RowKit Go.Proofs.YtifgpigicgaadaaGreatDoor.Q Go.Proofs.YtifgpigicgaadaaGreatDoorW.PrintWords Go.Proofs.YtifgpigicgaadaaGreatDoorW.PrintLast Go.Proofs.YtifgpigicgaadaaGreatDoorH Go.Proofs.YtifgpigicgaadaaGreatDoor.Chars

/-! ## Kinds -/
def kindV (op a b : Int) : Int × Bool :=
  if op = 5 then (if a = 2 ∧ b = 0 then (2, true) else (0, false))
  else if op = 6 then (if a = 1 ∧ b = 0 then (1, true) else (0, false))
  else if 7 ≤ op ∧ op ≤ 11 then (if a = 1 ∧ b = 1 then (1, true) else (0, false))
  else if 12 ≤ op ∧ op ≤ 15 then (if a = b ∧ (a = 1 ∨ a = 3) then (2, true) else (0, false))
  else if 16 ≤ op ∧ op ≤ 17 then (if a = b ∧ (1 ≤ a ∧ a ≤ 3) then (2, true) else (0, false))
  else if 18 ≤ op ∧ op ≤ 19 then (if a = 2 ∧ b = 2 then (2, true) else (0, false))
  else (0, false)
def sortV (op : Int) : Int := if op = 5 then 1 else if op = 6 then 2 else if 7 ≤ op ∧ op ≤ 11 then 3 else if 12 ≤ op ∧ op ≤ 15 then 4 else if 16 ≤ op ∧ op ≤ 17 then 5 else if 18 ≤ op ∧ op ≤ 19 then 6 else 0
theorem op_cases (op : Int) : op = 5 ∨ op = 6 ∨ op = 7 ∨ op = 8 ∨ op = 9 ∨ op = 10 ∨ op = 11 ∨ op = 12 ∨ op = 13 ∨ op = 14 ∨ op = 15 ∨ op = 16 ∨ op = 17 ∨ op = 18 ∨ op = 19 ∨ (op < 5 ∨ 19 < op) := by omega
theorem op_in (op : Int) (h : ¬ (op < 5 ∨ 19 < op)) : op = 5 ∨ op = 6 ∨ op = 7 ∨ op = 8 ∨ op = 9 ∨ op = 10 ∨ op = 11 ∨ op = 12 ∨ op = 13 ∨ op = 14 ∨ op = 15 ∨ op = 16 ∨ op = 17 ∨ op = 18 ∨ op = 19 := by omega
theorem sortOf_spec (k : Nat) (op : Int) : value_sortOf.f (k + 5) op = some (sortV op) := by
  rcases op_cases op with rfl | rfl | rfl | rfl | rfl | rfl | rfl | rfl | rfl | rfl | rfl | rfl | rfl | rfl | rfl | h
  all_goals try rfl
  have n : ∀ m : Int, 5 ≤ m → m ≤ 19 → ¬ op = m := fun m h1 h2 => by omega
  have e : sortV op = 0 := by
    unfold sortV
    repeat' split
    all_goals omega
  rw [e]
  simp [value_sortOf.f, value_sortOf.j0, value_sortOf.j1, value_sortOf.j2, n 5, n 6, n 7, n 8, n 9, n 10, n 11, n 12, n 13, n 14, n 15, n 16, n 17, n 18, n 19]
theorem kindV_out (op a b : Int) (h : op < 5 ∨ 19 < op) : kindV op a b = (0, false) := by
  unfold kindV
  rw [if_neg (by omega), if_neg (by omega), if_neg (by omega), if_neg (by omega), if_neg (by omega), if_neg (by omega)]
theorem sortV_out (op : Int) (h : op < 5 ∨ 19 < op) : sortV op = 0 := by
  unfold sortV
  rw [if_neg (by omega), if_neg (by omega), if_neg (by omega), if_neg (by omega), if_neg (by omega), if_neg (by omega)]
set_option maxHeartbeats 2000000 in
theorem Kind_spec (k : Nat) (op a b : Int) : value_Kind.f (k + 5) op a b = some (kindV op a b) := by
  unfold value_Kind.f
  rw [sortOf_spec, Option.bind_some]
  by_cases h : op < 5 ∨ 19 < op
  · rw [kindV_out op a b h, sortV_out op h]; simp
  rcases op_in op h with rfl | rfl | rfl | rfl | rfl | rfl | rfl | rfl | rfl | rfl | rfl | rfl | rfl | rfl | rfl
  all_goals (simp only [sortV, kindV]; simp; repeat' split)
  all_goals first | rfl | (exfalso; omega)
/-! ## What may be -/
def canV (k i : Int) (y : Bool) (t : ByteArray) : Bool :=
  if k = 0 then i == 0 && (!y && t.toList.isEmpty)
  else if k = 1 then !y && t.toList.isEmpty
  else if k = 2 then i == 0 && t.toList.isEmpty
  else if k = 3 then i == 0 && (!y && (decide (t.size ≤ 256) && decide (wrong (bytesOf t) < 0)))
  else false
theorem toList_nil : (⟨#[]⟩ : ByteArray).toList = [] := by rw [Lib.toList_data]
theorem empty_of {t : ByteArray} (h : t.toList = []) : t = ⟨#[]⟩ := by
  rw [Lib.toList_data] at h
  cases t with
  | mk d => congr 1; exact Array.toList_eq_nil_iff.1 h
theorem beq_nil (t : ByteArray) : (t.toList == (⟨#[]⟩ : ByteArray).toList) = t.toList.isEmpty := by
  rw [toList_nil]; cases t.toList <;> rfl
theorem bytesOf_len (t : ByteArray) : (bytesOf t).length = t.size := by unfold bytesOf; rw [List.length_map, Array.length_toList]; rfl
theorem wrongs (k : Nat) (t : ByteArray) (h : t.size ≤ 256) : chars_Wrong.f (k + 300) (bytesOf t) = some (wrong (bytesOf t)) ∧ dossierref01_Wrong.f (k + 300) (bytesOf t) = some (wrong (bytesOf t)) := by
  have := bytesOf_len t
  exact wrong_spec _ (bytes_of t) (by omega) _ (by omega)
theorem wrong_none : wrong (bytesOf ⟨#[]⟩) = -1 := wrong_nil
set_option maxHeartbeats 1000000 in
theorem Can_spec (k : Nat) (n i : Int) (y : Bool) (t : ByteArray) : value_Can.f (k + 301) n i y t = some (canV n i y t) := by
  have tail : (if (t.size : Int) ≤ 256 then (if t.size < 140737488355328 then ((chars_Wrong.f (k + 300) (bytesOf t)).bind fun t116 => (some (decide (t116 < 0)))) else none) else some false) = some (decide (t.size ≤ 256) && decide (wrong (bytesOf t) < 0)) := by
    by_cases h : t.size ≤ 256
    · rw [if_pos (by omega), if_pos (by omega), (wrongs k t h).1]; simp [h]
    · rw [if_neg (by omega)]; simp [h]
  have e : t.toList = [] → (decide (t.size ≤ 256) && decide (wrong (bytesOf t) < 0)) = true := by
    intro h; rw [empty_of h, wrong_none]; rfl
  unfold value_Can.f canV
  simp only [show k + 301 = (k + 300) + 1 from rfl, value_Can.j0, tail, beq_nil, beq_self_eq_true, Bool.true_and, Bool.and_true]
  by_cases h0 : n = 0
  · rw [if_pos h0, if_pos h0]
    cases y <;> by_cases hi : i = 0 <;> cases ht : t.toList with
    | nil => simp [hi, e ht]
    | cons _ _ => simp [hi]
  · rw [if_neg h0, if_neg h0]
    by_cases h1 : n = 1
    · rw [if_pos h1, if_pos h1]
      cases y <;> cases ht : t.toList with
      | nil => simp [e ht]
      | cons _ _ => simp
    · rw [if_neg h1, if_neg h1]
      by_cases h2 : n = 2
      · rw [if_pos h2, if_pos h2]
        by_cases hi : i = 0 <;> cases ht : t.toList with
        | nil => simp [hi, e ht]
        | cons _ _ => simp [hi]
      · rw [if_neg h2, if_neg h2]
        by_cases h3 : n = 3
        · rw [if_pos h3, if_pos h3]
          cases y <;> by_cases hi : i = 0 <;> simp [hi]
        · rw [if_neg h3, if_neg h3]
set_option maxHeartbeats 1000000 in
theorem ref_Can_spec (k : Nat) (n i : Int) (y : Bool) (t : ByteArray) : dossierref07_Can.f (k + 301) n i y t = some (canV n i y t) := by
  have tail : (if (t.size : Int) ≤ 256 then (if t.size < 140737488355328 then ((dossierref01_Wrong.f (k + 301) (bytesOf t)).bind fun t116 => (some (decide (t116 < 0)))) else none) else some false) = some (decide (t.size ≤ 256) && decide (wrong (bytesOf t) < 0)) := by
    by_cases h : t.size ≤ 256
    · rw [if_pos (by omega), if_pos (by omega), (wrongs (k + 1) t h).2]; simp [h]
    · rw [if_neg (by omega)]; simp [h]
  unfold dossierref07_Can.f canV dossierref07_Int.f dossierref07_Bool.f dossierref07_Text.f
  simp only [Option.bind_some, tail, beq_nil, beq_self_eq_true, Bool.true_and, Bool.and_true]
  by_cases h0 : n = 0
  · rw [if_pos h0, if_pos h0]; simp [h0]
  · rw [if_neg h0, if_neg h0]
    by_cases h1 : n = 1
    · rw [if_pos h1, if_pos h1]; cases y <;> simp [h1]
    · rw [if_neg h1, if_neg h1]
      by_cases h2 : n = 2
      · rw [if_pos h2, if_pos h2]; simp [h2]
      · rw [if_neg h2, if_neg h2]
        by_cases h3 : n = 3
        · rw [if_pos h3, if_pos h3]
          cases y <;> by_cases hi : i = 0 <;> simp [hi, h3]
        · rw [if_neg h3, if_neg h3]
end Go.Proofs.YtifgpigicgaadaaGreatDoor.Values
end
section
/- Strings as lists of numbers. -/

set_option linter.unusedSimpArgs false
set_option linter.unusedVariables false
namespace Go.Proofs.YtifgpigicgaadaaGreatDoor.Bytes
open Go.RowKit Go.Proofs.YtifgpigicgaadaaGreatDoor.Q Go.Proofs.YtifgpigicgaadaaGreatDoorW.PrintWords Go.Proofs.YtifgpigicgaadaaGreatDoorW.PrintLast Go.Proofs.YtifgpigicgaadaaGreatDoorH Go.Proofs.YtifgpigicgaadaaGreatDoor.Chars Go.Proofs.YtifgpigicgaadaaGreatDoor.Values

theorem b_extract (s : ByteArray) (i j : Nat) : bytesOf (s.extract i j) = ((bytesOf s).drop i).take (j - i) := by
  unfold bytesOf
  rw [ByteArray.data_extract, Array.toList_extract, List.extract_eq_take_drop, ← List.map_drop, ← List.map_take]
theorem b_append (s t : ByteArray) : bytesOf (s ++ t) = bytesOf s ++ bytesOf t := by
  unfold bytesOf
  rw [ByteArray.data_append, Array.toList_append, List.map_append]
theorem b_inj {s t : ByteArray} (h : bytesOf s = bytesOf t) : s = t := by
  unfold bytesOf at h
  have := List.map_inj_right (f := fun b : UInt8 => (b.toNat : Int)) (fun x y hxy => UInt8.toNat_inj.1 (Int.ofNat_inj.1 hxy)) |>.1 h
  cases s with
  | mk a => cases t with
    | mk b => congr 1; exact Array.toList_inj.1 this
theorem bt_get (s : ByteArray) (i : Int) : bt s i = (bytesOf s).getD i.toNat 0 := (rd_bytesOf s i).symm
theorem b_str {l : List Int} (h : Bytes l) : bytesOf (strOfNums l) = l := by
  unfold bytesOf
  rw [strOfNums_data, List.map_map]
  conv => rhs; rw [← List.map_id l]
  apply List.map_congr_left
  intro x hx
  have := h x hx
  simp only [Function.comp, id]
  obtain ⟨y, rfl⟩ := Int.eq_ofNat_of_zero_le this.1
  simp
  omega
theorem toList_iff (s : ByteArray) (l : List UInt8) : s.toList = l ↔ bytesOf s = l.map fun b => (b.toNat : Int) := by
  rw [Lib.toList_data]
  unfold bytesOf
  constructor
  · intro h; rw [h]
  · intro h
    exact List.map_inj_right (f := fun b : UInt8 => (b.toNat : Int)) (fun x y hxy => UInt8.toNat_inj.1 (Int.ofNat_inj.1 hxy)) |>.1 h
theorem toList_iff2 (s t : ByteArray) : s.toList = t.toList ↔ bytesOf s = bytesOf t := by
  rw [toList_iff, Lib.toList_data]; rfl
theorem b_size (s : ByteArray) : s.size = (bytesOf s).length := (bytesOf_length s).symm
theorem b_nil : bytesOf (⟨#[]⟩ : ByteArray) = [] := rfl

theorem w64' (x : Int) (h0 : -1000000000000 ≤ x) (h1 : x < 1000000000000) : wrap64 x = x := by unfold wrap64; omega
theorem drop_cons {l : List Int} {i : Nat} (h : i < l.length) : l.drop i = l[i] :: l.drop (i + 1) := List.drop_eq_getElem_cons h
theorem bt_at' {s : ByteArray} {i : Nat} (h : i < (bytesOf s).length) : bt s (i : Int) = (bytesOf s)[i] := by
  rw [bt_get, Int.toNat_natCast, List.getD_eq_getElem?_getD, List.getElem?_eq_getElem h]; rfl

end Go.Proofs.YtifgpigicgaadaaGreatDoor.Bytes
end
section
namespace Go.Proofs.YtifgpigicgaadaaGreatDoor.Q
open Go.RowKit Go.Proofs.YtifgpigicgaadaaGreatDoorH Go.Proofs.YtifgpigicgaadaaGreatDoorW.PrintWords Go.Proofs.YtifgpigicgaadaaGreatDoorW.PrintLast Go.Proofs.YtifgpigicgaadaaGreatDoorW.PrintMore
attribute [local go_sem] max2_int min2_int max_two min_two max_three min_three max_four min_four
set_option linter.unusedVariables false
set_option linter.unusedSimpArgs false
section
/-! ### strings_IndexByte: function 87 -/
def strings_IndexByte.f (a0 : ByteArray) (a1 : Int) : Option Int := some (Lib.indexByte a0.data.toList a1.toNat.toUInt8)
theorem strings_IndexByte.calls (a0 : ByteArray) (a1 : Int) (r : Int) (w : World) (h : strings_IndexByte.f a0 a1 = some r) :
 Calls Tryz.prog 87 #[.string a0,.int .u8 a1] w fun e w' => e = .returned (.int .i64 r) ∧ Drawn0 w w' := by
 obtain rfl := Option.some.inj h
 exact (Any.strings_IndexByte Tryz.layIndexByte a0 a1 w).mono fun e w' ⟨h1,h2⟩ => ⟨h1,h2 ▸ Drawn0.refl _⟩
end
section
/-! ### lexer_is: function 59 -/
def lexer_is.f (a0 : Int) (a1 : ByteArray) : Option (Bool) := (strings_IndexByte.f a1 a0).bind fun t354 => (some (decide (t354 ≥ 0)))
set_option maxHeartbeats 8000000 in
set_option maxRecDepth 100000 in
theorem lexer_is.calls (a0 : Int) (a1 : ByteArray) (r : Bool) (w : World) (h : lexer_is.f a0 a1 = some r) :
 Calls Tryz.prog 59 #[.int .u8 a0,.string a1] w fun e w' => e = .returned (.bool r) ∧ Drawn0 w w' := by
 have H : ((strings_IndexByte.f a1 a0).bind fun t354 => (some (decide (t354 ≥ 0)))) = some r := h
 clear h
 replace H := Option.bind_eq_some_iff.mp H
 obtain ⟨t354,A30,H⟩ := H
 replace H : (some (decide (t354 ≥ 0))) = some r := H
 have A3 := Aside0.mk A30
 clear A30
 obtain rfl := Option.some.inj H
 go_enter Tryz.func59,Tryz.ntmps59
 go_wp2_with (first | ((with_reducible refine gate_callee (f := 87) rfl ?_); refine goesL_ (some 7) rfl rfl Tryz.func87 (by kernel_rfl) rfl #[.string a1,.int .u8 a0] rfl (by (try simp only [List.map_toArray,List.map_cons,List.map_nil]); first | done | rfl | (simp only [List.length_drop,List.length_take]; rfl)) ?_; (with_reducible refine (strings_IndexByte.calls a1 a0 t354 _ A3.out).mono ?_); rintro e w' ⟨rfl,⟨nd,rfl⟩⟩; refine ⟨_,rfl,?_⟩))
 go_ret
 exact ⟨by first | rfl | (simp; done) | (simp [*]; done),by repeat (first | exact Drawn0.refl _ | apply Drawn0.step)⟩
end
section
/-! ### lexer_run: function 60 -/
def lexer_run.l0 : Nat → ByteArray → ByteArray → Int → Option (ByteArray)
 | 0,_,_,_ => none
 | k + 1,x0,x1,x5 => if x5 < (x0.size : Int) then (if 0 ≤ x5 then ((lexer_is.f (bt x0 x5) x1).bind fun t355 => (if t355 = true then (lexer_run.l0 k x0 x1 (wrap64 (x5 + 1))) else (if x5 ≤ (x0.size : Int) then (some (x0.extract 0 (x5 : Int).toNat)) else (none)))) else (none)) else (if 0 ≤ x5 then (if x5 ≤ (x0.size : Int) then (some (x0.extract 0 (x5 : Int).toNat)) else (none)) else (none))
def lexer_run.f (k : Nat) (a0 : ByteArray) (a1 : ByteArray) : Option (ByteArray) := lexer_run.l0 k a0 a1 0
theorem lexer_run.mono_l : ∀ k,(∀ y0 y1 y2,LeO (lexer_run.l0 k y0 y1 y2) (lexer_run.l0 (k + 1) y0 y1 y2))
 | 0 => fun _ _ _ r h => by simp [lexer_run.l0] at h
 | k + 1 => by
  have ih0 := lexer_run.mono_l k
  · intro y0 y1 y2
    unfold lexer_run.l0
    repeat' first
    | (with_reducible exact ih0 _ _ _)
    | (with_reducible exact LeO.refl _)
    | (with_reducible exact LeO.none _)
    | (with_reducible refine LeO.ite ?_ ?_)
    | (with_reducible refine LeO.bind ?_ (fun _ => ?_))
    | exact ih0 _ _ _
    | exact LeO.none _
    | refine LeO.ite ?_ ?_
    | refine LeO.bind ?_ (fun _ => ?_)
theorem lexer_run.mono : ∀ a0 a1 k,LeO (lexer_run.f k a0 a1) (lexer_run.f (k + 1) a0 a1) := by
 intro a0 a1 k
 have ih0 := lexer_run.mono_l k
 unfold lexer_run.f
 repeat' first
  | (with_reducible exact ih0 _ _ _)
  | (with_reducible exact LeO.refl _)
  | (with_reducible exact LeO.none _)
  | (with_reducible refine LeO.ite ?_ ?_)
  | (with_reducible refine LeO.bind ?_ (fun _ => ?_))
  | exact ih0 _ _ _
  | exact LeO.none _
  | refine LeO.ite ?_ ?_
  | refine LeO.bind ?_ (fun _ => ?_)
set_option maxHeartbeats 8000000 in
set_option maxRecDepth 100000 in
theorem lexer_run.calls (k : Nat) (a0 : ByteArray) (a1 : ByteArray) (r : ByteArray) (w : World) (h : lexer_run.f k a0 a1 = some r) :
 Calls Tryz.prog 60 #[.string a0,.string a1] w fun e w' => e = .returned (.string r) ∧ Drawn0 w w' := by
 have H : (lexer_run.l0 k a0 a1 0) = some r := h
 clear h
 have H' := Aside0.mk H
 clear H
 go_enter Tryz.func60,Tryz.ntmps60
 go_wp2
 go_loopg [5] k (fun kq v5 w' => ∃ (x5_1 : Int),v5 = .int .i64 x5_1 ∧ Aside0 (lexer_run.l0 kq a0 a1 x5_1 = some r) ∧ Aside0 (kq ≤ k) ∧ Drawn0 w w')
 case atStart => exact ⟨(0),(by first | rfl | (simp; done) | (simp [*]; done)),H',⟨Nat.le_refl _⟩,by repeat (first | exact Drawn0.refl _ | apply Drawn0.step)⟩
 case round =>
  clear H'
  try clear p2
  obtain ⟨x5_1,rfl,HA,HK1,⟨m1,rfl⟩⟩ := hrel
  cases gk with
  | zero => exact absurd HA.out (by simp [lexer_run.l0])
  | succ k1 =>
   have H := HA.out
   clear HA
   simp only [lexer_run.l0] at H
   by_cases c3 : x5_1 < (a0.size : Int)
   · rw [if_pos c3] at H
     have c3b0 : decide (x5_1 < (a0.size : Int)) = true := decide_eq_true c3
     clear c3
     by_cases c4 : 0 ≤ x5_1
     · rw [if_pos c4] at H
       have c4b0 : decide (0 ≤ x5_1) = true := decide_eq_true c4
       clear c4
       replace H := Option.bind_eq_some_iff.mp H
       obtain ⟨t355,A60,H⟩ := H
       replace H : (if t355 = true then (lexer_run.l0 k1 a0 a1 (wrap64 (x5_1 + 1))) else (if x5_1 ≤ (a0.size : Int) then (some (a0.extract 0 (x5_1 : Int).toNat)) else (none))) = some r := H
       have A6 := Aside0.mk A60
       clear A60
       by_cases c7 : t355 = true
       · subst c7
         have H1 : (lexer_run.l0 k1 a0 a1 (wrap64 (x5_1 + 1))) = some r := by rw [if_pos rfl] at H; exact H
         clear H
         have H := H1
         clear H1
         have H' := Aside0.mk H
         clear H
         have p5 : 0 ≤ (x5_1 : Int) := of_decide_eq_true (by first | (with_reducible assumption) | assumption)
         have q5 : x5_1 < (a0.size : Int) := of_decide_eq_true (by first | (with_reducible assumption) | assumption)
         have hx5 := bt_at a0 x5_1
         replace p5 := eq_true p5
         replace q5 := eq_true q5
         go_wp2_with (first | (go_at_call 59; (with_reducible refine (lexer_is.calls (bt a0 x5_1) a1 true _ A6.out).mono ?_); rintro e w' ⟨rfl,⟨nd,rfl⟩⟩))
         go_roundg k1
         case measure => have := HK1.out; omega
         case rel => exact ⟨(wrap64 (x5_1 + 1)),(by first | rfl | (simp; done) | (simp [*]; done)),H',⟨by have := HK1.out; omega⟩,by repeat (first | exact Drawn0.refl _ | apply Drawn0.step)⟩
       · replace c7 := Bool.eq_false_iff.mpr c7
         subst c7
         have H1 : (if x5_1 ≤ (a0.size : Int) then (some (a0.extract 0 (x5_1 : Int).toNat)) else (none)) = some r := by rw [if_neg (show ¬ (false = true) by decide)] at H; exact H
         clear H
         have H := H1
         clear H1
         have c8b0 := eq_true (of_decide_eq_true (by first | (with_reducible assumption) | assumption) : 0 ≤ x5_1)
         by_cases c9 : x5_1 ≤ (a0.size : Int)
         · rw [if_pos c9] at H
           have c9b0 := eq_true c9
           have c9b1 : decide (x5_1 ≤ (a0.size : Int)) = true := decide_eq_true c9
           clear c9
           obtain rfl := Option.some.inj H
           have p5 : 0 ≤ (x5_1 : Int) := of_decide_eq_true (by first | (with_reducible assumption) | assumption)
           have q5 : x5_1 < (a0.size : Int) := of_decide_eq_true (by first | (with_reducible assumption) | assumption)
           have hx5 := bt_at a0 x5_1
           replace p5 := eq_true p5
           replace q5 := eq_true q5
           go_wp2_with (first | (go_at_call 59; (with_reducible refine (lexer_is.calls (bt a0 x5_1) a1 false _ A6.out).mono ?_); rintro e w' ⟨rfl,⟨nd,rfl⟩⟩))
           go_ret
           exact ⟨by first | rfl | (simp; done) | (simp [*]; done),by repeat (first | exact Drawn0.refl _ | apply Drawn0.step)⟩
         · rw [if_neg c9] at H
           exact absurd H (by simp)
     · rw [if_neg c4] at H
       exact absurd H (by simp)
   · rw [if_neg c3] at H
     have c3b0 : decide (x5_1 < (a0.size : Int)) = false := decide_eq_false c3
     clear c3
     by_cases c10 : 0 ≤ x5_1
     · rw [if_pos c10] at H
       have c10b0 := eq_true c10
       have c10b1 : decide (0 ≤ x5_1) = true := decide_eq_true c10
       clear c10
       by_cases c11 : x5_1 ≤ (a0.size : Int)
       · rw [if_pos c11] at H
         have c11b0 := eq_true c11
         have c11b1 : decide (x5_1 ≤ (a0.size : Int)) = true := decide_eq_true c11
         clear c11
         obtain rfl := Option.some.inj H
         go_wp2
         go_ret
         exact ⟨by first | rfl | (simp; done) | (simp [*]; done),by repeat (first | exact Drawn0.refl _ | apply Drawn0.step)⟩
       · rw [if_neg c11] at H
         exact absurd H (by simp)
     · rw [if_neg c10] at H
       exact absurd H (by simp)
end
section
/-! ### dossierref08_digit: function 64 -/
def dossierref08_digit.f (a0 : Int) : Option (Bool) := if a0 ≥ 48 then (some (decide (a0 ≤ 57))) else (some false)
set_option maxHeartbeats 8000000 in
set_option maxRecDepth 100000 in
theorem dossierref08_digit.calls (a0 : Int) (r : Bool) (w : World) (h : dossierref08_digit.f a0 = some r) :
 Calls Tryz.prog 64 #[.int .u8 a0] w fun e w' => e = .returned (.bool r) ∧ Drawn0 w w' := by
 have H : (if a0 ≥ 48 then (some (decide (a0 ≤ 57))) else (some false)) = some r := h
 clear h
 by_cases c2 : a0 ≥ 48
 · rw [if_pos c2] at H
   have c2b0 : decide (48 ≤ a0) = true := decide_eq_true c2
   clear c2
   obtain rfl := Option.some.inj H
   go_enter Tryz.func64,Tryz.ntmps64
   go_wp2
   go_ret
   exact ⟨by first | rfl | (simp; done) | (simp [*]; done),by repeat (first | exact Drawn0.refl _ | apply Drawn0.step)⟩
 · rw [if_neg c2] at H
   have c2b0 : decide (48 ≤ a0) = false := decide_eq_false c2
   clear c2
   obtain rfl := Option.some.inj H
   go_enter Tryz.func64,Tryz.ntmps64
   go_wp2
   go_ret
   exact ⟨by first | rfl | (simp; done) | (simp [*]; done),by repeat (first | exact Drawn0.refl _ | apply Drawn0.step)⟩
end
section
/-! ### dossierref01_Text: function 37 -/
def dossierref01_Text.f : Nat → Int → Option (ByteArray)
 | 0,_ => none
 | k + 1,a0 => if a0 < 0 then (if a0 > (-10) then ((dossierref01_Text.f k (wrap64 (-a0))).bind fun t257 => (if 1 + t257.size ≤ 9223372036854775807 then (some ((⟨#[45]⟩ : ByteArray) ++ t257)) else (none))) else ((dossierref01_Text.f k (wrap64 (Int.tdiv a0 10))).bind fun t258 => ((dossierref01_Text.f k (wrap64 (-(Int.tmod a0 10)))).bind fun t259 => (if t258.size + t259.size ≤ 9223372036854775807 then (some (t258 ++ t259)) else (none))))) else (if a0 < 10 then (if 0 ≤ a0 then (if a0 ≤ (wrap64 (a0 + 1)) then (if (wrap64 (a0 + 1)) ≤ 10 then (some ((⟨#[48,49,50,51,52,53,54,55,56,57]⟩ : ByteArray).extract (a0 : Int).toNat ((wrap64 (a0 + 1)) : Int).toNat)) else (none)) else (none)) else (none)) else ((dossierref01_Text.f k (wrap64 (Int.tdiv a0 10))).bind fun t260 => ((dossierref01_Text.f k (Int.tmod a0 10)).bind fun t261 => (if t260.size + t261.size ≤ 9223372036854775807 then (some (t260 ++ t261)) else (none)))))
set_option maxHeartbeats 8000000 in
set_option maxRecDepth 100000 in
theorem dossierref01_Text.calls (k : Nat) : ∀ (a0 : Int) (r : ByteArray) (w : World) (h : dossierref01_Text.f k a0 = some r),
 Calls Tryz.prog 37 #[.int .i64 a0] w fun e w' => e = .returned (.string r) ∧ Drawn0 w w' := by
 induction k using Nat.strongRecOn with
 | _ k ih =>
 intro a0 r w h
 cases k with
 | zero => exact absurd h (by simp [dossierref01_Text.f])
 | succ k =>
 simp only [dossierref01_Text.f] at h
 have H : (if a0 < 0 then (if a0 > (-10) then ((dossierref01_Text.f k (wrap64 (-a0))).bind fun t257 => (if 1 + t257.size ≤ 9223372036854775807 then (some ((⟨#[45]⟩ : ByteArray) ++ t257)) else (none))) else ((dossierref01_Text.f k (wrap64 (Int.tdiv a0 10))).bind fun t258 => ((dossierref01_Text.f k (wrap64 (-(Int.tmod a0 10)))).bind fun t259 => (if t258.size + t259.size ≤ 9223372036854775807 then (some (t258 ++ t259)) else (none))))) else (if a0 < 10 then (if 0 ≤ a0 then (if a0 ≤ (wrap64 (a0 + 1)) then (if (wrap64 (a0 + 1)) ≤ 10 then (some ((⟨#[48,49,50,51,52,53,54,55,56,57]⟩ : ByteArray).extract (a0 : Int).toNat ((wrap64 (a0 + 1)) : Int).toNat)) else (none)) else (none)) else (none)) else ((dossierref01_Text.f k (wrap64 (Int.tdiv a0 10))).bind fun t260 => ((dossierref01_Text.f k (Int.tmod a0 10)).bind fun t261 => (if t260.size + t261.size ≤ 9223372036854775807 then (some (t260 ++ t261)) else (none)))))) = some r := h
 clear h
 by_cases c2 : a0 < 0
 · rw [if_pos c2] at H
   have c2b0 : decide (a0 < 0) = true := decide_eq_true c2
   clear c2
   by_cases c3 : a0 > (-10)
   · rw [if_pos c3] at H
     have c3b0 : decide ((-10) < a0) = true := decide_eq_true c3
     clear c3
     replace H := Option.bind_eq_some_iff.mp H
     obtain ⟨t257,A40,H⟩ := H
     replace H : (if 1 + t257.size ≤ 9223372036854775807 then (some ((⟨#[45]⟩ : ByteArray) ++ t257)) else (none)) = some r := H
     have A4 := Aside0.mk A40
     clear A40
     by_cases c5 : 1 + t257.size ≤ 9223372036854775807
     · rw [if_pos c5] at H
       have c5b0 := eq_true c5
       have c5b1 : decide (1 + t257.size ≤ 9223372036854775807) = true := decide_eq_true c5
       try have c5b2 : (9223372036854775807 < 1 + t257.size) = False := eq_false (Nat.not_lt.2 c5)
       obtain rfl := Option.some.inj H
       go_enter Tryz.func37,Tryz.ntmps37
       go_wp2_with (first | ((with_reducible refine gate_callee (f := 37) rfl ?_); refine goesL_ (some 9) rfl rfl Tryz.func37 (by kernel_rfl) rfl #[.int .i64 (wrap64 (-a0))] rfl (by (try simp only [List.map_toArray,List.map_cons,List.map_nil]); first | done | rfl | (simp only [List.length_drop,List.length_take]; rfl)) ?_; (with_reducible refine (ih k (by omega) (wrap64 (-a0)) t257 _ A4.out).mono ?_); rintro e w' ⟨rfl,⟨nd,rfl⟩⟩; refine ⟨_,rfl,?_⟩))
       go_ret
       exact ⟨by first | rfl | (simp; done) | (simp [*]; done),by repeat (first | exact Drawn0.refl _ | apply Drawn0.step)⟩
     · rw [if_neg c5] at H
       exact absurd H (by simp)
   · rw [if_neg c3] at H
     have c3b0 : decide ((-10) < a0) = false := decide_eq_false c3
     clear c3
     replace H := Option.bind_eq_some_iff.mp H
     obtain ⟨t258,A60,H⟩ := H
     replace H : ((dossierref01_Text.f k (wrap64 (-(Int.tmod a0 10)))).bind fun t259 => (if t258.size + t259.size ≤ 9223372036854775807 then (some (t258 ++ t259)) else (none))) = some r := H
     have A6 := Aside0.mk A60
     clear A60
     replace H := Option.bind_eq_some_iff.mp H
     obtain ⟨t259,A70,H⟩ := H
     replace H : (if t258.size + t259.size ≤ 9223372036854775807 then (some (t258 ++ t259)) else (none)) = some r := H
     have A7 := Aside0.mk A70
     clear A70
     by_cases c8 : t258.size + t259.size ≤ 9223372036854775807
     · rw [if_pos c8] at H
       have c8b0 := eq_true c8
       have c8b1 : decide (t258.size + t259.size ≤ 9223372036854775807) = true := decide_eq_true c8
       try have c8b2 : (9223372036854775807 < t258.size + t259.size) = False := eq_false (Nat.not_lt.2 c8)
       obtain rfl := Option.some.inj H
       go_enter Tryz.func37,Tryz.ntmps37
       go_wp2_with (first | ((with_reducible refine gate_callee (f := 37) rfl ?_); refine goesL_ (some 13) rfl rfl Tryz.func37 (by kernel_rfl) rfl #[.int .i64 (wrap64 (Int.tdiv a0 10))] rfl (by (try simp only [List.map_toArray,List.map_cons,List.map_nil]); first | done | rfl | (simp only [List.length_drop,List.length_take]; rfl)) ?_; (with_reducible refine (ih k (by omega) (wrap64 (Int.tdiv a0 10)) t258 _ A6.out).mono ?_); rintro e w' ⟨rfl,⟨nd,rfl⟩⟩; refine ⟨_,rfl,?_⟩) | ((with_reducible refine gate_callee (f := 37) rfl ?_); refine goesL_ (some 17) rfl rfl Tryz.func37 (by kernel_rfl) rfl #[.int .i64 (wrap64 (-(Int.tmod a0 10)))] rfl (by (try simp only [List.map_toArray,List.map_cons,List.map_nil]); first | done | rfl | (simp only [List.length_drop,List.length_take]; rfl)) ?_; (with_reducible refine (ih k (by omega) (wrap64 (-(Int.tmod a0 10))) t259 _ A7.out).mono ?_); rintro e w' ⟨rfl,⟨nd,rfl⟩⟩; refine ⟨_,rfl,?_⟩))
       go_ret
       exact ⟨by first | rfl | (simp; done) | (simp [*]; done),by repeat (first | exact Drawn0.refl _ | apply Drawn0.step)⟩
     · rw [if_neg c8] at H
       exact absurd H (by simp)
 · rw [if_neg c2] at H
   have c2b0 : decide (a0 < 0) = false := decide_eq_false c2
   clear c2
   by_cases c9 : a0 < 10
   · rw [if_pos c9] at H
     have c9b0 : decide (a0 < 10) = true := decide_eq_true c9
     clear c9
     by_cases c10 : 0 ≤ a0
     · rw [if_pos c10] at H
       have c10b0 := eq_true c10
       have c10b1 : decide (0 ≤ a0) = true := decide_eq_true c10
       clear c10
       by_cases c11 : a0 ≤ (wrap64 (a0 + 1))
       · rw [if_pos c11] at H
         have c11b0 := eq_true c11
         have c11b1 : decide (a0 ≤ (wrap64 (a0 + 1))) = true := decide_eq_true c11
         by_cases c12 : (wrap64 (a0 + 1)) ≤ 10
         · rw [if_pos c12] at H
           have c12b0 := eq_true c12
           have c12b1 : decide ((wrap64 (a0 + 1)) ≤ 10) = true := decide_eq_true c12
           obtain rfl := Option.some.inj H
           go_enter Tryz.func37,Tryz.ntmps37
           go_wp2
           go_ret
           exact ⟨by first | rfl | (simp; done) | (simp [*]; done),by repeat (first | exact Drawn0.refl _ | apply Drawn0.step)⟩
         · rw [if_neg c12] at H
           exact absurd H (by simp)
       · rw [if_neg c11] at H
         exact absurd H (by simp)
     · rw [if_neg c10] at H
       exact absurd H (by simp)
   · rw [if_neg c9] at H
     have c9b0 : decide (a0 < 10) = false := decide_eq_false c9
     clear c9
     replace H := Option.bind_eq_some_iff.mp H
     obtain ⟨t260,A130,H⟩ := H
     replace H : ((dossierref01_Text.f k (Int.tmod a0 10)).bind fun t261 => (if t260.size + t261.size ≤ 9223372036854775807 then (some (t260 ++ t261)) else (none))) = some r := H
     have A13 := Aside0.mk A130
     clear A130
     replace H := Option.bind_eq_some_iff.mp H
     obtain ⟨t261,A140,H⟩ := H
     replace H : (if t260.size + t261.size ≤ 9223372036854775807 then (some (t260 ++ t261)) else (none)) = some r := H
     have A14 := Aside0.mk A140
     clear A140
     by_cases c15 : t260.size + t261.size ≤ 9223372036854775807
     · rw [if_pos c15] at H
       have c15b0 := eq_true c15
       have c15b1 : decide (t260.size + t261.size ≤ 9223372036854775807) = true := decide_eq_true c15
       try have c15b2 : (9223372036854775807 < t260.size + t261.size) = False := eq_false (Nat.not_lt.2 c15)
       obtain rfl := Option.some.inj H
       go_enter Tryz.func37,Tryz.ntmps37
       go_wp2_with (first | ((with_reducible refine gate_callee (f := 37) rfl ?_); refine goesL_ (some 27) rfl rfl Tryz.func37 (by kernel_rfl) rfl #[.int .i64 (wrap64 (Int.tdiv a0 10))] rfl (by (try simp only [List.map_toArray,List.map_cons,List.map_nil]); first | done | rfl | (simp only [List.length_drop,List.length_take]; rfl)) ?_; (with_reducible refine (ih k (by omega) (wrap64 (Int.tdiv a0 10)) t260 _ A13.out).mono ?_); rintro e w' ⟨rfl,⟨nd,rfl⟩⟩; refine ⟨_,rfl,?_⟩) | ((with_reducible refine gate_callee (f := 37) rfl ?_); refine goesL_ (some 30) rfl rfl Tryz.func37 (by kernel_rfl) rfl #[.int .i64 (Int.tmod a0 10)] rfl (by (try simp only [List.map_toArray,List.map_cons,List.map_nil]); first | done | rfl | (simp only [List.length_drop,List.length_take]; rfl)) ?_; (with_reducible refine (ih k (by omega) (Int.tmod a0 10) t261 _ A14.out).mono ?_); rintro e w' ⟨rfl,⟨nd,rfl⟩⟩; refine ⟨_,rfl,?_⟩))
       go_ret
       exact ⟨by first | rfl | (simp; done) | (simp [*]; done),by repeat (first | exact Drawn0.refl _ | apply Drawn0.step)⟩
     · rw [if_neg c15] at H
       exact absurd H (by simp)
end
section
/-! ### dossierref01_Number: function 88 -/
mutual
def dossierref01_Number.j0 : Nat → ByteArray → ByteArray → Bool → Option (Int × Int)
 | 0,_,_,_ => none
 | k + 1,x0,x4,x16 => if x16 = true then (if 1 ≤ (x0.size : Int) then (dossierref01_Number.j1 k x0 (x0.extract 1 x0.size)) else (none)) else (dossierref01_Number.j1 k x0 x4)
def dossierref01_Number.j1 : Nat → ByteArray → ByteArray → Option (Int × Int)
 | 0,_,_ => none
 | k + 1,x0,x4 => if (x4.size : Int) = 0 then (dossierref01_Number.j2 k x0 x4 true) else (if 0 < (x4.size : Int) then (if (bt x4 0) = 48 then (dossierref01_Number.j2 k x0 x4 (decide ((x0.size : Int) > 1))) else (dossierref01_Number.j2 k x0 x4 false)) else (none))
def dossierref01_Number.j2 : Nat → ByteArray → ByteArray → Bool → Option (Int × Int)
 | 0,_,_,_ => none
 | k + 1,x0,x4,x31 => if x31 = true then (some (0,5)) else (dossierref01_Number.l0 k x0 x4 (x4.size : Int) 0)
def dossierref01_Number.l0 : Nat → ByteArray → ByteArray → Int → Int → Option (Int × Int)
 | 0,_,_,_,_ => none
 | k + 1,x0,x4,x33,x34 => if x34 < x33 then (if 0 ≤ x34 then (if x34 < (x4.size : Int) then (if (bt x4 x34) < 48 then (some (0,5)) else (if (bt x4 x34) > 57 then (some (0,5)) else (dossierref01_Number.l0 k x0 x4 x33 (wrap64 (x34 + 1))))) else (none)) else (none)) else (if (x4.size : Int) > 19 then (some (0,4)) else (dossierref01_Number.l1 k x0 x4 0 (x4.size : Int) 0))
def dossierref01_Number.l1 : Nat → ByteArray → ByteArray → Int → Int → Int → Option (Int × Int)
 | 0,_,_,_,_,_ => none
 | k + 1,x0,x4,x6,x52,x53 => if x53 < x52 then (if 0 ≤ x53 then (if x53 < (x4.size : Int) then (dossierref01_Number.l1 k x0 x4 (wrap64 ((wrap64 (10 * x6)) - (((bt x4 x53) - 48) % 256))) x52 (wrap64 (x53 + 1))) else (none)) else (none)) else (if (x4.size : Int) = (x0.size : Int) then ((dossierref01_Text.f k (wrap64 (-x6))).bind fun t387 => (if t387.toList = x0.toList then (some (wrap64 (-x6),0)) else (some (0,4)))) else ((dossierref01_Text.f k x6).bind fun t388 => (if t388.toList = x0.toList then (some (x6,0)) else (some (0,4)))))
end
def dossierref01_Number.f (k : Nat) (a0 : ByteArray) : Option (Int × Int) := if (a0.size : Int) > 0 then (if 0 < (a0.size : Int) then (dossierref01_Number.j0 k a0 a0 ((bt a0 0) == 45)) else (none)) else (dossierref01_Number.j0 k a0 a0 false)
set_option maxHeartbeats 8000000 in
set_option maxRecDepth 100000 in
theorem dossierref01_Number.calls (k : Nat) (a0 : ByteArray) (r1 : Int) (r2 : Int) (w : World) (h : dossierref01_Number.f k a0 = some (r1,r2)) :
 Calls Tryz.prog 88 #[.string a0] w fun e w' => e = .returned (.tuple #[.int .i64 r1,.int .i64 r2]) ∧ Drawn0 w w' := by
 have H : (if (a0.size : Int) > 0 then (if 0 < (a0.size : Int) then (dossierref01_Number.j0 k a0 a0 ((bt a0 0) == 45)) else (none)) else (dossierref01_Number.j0 k a0 a0 false)) = some (r1,r2) := h
 clear h
 have HC2 := Aside0.mk H
 clear H
 go_enter Tryz.func88,Tryz.ntmps88
 go_upto_region 2 with (fail)
 go_cut [16] (fun v16 wc => ∃ (kq : Nat) (x16_1 : Bool),v16 = .bool x16_1 ∧ Aside0 (dossierref01_Number.j0 kq a0 a0 x16_1 = some (r1,r2)) ∧ Aside0 (kq ≤ k) ∧ Drawn0 w wc)
 case first =>
  have H := HC2.out
  clear HC2
  by_cases c3 : (a0.size : Int) > 0
  · rw [if_pos c3] at H
    have c3b0 : decide (0 < (a0.size : Int)) = true := decide_eq_true c3
    have c3b1 : decide (0 < a0.size) = true := decide_eq_true (by omega)
    clear c3
    (first | rw [c3b0] | (simp only [i64_w,i32_w]; rw [c3b0]) | skip)
    by_cases c4 : 0 < (a0.size : Int)
    · rw [if_pos c4] at H
      have c4b0 : decide (0 < (a0.size : Int)) = true := decide_eq_true c4
      have c4b1 : decide (0 < a0.size) = true := decide_eq_true (by omega)
      clear c4
      have H' := Aside0.mk H
      clear H
      have p5 : 0 ≤ (0 : Int) := (by omega)
      have q5 : 0 < a0.size := (by have : (0 : Int) < (a0.size : Int) := of_decide_eq_true (by first | (with_reducible assumption) | assumption); omega)
      have hx5 : ∀ h : 0 < a0.size,((a0[0]'h).toNat : Int) = bt a0 0 := bt_at a0 0
      clear p5
      have qi5 : (0 < (a0.size : Int)) = True := eq_true (of_decide_eq_true (by first | (with_reducible assumption) | assumption))
      replace q5 := eq_true q5
      go_wp2
      go_meet
      case rel => exact ⟨_,(((bt a0 0) == 45)),(by first | rfl | (simp; done) | (simp [*]; done)),H',⟨by first | omega | exact Nat.le_refl _⟩,by repeat (first | exact Drawn0.refl _ | apply Drawn0.step)⟩
    · rw [if_neg c4] at H
      exact absurd H (by simp)
  · rw [if_neg c3] at H
    have c3b0 : decide (0 < (a0.size : Int)) = false := decide_eq_false c3
    have c3b1 : decide (0 < a0.size) = false := decide_eq_false (by omega)
    clear c3
    (first | rw [c3b0] | (simp only [i64_w,i32_w]; rw [c3b0]) | skip)
    have H' := Aside0.mk H
    clear H
    go_wp2
    go_meet
    case rel => exact ⟨_,(false),(by first | rfl | (simp; done) | (simp [*]; done)),H',⟨by first | omega | exact Nat.le_refl _⟩,by repeat (first | exact Drawn0.refl _ | apply Drawn0.step)⟩
 case rest =>
  clear HC2
  try clear p2
  try clear c3
  try clear c3b0
  try clear c3b1
  try clear c4
  try clear c4b0
  try clear c4b1
  try clear p5
  try clear q5
  try clear hx5
  try clear qi5
  try clear p5
  try clear q5
  obtain ⟨kq,x16_1,rfl,HA,HJ1,⟨mc1,rfl⟩⟩ := hcut
  cases kq with
  | zero => exact absurd HA.out (by simp [dossierref01_Number.j0])
  | succ kj1 =>
   have H := HA.out
   clear HA
   simp only [dossierref01_Number.j0] at H
   have HC6 := Aside0.mk H
   clear H
   go_upto_if 16 with (fail)
   go_cut [4] (fun v4 wc => ∃ (kq : Nat) (x4_5 : ByteArray),v4 = .string x4_5 ∧ Aside0 (dossierref01_Number.j1 kq a0 x4_5 = some (r1,r2)) ∧ Aside0 (kq ≤ kj1) ∧ Drawn0 w wc)
   case first =>
    have H := HC6.out
    clear HC6
    by_cases c7 : x16_1 = true
    · subst c7
      have H1 : (if 1 ≤ (a0.size : Int) then (dossierref01_Number.j1 kj1 a0 (a0.extract 1 a0.size)) else (none)) = some (r1,r2) := by rw [if_pos rfl] at H; exact H
      clear H
      have H := H1
      clear H1
      by_cases c8 : 1 ≤ (a0.size : Int)
      · rw [if_pos c8] at H
        have c8b0 := eq_true c8
        have c8b1 : decide (1 ≤ (a0.size : Int)) = true := decide_eq_true c8
        clear c8
        have H' := Aside0.mk H
        clear H
        go_wp2
        go_meet
        case rel => exact ⟨_,(a0.extract 1 a0.size),(by first | rfl | (simp; done) | (simp [*]; done)),H',⟨by have := HJ1.out; first | omega | exact Nat.le_refl _⟩,by repeat (first | exact Drawn0.refl _ | apply Drawn0.step)⟩
      · rw [if_neg c8] at H
        exact absurd H (by simp)
    · replace c7 := Bool.eq_false_iff.mpr c7
      subst c7
      have H1 : (dossierref01_Number.j1 kj1 a0 a0) = some (r1,r2) := by rw [if_neg (show ¬ (false = true) by decide)] at H; exact H
      clear H
      have H := H1
      clear H1
      have H' := Aside0.mk H
      clear H
      go_wp2
      go_meet
      case rel => exact ⟨_,(a0),(by first | rfl | (simp; done) | (simp [*]; done)),H',⟨by have := HJ1.out; first | omega | exact Nat.le_refl _⟩,by repeat (first | exact Drawn0.refl _ | apply Drawn0.step)⟩
   case rest =>
    clear HC6
    try clear c1
    try clear p2
    try clear c3
    try clear c3b0
    try clear c3b1
    try clear c4
    try clear c4b0
    try clear c4b1
    try clear p5
    try clear q5
    try clear hx5
    try clear qi5
    try clear c7
    try clear c8
    try clear c8b0
    try clear c8b1
    try clear p2
    try clear p5
    try clear q5
    obtain ⟨kq,x4_5,rfl,HA,HJ5,⟨mc5,rfl⟩⟩ := hcut
    cases kq with
    | zero => exact absurd HA.out (by simp [dossierref01_Number.j1])
    | succ kj5 =>
     have H := HA.out
     clear HA
     simp only [dossierref01_Number.j1] at H
     have HC9 := Aside0.mk H
     clear H
     go_upto_region 4 with (fail)
     go_cut [31] (fun v31 wc => ∃ (kq : Nat) (x31_8 : Bool),v31 = .bool x31_8 ∧ Aside0 (dossierref01_Number.j2 kq a0 x4_5 x31_8 = some (r1,r2)) ∧ Aside0 (kq ≤ kj5) ∧ Drawn0 w wc)
     case first =>
      have H := HC9.out
      clear HC9
      by_cases c10 : (x4_5.size : Int) = 0
      · rw [if_pos c10] at H
        have c10b0 : ((x4_5.size : Int) == 0) = true := beq_iff_eq.mpr c10
        have c10b1 : ((x4_5.size : Int) != 0) = false := bne_eq_false_iff_eq.mpr c10
        clear c10
        (first | rw [c10b0] | (simp only [i64_w,i32_w]; rw [c10b0]) | skip)
        have H' := Aside0.mk H
        clear H
        go_wp2
        go_meet
        case rel => exact ⟨_,(true),(by first | rfl | (simp; done) | (simp [*]; done)),H',⟨by have := HJ1.out; have := HJ5.out; first | omega | exact Nat.le_refl _⟩,by repeat (first | exact Drawn0.refl _ | apply Drawn0.step)⟩
      · rw [if_neg c10] at H
        have c10b0 : ((x4_5.size : Int) == 0) = false := beq_eq_false_iff_ne.mpr c10
        have c10b1 : ((x4_5.size : Int) != 0) = true := bne_iff_ne.mpr c10
        (first | rw [c10b0] | (simp only [i64_w,i32_w]; rw [c10b0]) | skip)
        by_cases c11 : 0 < (x4_5.size : Int)
        · rw [if_pos c11] at H
          have c11b0 : decide (0 < (x4_5.size : Int)) = true := decide_eq_true c11
          have c11b1 : decide (0 < x4_5.size) = true := decide_eq_true (by omega)
          clear c11
          by_cases c13 : (bt x4_5 0) = 48
          · rw [if_pos c13] at H
            have c13b0 : ((bt x4_5 0) == 48) = true := beq_iff_eq.mpr c13
            have c13b1 : ((bt x4_5 0) != 48) = false := bne_eq_false_iff_eq.mpr c13
            clear c13
            have H' := Aside0.mk H
            clear H
            have p12 : 0 ≤ (0 : Int) := (by omega)
            have q12 : 0 < x4_5.size := (by have : (0 : Int) < (x4_5.size : Int) := of_decide_eq_true (by first | (with_reducible assumption) | assumption); omega)
            have hx12 : ∀ h : 0 < x4_5.size,((x4_5[0]'h).toNat : Int) = bt x4_5 0 := bt_at x4_5 0
            clear p12
            have qi12 : (0 < (x4_5.size : Int)) = True := eq_true (of_decide_eq_true (by first | (with_reducible assumption) | assumption))
            replace q12 := eq_true q12
            go_wp2
            go_meet
            case rel => exact ⟨_,(decide ((a0.size : Int) > 1)),(by first | rfl | (simp; done) | (simp [*]; done)),H',⟨by have := HJ1.out; have := HJ5.out; first | omega | exact Nat.le_refl _⟩,by repeat (first | exact Drawn0.refl _ | apply Drawn0.step)⟩
          · rw [if_neg c13] at H
            have c13b0 : ((bt x4_5 0) == 48) = false := beq_eq_false_iff_ne.mpr c13
            have c13b1 : ((bt x4_5 0) != 48) = true := bne_iff_ne.mpr c13
            have H' := Aside0.mk H
            clear H
            have p12 : 0 ≤ (0 : Int) := (by omega)
            have q12 : 0 < x4_5.size := (by have : (0 : Int) < (x4_5.size : Int) := of_decide_eq_true (by first | (with_reducible assumption) | assumption); omega)
            have hx12 : ∀ h : 0 < x4_5.size,((x4_5[0]'h).toNat : Int) = bt x4_5 0 := bt_at x4_5 0
            clear p12
            have qi12 : (0 < (x4_5.size : Int)) = True := eq_true (of_decide_eq_true (by first | (with_reducible assumption) | assumption))
            replace q12 := eq_true q12
            go_wp2
            go_meet
            case rel => exact ⟨_,(false),(by first | rfl | (simp; done) | (simp [*]; done)),H',⟨by have := HJ1.out; have := HJ5.out; first | omega | exact Nat.le_refl _⟩,by repeat (first | exact Drawn0.refl _ | apply Drawn0.step)⟩
        · rw [if_neg c11] at H
          exact absurd H (by simp)
     case rest =>
      clear HC9
      try clear c1
      try clear p1
      try clear q1
      try clear hx1
      try clear qi1
      try clear p2
      try clear c3
      try clear c3b0
      try clear c3b1
      try clear c4
      try clear c4b0
      try clear c4b1
      try clear c5
      try clear p5
      try clear q5
      try clear hx5
      try clear qi5
      try clear c7
      try clear c8
      try clear c8b0
      try clear c8b1
      try clear c10
      try clear c10b0
      try clear c10b1
      try clear c11
      try clear c11b0
      try clear c11b1
      try clear p12
      try clear q12
      try clear hx12
      try clear qi12
      try clear c13
      try clear c13b0
      try clear c13b1
      try clear p12
      try clear p2
      try clear p5
      try clear q12
      try clear q5
      obtain ⟨kq,x31_8,rfl,HA,HJ8,⟨mc8,rfl⟩⟩ := hcut
      cases kq with
      | zero => exact absurd HA.out (by simp [dossierref01_Number.j2])
      | succ kj8 =>
       have H := HA.out
       clear HA
       simp only [dossierref01_Number.j2] at H
       by_cases c14 : x31_8 = true
       · subst c14
         have H1 : (some (0,5)) = some (r1,r2) := by rw [if_pos rfl] at H; exact H
         clear H
         have H := H1
         clear H1
         simp only [Option.some.injEq,Prod.mk.injEq] at H
         obtain ⟨rfl,rfl⟩ := H
         go_wp2
         go_ret2
         exact ⟨by first | rfl | (simp; done) | (simp [*]; done),by repeat (first | exact Drawn0.refl _ | apply Drawn0.step)⟩
       · replace c14 := Bool.eq_false_iff.mpr c14
         subst c14
         have H1 : (dossierref01_Number.l0 kj8 a0 x4_5 (x4_5.size : Int) 0) = some (r1,r2) := by rw [if_neg (show ¬ (false = true) by decide)] at H; exact H
         clear H
         have H := H1
         clear H1
         have H' := Aside0.mk H
         clear H
         go_wp2
         go_loopg [34] kj8 (fun kq v34 w' => ∃ (x34_4 : Int),v34 = .int .i64 x34_4 ∧ Aside0 (dossierref01_Number.l0 kq a0 x4_5 (x4_5.size : Int) x34_4 = some (r1,r2)) ∧ Aside0 (kq ≤ kj8) ∧ Drawn0 w w')
         case atStart => exact ⟨(0),(by first | rfl | (simp; done) | (simp [*]; done)),H',⟨Nat.le_refl _⟩,by repeat (first | exact Drawn0.refl _ | apply Drawn0.step)⟩
         case round =>
          clear H'
          try clear c1
          try clear p1
          try clear q1
          try clear hx1
          try clear qi1
          try clear p2
          try clear c3
          try clear c3b0
          try clear c3b1
          try clear c4
          try clear c4b0
          try clear c4b1
          try clear c5
          try clear p5
          try clear q5
          try clear hx5
          try clear qi5
          try clear c7
          try clear c8
          try clear c8b0
          try clear c8b1
          try clear c10
          try clear c10b0
          try clear c10b1
          try clear c11
          try clear c11b0
          try clear c11b1
          try clear p12
          try clear q12
          try clear hx12
          try clear qi12
          try clear c13
          try clear c13b0
          try clear c13b1
          try clear c14
          try clear p1
          try clear p12
          try clear p2
          try clear p5
          try clear q1
          try clear q12
          try clear q5
          obtain ⟨x34_4,rfl,HA,HK4,⟨m4,rfl⟩⟩ := hrel
          cases gk with
          | zero => exact absurd HA.out (by simp [dossierref01_Number.l0])
          | succ k4 =>
           have H := HA.out
           clear HA
           simp only [dossierref01_Number.l0] at H
           by_cases c15 : x34_4 < (x4_5.size : Int)
           · rw [if_pos c15] at H
             have c15b0 : decide (x34_4 < (x4_5.size : Int)) = true := decide_eq_true c15
             clear c15
             by_cases c16 : 0 ≤ x34_4
             · rw [if_pos c16] at H
               have c16b0 : decide (0 ≤ x34_4) = true := decide_eq_true c16
               clear c16
               by_cases c17 : x34_4 < (x4_5.size : Int)
               · rw [if_pos c17] at H
                 have c17b0 : decide (x34_4 < (x4_5.size : Int)) = true := decide_eq_true c17
                 clear c17
                 by_cases c19 : (bt x4_5 x34_4) < 48
                 · rw [if_pos c19] at H
                   have c19b0 : decide ((bt x4_5 x34_4) < 48) = true := decide_eq_true c19
                   clear c19
                   simp only [Option.some.injEq,Prod.mk.injEq] at H
                   obtain ⟨rfl,rfl⟩ := H
                   have p18 : 0 ≤ (x34_4 : Int) := of_decide_eq_true (by first | (with_reducible assumption) | assumption)
                   have q18 : x34_4 < (x4_5.size : Int) := of_decide_eq_true (by first | (with_reducible assumption) | assumption)
                   have hx18 := bt_at x4_5 x34_4
                   replace p18 := eq_true p18
                   replace q18 := eq_true q18
                   go_wp2
                   go_ret2
                   exact ⟨by first | rfl | (simp; done) | (simp [*]; done),by repeat (first | exact Drawn0.refl _ | apply Drawn0.step)⟩
                 · rw [if_neg c19] at H
                   have c19b0 : decide ((bt x4_5 x34_4) < 48) = false := decide_eq_false c19
                   clear c19
                   by_cases c21 : (bt x4_5 x34_4) > 57
                   · rw [if_pos c21] at H
                     have c21b0 : decide (57 < (bt x4_5 x34_4)) = true := decide_eq_true c21
                     clear c21
                     simp only [Option.some.injEq,Prod.mk.injEq] at H
                     obtain ⟨rfl,rfl⟩ := H
                     have p18 : 0 ≤ (x34_4 : Int) := of_decide_eq_true (by first | (with_reducible assumption) | assumption)
                     have q18 : x34_4 < (x4_5.size : Int) := of_decide_eq_true (by first | (with_reducible assumption) | assumption)
                     have hx18 := bt_at x4_5 x34_4
                     replace p18 := eq_true p18
                     replace q18 := eq_true q18
                     have p20 : 0 ≤ (x34_4 : Int) := of_decide_eq_true (by first | (with_reducible assumption) | assumption)
                     have q20 : x34_4 < (x4_5.size : Int) := of_decide_eq_true (by first | (with_reducible assumption) | assumption)
                     have hx20 := bt_at x4_5 x34_4
                     replace p20 := eq_true p20
                     replace q20 := eq_true q20
                     go_wp2
                     go_ret2
                     exact ⟨by first | rfl | (simp; done) | (simp [*]; done),by repeat (first | exact Drawn0.refl _ | apply Drawn0.step)⟩
                   · rw [if_neg c21] at H
                     have c21b0 : decide (57 < (bt x4_5 x34_4)) = false := decide_eq_false c21
                     clear c21
                     have H' := Aside0.mk H
                     clear H
                     have p18 : 0 ≤ (x34_4 : Int) := of_decide_eq_true (by first | (with_reducible assumption) | assumption)
                     have q18 : x34_4 < (x4_5.size : Int) := of_decide_eq_true (by first | (with_reducible assumption) | assumption)
                     have hx18 := bt_at x4_5 x34_4
                     replace p18 := eq_true p18
                     replace q18 := eq_true q18
                     have p20 : 0 ≤ (x34_4 : Int) := of_decide_eq_true (by first | (with_reducible assumption) | assumption)
                     have q20 : x34_4 < (x4_5.size : Int) := of_decide_eq_true (by first | (with_reducible assumption) | assumption)
                     have hx20 := bt_at x4_5 x34_4
                     replace p20 := eq_true p20
                     replace q20 := eq_true q20
                     go_wp2
                     go_roundg k4
                     case measure => have := HJ1.out; have := HJ5.out; have := HJ8.out; have := HK4.out; omega
                     case rel => exact ⟨(wrap64 (x34_4 + 1)),(by first | rfl | (simp; done) | (simp [*]; done)),H',⟨by have := HJ1.out; have := HJ5.out; have := HJ8.out; have := HK4.out; omega⟩,by repeat (first | exact Drawn0.refl _ | apply Drawn0.step)⟩
               · rw [if_neg c17] at H
                 exact absurd H (by simp)
             · rw [if_neg c16] at H
               exact absurd H (by simp)
           · rw [if_neg c15] at H
             have c15b0 : decide (x34_4 < (x4_5.size : Int)) = false := decide_eq_false c15
             clear c15
             by_cases c22 : (x4_5.size : Int) > 19
             · rw [if_pos c22] at H
               have c22b0 : decide (19 < (x4_5.size : Int)) = true := decide_eq_true c22
               have c22b1 : decide (19 < x4_5.size) = true := decide_eq_true (by omega)
               clear c22
               simp only [Option.some.injEq,Prod.mk.injEq] at H
               obtain ⟨rfl,rfl⟩ := H
               go_wp2
               go_ret2
               exact ⟨by first | rfl | (simp; done) | (simp [*]; done),by repeat (first | exact Drawn0.refl _ | apply Drawn0.step)⟩
             · rw [if_neg c22] at H
               have c22b0 : decide (19 < (x4_5.size : Int)) = false := decide_eq_false c22
               have c22b1 : decide (19 < x4_5.size) = false := decide_eq_false (by omega)
               clear c22
               have H' := Aside0.mk H
               clear H
               go_wp2
               go_loopg [6,53] k4 (fun kq v6 v53 w' => ∃ (x6_5 : Int) (x53_5 : Int),v6 = .int .i64 x6_5 ∧ v53 = .int .i64 x53_5 ∧ Aside0 (dossierref01_Number.l1 kq a0 x4_5 x6_5 (x4_5.size : Int) x53_5 = some (r1,r2)) ∧ Aside0 (kq ≤ k4) ∧ Drawn0 w w')
               case atStart => exact ⟨(0),(0),(by first | rfl | (simp; done) | (simp [*]; done)),(by first | rfl | (simp; done) | (simp [*]; done)),H',⟨Nat.le_refl _⟩,by repeat (first | exact Drawn0.refl _ | apply Drawn0.step)⟩
               case round =>
                clear H'
                try clear c1
                try clear p1
                try clear q1
                try clear hx1
                try clear qi1
                try clear c2
                try clear p2
                try clear q2
                try clear hx2
                try clear c3
                try clear c3b0
                try clear c3b1
                try clear c4
                try clear c4b0
                try clear c4b1
                try clear c5
                try clear p5
                try clear q5
                try clear hx5
                try clear qi5
                try clear p6
                try clear c7
                try clear c8
                try clear c8b0
                try clear c8b1
                try clear c10
                try clear c10b0
                try clear c10b1
                try clear c11
                try clear c11b0
                try clear c11b1
                try clear p12
                try clear q12
                try clear hx12
                try clear qi12
                try clear c13
                try clear c13b0
                try clear c13b1
                try clear c14
                try clear c15
                try clear c15b0
                try clear c16
                try clear c16b0
                try clear c17
                try clear c17b0
                try clear p18
                try clear q18
                try clear hx18
                try clear c19
                try clear c19b0
                try clear p20
                try clear q20
                try clear hx20
                try clear c21
                try clear c21b0
                try clear c22
                try clear c22b0
                try clear c22b1
                try clear p1
                try clear p12
                try clear p18
                try clear p2
                try clear p20
                try clear p5
                try clear q1
                try clear q12
                try clear q18
                try clear q20
                try clear q5
                obtain ⟨x6_5,x53_5,rfl,rfl,HA,HK5,⟨m5,rfl⟩⟩ := hrel
                cases gk with
                | zero => exact absurd HA.out (by simp [dossierref01_Number.l1])
                | succ k5 =>
                 have H := HA.out
                 clear HA
                 simp only [dossierref01_Number.l1] at H
                 by_cases c23 : x53_5 < (x4_5.size : Int)
                 · rw [if_pos c23] at H
                   have c23b0 : decide (x53_5 < (x4_5.size : Int)) = true := decide_eq_true c23
                   clear c23
                   by_cases c24 : 0 ≤ x53_5
                   · rw [if_pos c24] at H
                     have c24b0 : decide (0 ≤ x53_5) = true := decide_eq_true c24
                     clear c24
                     by_cases c25 : x53_5 < (x4_5.size : Int)
                     · rw [if_pos c25] at H
                       have c25b0 : decide (x53_5 < (x4_5.size : Int)) = true := decide_eq_true c25
                       clear c25
                       have H' := Aside0.mk H
                       clear H
                       have p26 : 0 ≤ (x53_5 : Int) := of_decide_eq_true (by first | (with_reducible assumption) | assumption)
                       have q26 : x53_5 < (x4_5.size : Int) := of_decide_eq_true (by first | (with_reducible assumption) | assumption)
                       have hx26 := bt_at x4_5 x53_5
                       replace p26 := eq_true p26
                       replace q26 := eq_true q26
                       go_wp2
                       go_roundg k5
                       case measure => have := HJ1.out; have := HJ5.out; have := HJ8.out; have := HK4.out; have := HK5.out; omega
                       case rel => exact ⟨(wrap64 ((wrap64 (10 * x6_5)) - (((bt x4_5 x53_5) - 48) % 256))),(wrap64 (x53_5 + 1)),(by first | rfl | (simp; done) | (simp [*]; done)),(by first | rfl | (simp; done) | (simp [*]; done)),H',⟨by have := HJ1.out; have := HJ5.out; have := HJ8.out; have := HK4.out; have := HK5.out; omega⟩,by repeat (first | exact Drawn0.refl _ | apply Drawn0.step)⟩
                     · rw [if_neg c25] at H
                       exact absurd H (by simp)
                   · rw [if_neg c24] at H
                     exact absurd H (by simp)
                 · rw [if_neg c23] at H
                   have c23b0 : decide (x53_5 < (x4_5.size : Int)) = false := decide_eq_false c23
                   clear c23
                   by_cases c27 : (x4_5.size : Int) = (a0.size : Int)
                   · rw [if_pos c27] at H
                     have c27b0 : ((x4_5.size : Int) == (a0.size : Int)) = true := beq_iff_eq.mpr c27
                     have c27b1 : ((x4_5.size : Int) != (a0.size : Int)) = false := bne_eq_false_iff_eq.mpr c27
                     have c27b2 : (x4_5.size == a0.size) = true := by first | simpa using c27 | (simp at c27 ⊢; omega)
                     clear c27
                     replace H := Option.bind_eq_some_iff.mp H
                     obtain ⟨t387,A280,H⟩ := H
                     replace H : (if t387.toList = a0.toList then (some (wrap64 (-x6_5),0)) else (some (0,4))) = some (r1,r2) := H
                     have A28 := Aside0.mk A280
                     clear A280
                     by_cases c29 : t387.toList = a0.toList
                     · rw [if_pos c29] at H
                       have c29b0 : (t387.toList == a0.toList) = true := beq_iff_eq.mpr c29
                       have c29b1 : (t387.toList != a0.toList) = false := bne_eq_false_iff_eq.mpr c29
                       clear c29
                       simp only [Option.some.injEq,Prod.mk.injEq] at H
                       obtain ⟨rfl,rfl⟩ := H
                       go_wp2_with (first | ((with_reducible refine gate_callee (f := 37) rfl ?_); refine goesL_ (some 73) rfl rfl Tryz.func37 (by kernel_rfl) rfl #[.int .i64 (wrap64 (-x6_5))] rfl (by (try simp only [List.map_toArray,List.map_cons,List.map_nil]); first | done | rfl | (simp only [List.length_drop,List.length_take]; rfl)) ?_; (with_reducible refine (dossierref01_Text.calls k5 (wrap64 (-x6_5)) t387 _ A28.out).mono ?_); rintro e w' ⟨rfl,⟨nd,rfl⟩⟩; refine ⟨_,rfl,?_⟩))
                       go_ret2
                       exact ⟨by first | rfl | (simp; done) | (simp [*]; done),by repeat (first | exact Drawn0.refl _ | apply Drawn0.step)⟩
                     · rw [if_neg c29] at H
                       have c29b0 : (t387.toList == a0.toList) = false := beq_eq_false_iff_ne.mpr c29
                       have c29b1 : (t387.toList != a0.toList) = true := bne_iff_ne.mpr c29
                       simp only [Option.some.injEq,Prod.mk.injEq] at H
                       obtain ⟨rfl,rfl⟩ := H
                       go_wp2_with (first | ((with_reducible refine gate_callee (f := 37) rfl ?_); refine goesL_ (some 73) rfl rfl Tryz.func37 (by kernel_rfl) rfl #[.int .i64 (wrap64 (-x6_5))] rfl (by (try simp only [List.map_toArray,List.map_cons,List.map_nil]); first | done | rfl | (simp only [List.length_drop,List.length_take]; rfl)) ?_; (with_reducible refine (dossierref01_Text.calls k5 (wrap64 (-x6_5)) t387 _ A28.out).mono ?_); rintro e w' ⟨rfl,⟨nd,rfl⟩⟩; refine ⟨_,rfl,?_⟩))
                       go_ret2
                       exact ⟨by first | rfl | (simp; done) | (simp [*]; done),by repeat (first | exact Drawn0.refl _ | apply Drawn0.step)⟩
                   · rw [if_neg c27] at H
                     have c27b0 : ((x4_5.size : Int) == (a0.size : Int)) = false := beq_eq_false_iff_ne.mpr c27
                     have c27b1 : ((x4_5.size : Int) != (a0.size : Int)) = true := bne_iff_ne.mpr c27
                     have c27b2 : (x4_5.size == a0.size) = false := by first | simpa using c27 | (simp at c27 ⊢; omega)
                     replace H := Option.bind_eq_some_iff.mp H
                     obtain ⟨t388,A300,H⟩ := H
                     replace H : (if t388.toList = a0.toList then (some (x6_5,0)) else (some (0,4))) = some (r1,r2) := H
                     have A30 := Aside0.mk A300
                     clear A300
                     by_cases c31 : t388.toList = a0.toList
                     · rw [if_pos c31] at H
                       have c31b0 : (t388.toList == a0.toList) = true := beq_iff_eq.mpr c31
                       have c31b1 : (t388.toList != a0.toList) = false := bne_eq_false_iff_eq.mpr c31
                       clear c31
                       simp only [Option.some.injEq,Prod.mk.injEq] at H
                       obtain ⟨rfl,rfl⟩ := H
                       go_wp2_with (first | ((with_reducible refine gate_callee (f := 37) rfl ?_); refine goesL_ (some 73) rfl rfl Tryz.func37 (by kernel_rfl) rfl #[.int .i64 x6_5] rfl (by (try simp only [List.map_toArray,List.map_cons,List.map_nil]); first | done | rfl | (simp only [List.length_drop,List.length_take]; rfl)) ?_; (with_reducible refine (dossierref01_Text.calls k5 x6_5 t388 _ A30.out).mono ?_); rintro e w' ⟨rfl,⟨nd,rfl⟩⟩; refine ⟨_,rfl,?_⟩))
                       go_ret2
                       exact ⟨by first | rfl | (simp; done) | (simp [*]; done),by repeat (first | exact Drawn0.refl _ | apply Drawn0.step)⟩
                     · rw [if_neg c31] at H
                       have c31b0 : (t388.toList == a0.toList) = false := beq_eq_false_iff_ne.mpr c31
                       have c31b1 : (t388.toList != a0.toList) = true := bne_iff_ne.mpr c31
                       simp only [Option.some.injEq,Prod.mk.injEq] at H
                       obtain ⟨rfl,rfl⟩ := H
                       go_wp2_with (first | ((with_reducible refine gate_callee (f := 37) rfl ?_); refine goesL_ (some 73) rfl rfl Tryz.func37 (by kernel_rfl) rfl #[.int .i64 x6_5] rfl (by (try simp only [List.map_toArray,List.map_cons,List.map_nil]); first | done | rfl | (simp only [List.length_drop,List.length_take]; rfl)) ?_; (with_reducible refine (dossierref01_Text.calls k5 x6_5 t388 _ A30.out).mono ?_); rintro e w' ⟨rfl,⟨nd,rfl⟩⟩; refine ⟨_,rfl,?_⟩))
                       go_ret2
                       exact ⟨by first | rfl | (simp; done) | (simp [*]; done),by repeat (first | exact Drawn0.refl _ | apply Drawn0.step)⟩
end
section
/-! ### dossierref08_integer: function 65 -/
def dossierref08_integer.l0 : Nat → ByteArray → Int → Option (Int × ByteArray × Int × Int × Bool)
 | 0,_,_ => none
 | k + 1,x0,x5 => if x5 < (x0.size : Int) then (if 0 ≤ x5 then ((dossierref08_digit.f (bt x0 x5)).bind fun t390 => (if t390 = true then (dossierref08_integer.l0 k x0 (wrap64 (x5 + 1))) else (if x5 ≤ (x0.size : Int) then ((dossierref01_Number.f k (x0.extract 0 (x5 : Int).toNat)).bind fun bt391 => (some (2,(⟨#[]⟩ : ByteArray),bt391.1,x5,(bt391.2 == 0)))) else (none)))) else (none)) else (if 0 ≤ x5 then (if x5 ≤ (x0.size : Int) then ((dossierref01_Number.f k (x0.extract 0 (x5 : Int).toNat)).bind fun bt393 => (some (2,(⟨#[]⟩ : ByteArray),bt393.1,x5,(bt393.2 == 0)))) else (none)) else (none))
def dossierref08_integer.f (k : Nat) (a0 : ByteArray) : Option (Int × ByteArray × Int × Int × Bool) := dossierref08_integer.l0 k a0 0
set_option maxHeartbeats 8000000 in
set_option maxRecDepth 100000 in
theorem dossierref08_integer.calls (k : Nat) (a0 : ByteArray) (r1 : Int) (r2 : ByteArray) (r3 : Int) (r4 : Int) (r5 : Bool) (w : World) (h : dossierref08_integer.f k a0 = some (r1,r2,r3,r4,r5)) :
 Calls Tryz.prog 65 #[.string a0] w fun e w' => e = .returned (.tuple #[.agg #[.int .i64 r1,.string r2,.int .i64 r3],.int .i64 r4,.bool r5]) ∧ Below w.heap.size w w' := by
 have hu43 := Tryz.underlying43
 have HB := Aside0.mk (Below.refl w.heap.size w)
 have H : (dossierref08_integer.l0 k a0 0) = some (r1,r2,r3,r4,r5) := h
 clear h
 have H' := Aside0.mk H
 clear H
 go_enter Tryz.func65,Tryz.ntmps65
 go_wp2_with (first | ((with_reducible refine gate_dst (N := 2) rfl ?_); refine box_event ?hg (N := 2) ?hd (cs := #[.int .i64 0,.string (⟨#[]⟩ : ByteArray),.int .i64 0]) (t := 43) ?hr ?_; (case hd => rfl); (case hg => rfl); (case hr => first | (go_simp; done) | (go_simp; rfl)); intro gb389 hg w2 hbox hb; have n0_ := Aside0.mk (below_step (by repeat (first | (with_reducible first | exact HB.out | apply below_alloc | apply pw_below_drewN | apply below_drew1 | apply bytes_below1) | exact HB.out)) hb); have n1_ := Aside0.mk (hbox); have n2_ := Aside0.mk ((by rw [hg]; exact (below_size (by repeat (first | (with_reducible first | exact HB.out | apply below_alloc | apply pw_below_drewN | apply below_drew1 | apply bytes_below1) | exact HB.out))) : w.heap.size ≤ gb389)); have n3_ := Aside0.mk ((by rw [hg]; exact (below_size (by repeat (first | (with_reducible first | exact HB.out | apply below_alloc | apply pw_below_drewN | apply below_drew1 | apply bytes_below1) | exact HB.out))) : w.heap.size ≤ gb389)); clear HB; have HB := n0_; have BK389 := n1_; have GW389 := n2_; have GE389 := n3_; clear n0_ n1_ n2_ n3_; clear hb hbox hg))
 go_loopg [5] k (fun kq v5 w' => ∃ (x5_1 : Int),v5 = .int .i64 x5_1 ∧ Aside0 (dossierref08_integer.l0 kq a0 x5_1 = some (r1,r2,r3,r4,r5)) ∧ Aside0 (kq ≤ k) ∧ Aside0 (w'.heap[gb389]? = some (.cells #[.int .i64 0,.string (⟨#[]⟩ : ByteArray),.int .i64 0] 43 (0,0))) ∧ Aside0 (Below w.heap.size w w'))
 case atStart => exact ⟨(0),(by first | rfl | (simp; done) | (simp [*]; done)),H',⟨Nat.le_refl _⟩,⟨by (with_reducible repeat (first | refine blk_bytes ?_ _ _ | refine blk_drewN ?_ _ | refine blk_drew ?_ | refine blk_alloc ?_ _)); exact BK389.out⟩,⟨by repeat (first | (with_reducible first | exact HB.out | apply below_alloc | apply pw_below_drewN | apply below_drew1 | apply bytes_below1 | refine below_set ?_ GE389.out) | exact HB.out)⟩⟩
 case round =>
  clear H'
  try clear p2
  obtain ⟨x5_1,rfl,HA,HK1,BK389,HB⟩ := hrel
  cases gk with
  | zero => exact absurd HA.out (by simp [dossierref08_integer.l0])
  | succ k1 =>
   have H := HA.out
   clear HA
   simp only [dossierref08_integer.l0] at H
   by_cases c3 : x5_1 < (a0.size : Int)
   · rw [if_pos c3] at H
     have c3b0 : decide (x5_1 < (a0.size : Int)) = true := decide_eq_true c3
     clear c3
     by_cases c4 : 0 ≤ x5_1
     · rw [if_pos c4] at H
       have c4b0 : decide (0 ≤ x5_1) = true := decide_eq_true c4
       clear c4
       replace H := Option.bind_eq_some_iff.mp H
       obtain ⟨t390,A60,H⟩ := H
       replace H : (if t390 = true then (dossierref08_integer.l0 k1 a0 (wrap64 (x5_1 + 1))) else (if x5_1 ≤ (a0.size : Int) then ((dossierref01_Number.f k1 (a0.extract 0 (x5_1 : Int).toNat)).bind fun bt391 => (some (2,(⟨#[]⟩ : ByteArray),bt391.1,x5_1,(bt391.2 == 0)))) else (none))) = some (r1,r2,r3,r4,r5) := H
       have A6 := Aside0.mk A60
       clear A60
       by_cases c7 : t390 = true
       · subst c7
         have H1 : (dossierref08_integer.l0 k1 a0 (wrap64 (x5_1 + 1))) = some (r1,r2,r3,r4,r5) := by rw [if_pos rfl] at H; exact H
         clear H
         have H := H1
         clear H1
         have H' := Aside0.mk H
         clear H
         have p5 : 0 ≤ (x5_1 : Int) := of_decide_eq_true (by first | (with_reducible assumption) | assumption)
         have q5 : x5_1 < (a0.size : Int) := of_decide_eq_true (by first | (with_reducible assumption) | assumption)
         have hx5 := bt_at a0 x5_1
         replace p5 := eq_true p5
         replace q5 := eq_true q5
         go_wp2_with (first | (go_at_call 64; (with_reducible refine (dossierref08_digit.calls (bt a0 x5_1) true _ A6.out).mono ?_); rintro e w' ⟨rfl,⟨nd,rfl⟩⟩))
         go_roundg k1
         case measure => have := HK1.out; omega
         case rel => exact ⟨(wrap64 (x5_1 + 1)),(by first | rfl | (simp; done) | (simp [*]; done)),H',⟨by have := HK1.out; omega⟩,⟨by (with_reducible repeat (first | refine blk_bytes ?_ _ _ | refine blk_drewN ?_ _ | refine blk_drew ?_ | refine blk_alloc ?_ _)); exact BK389.out⟩,⟨by repeat (first | (with_reducible first | exact HB.out | apply below_alloc | apply pw_below_drewN | apply below_drew1 | apply bytes_below1 | refine below_set ?_ GE389.out) | exact HB.out)⟩⟩
       · replace c7 := Bool.eq_false_iff.mpr c7
         subst c7
         have H1 : (if x5_1 ≤ (a0.size : Int) then ((dossierref01_Number.f k1 (a0.extract 0 (x5_1 : Int).toNat)).bind fun bt391 => (some (2,(⟨#[]⟩ : ByteArray),bt391.1,x5_1,(bt391.2 == 0)))) else (none)) = some (r1,r2,r3,r4,r5) := by rw [if_neg (show ¬ (false = true) by decide)] at H; exact H
         clear H
         have H := H1
         clear H1
         have c8b0 := eq_true (of_decide_eq_true (by first | (with_reducible assumption) | assumption) : 0 ≤ x5_1)
         by_cases c9 : x5_1 ≤ (a0.size : Int)
         · rw [if_pos c9] at H
           have c9b0 := eq_true c9
           have c9b1 : decide (x5_1 ≤ (a0.size : Int)) = true := decide_eq_true c9
           clear c9
           replace H := Option.bind_eq_some_iff.mp H
           obtain ⟨⟨t391,t392⟩,A100,H⟩ := H
           replace H : (some (2,(⟨#[]⟩ : ByteArray),t391,x5_1,(t392 == 0))) = some (r1,r2,r3,r4,r5) := H
           have A10 := Aside0.mk A100
           clear A100
           simp only [Option.some.injEq,Prod.mk.injEq] at H
           obtain ⟨rfl,rfl,rfl,rfl,rfl⟩ := H
           have p5 : 0 ≤ (x5_1 : Int) := of_decide_eq_true (by first | (with_reducible assumption) | assumption)
           have q5 : x5_1 < (a0.size : Int) := of_decide_eq_true (by first | (with_reducible assumption) | assumption)
           have hx5 := bt_at a0 x5_1
           replace p5 := eq_true p5
           replace q5 := eq_true q5
           go_wp2_with (first | (go_at_call 64; (with_reducible refine (dossierref08_digit.calls (bt a0 x5_1) false _ A6.out).mono ?_); rintro e w' ⟨rfl,⟨nd,rfl⟩⟩; (try (rw [drewN_self wr]; generalize hq_ : World.drewN wr _ = wr; have n0_ : Aside0 (wr.heap[gb389]? = some (.cells #[.int .i64 0,.string (⟨#[]⟩ : ByteArray),.int .i64 0] 43 (0,0))) := ⟨by rw [← hq_]; exact (by (with_reducible repeat (first | refine blk_bytes ?_ _ _ | refine blk_drewN ?_ _ | refine blk_drew ?_ | refine blk_alloc ?_ _)); exact BK389.out)⟩; have n1_ : Aside0 (Below w.heap.size w wr) := ⟨by rw [← hq_]; exact (by repeat (first | (with_reducible first | exact HB.out | apply below_alloc | apply pw_below_drewN | apply below_drew1 | apply bytes_below1 | refine below_set ?_ GE389.out) | exact HB.out))⟩; clear BK389 HB hq_; have BK389 := n0_; have HB := n1_; clear n0_ n1_))) | ((with_reducible refine gate_callee (f := 88) rfl ?_); refine goesL_ (some 24) rfl rfl Tryz.func88 (by kernel_rfl) rfl #[.string (a0.extract 0 (x5_1 : Int).toNat)] rfl (by (try simp only [List.map_toArray,List.map_cons,List.map_nil]); first | done | rfl | (simp only [List.length_drop,List.length_take]; rfl)) ?_; (with_reducible refine (dossierref01_Number.calls k1 (a0.extract 0 (x5_1 : Int).toNat) t391 t392 _ A10.out).mono ?_); rintro e w' ⟨rfl,⟨nd,rfl⟩⟩; refine ⟨_,rfl,?_⟩; (try (rw [drewN_self wr]; generalize hq_ : World.drewN wr _ = wr; have n0_ : Aside0 (wr.heap[gb389]? = some (.cells #[.int .i64 0,.string (⟨#[]⟩ : ByteArray),.int .i64 0] 43 (0,0))) := ⟨by rw [← hq_]; exact (by (with_reducible repeat (first | refine blk_bytes ?_ _ _ | refine blk_drewN ?_ _ | refine blk_drew ?_ | refine blk_alloc ?_ _)); exact BK389.out)⟩; have n1_ : Aside0 (Below w.heap.size w wr) := ⟨by rw [← hq_]; exact (by repeat (first | (with_reducible first | exact HB.out | apply below_alloc | apply pw_below_drewN | apply below_drew1 | apply bytes_below1 | refine below_set ?_ GE389.out) | exact HB.out))⟩; clear BK389 HB hq_; have BK389 := n0_; have HB := n1_; clear n0_ n1_)); have hcz11_0 : wr.cell? ⟨gb389,0,none⟩ = some (.int .i64 0) := (blk_cell BK389.out 0).trans rfl; have hcz11_1 : wr.cell? ⟨gb389,1,none⟩ = some (.string (⟨#[]⟩ : ByteArray)) := (blk_cell BK389.out 1).trans rfl; have hcz11_2 : wr.cell? ⟨gb389,2,none⟩ = some (.int .i64 0) := (blk_cell BK389.out 2).trans rfl; have hfz11_0 := blk_frozen BK389.out 0; have hfz11_1 := blk_frozen BK389.out 1; have hfz11_2 := blk_frozen BK389.out 2))
           refine bodyPost_ret (results_ctt rfl _ _ gb389 43 #[.int .i64 2,.string (⟨#[]⟩ : ByteArray),.int .i64 t391] (0,0) _ rfl (by (with_reducible repeat (first | refine blk_bytes ?_ _ _ | refine blk_drewN ?_ _ | refine blk_drew ?_ | refine blk_alloc ?_ _)); refine blk_put (cs := #[.int .i64 2,.string (⟨#[]⟩ : ByteArray),.int .i64 0]) ?_ 2 _ rfl; (with_reducible repeat (first | refine blk_bytes ?_ _ _ | refine blk_drewN ?_ _ | refine blk_drew ?_ | refine blk_alloc ?_ _)); refine blk_put (cs := #[.int .i64 2,.string (⟨#[]⟩ : ByteArray),.int .i64 0]) ?_ 1 _ rfl; (with_reducible repeat (first | refine blk_bytes ?_ _ _ | refine blk_drewN ?_ _ | refine blk_drew ?_ | refine blk_alloc ?_ _)); refine blk_put (cs := #[.int .i64 0,.string (⟨#[]⟩ : ByteArray),.int .i64 0]) ?_ 0 _ rfl; (with_reducible repeat (first | refine blk_bytes ?_ _ _ | refine blk_drewN ?_ _ | refine blk_drew ?_ | refine blk_alloc ?_ _)); exact BK389.out) Tryz.underlying43 rfl (by kernel_rfl)) rfl ?_
           exact ⟨by first | rfl | (simp [errW_none,errW_some] <;> rfl) | (simp [*,errW_none,errW_some] <;> rfl),by repeat (first | (with_reducible first | exact HB.out | apply below_alloc | apply pw_below_drewN | apply below_drew1 | apply bytes_below1 | refine below_set ?_ GE389.out) | exact HB.out)⟩
         · rw [if_neg c9] at H
           exact absurd H (by simp)
     · rw [if_neg c4] at H
       exact absurd H (by simp)
   · rw [if_neg c3] at H
     have c3b0 : decide (x5_1 < (a0.size : Int)) = false := decide_eq_false c3
     clear c3
     by_cases c12 : 0 ≤ x5_1
     · rw [if_pos c12] at H
       have c12b0 := eq_true c12
       have c12b1 : decide (0 ≤ x5_1) = true := decide_eq_true c12
       clear c12
       by_cases c13 : x5_1 ≤ (a0.size : Int)
       · rw [if_pos c13] at H
         have c13b0 := eq_true c13
         have c13b1 : decide (x5_1 ≤ (a0.size : Int)) = true := decide_eq_true c13
         clear c13
         replace H := Option.bind_eq_some_iff.mp H
         obtain ⟨⟨t393,t394⟩,A140,H⟩ := H
         replace H : (some (2,(⟨#[]⟩ : ByteArray),t393,x5_1,(t394 == 0))) = some (r1,r2,r3,r4,r5) := H
         have A14 := Aside0.mk A140
         clear A140
         simp only [Option.some.injEq,Prod.mk.injEq] at H
         obtain ⟨rfl,rfl,rfl,rfl,rfl⟩ := H
         go_wp2_with (first | ((with_reducible refine gate_callee (f := 88) rfl ?_); refine goesL_ (some 24) rfl rfl Tryz.func88 (by kernel_rfl) rfl #[.string (a0.extract 0 (x5_1 : Int).toNat)] rfl (by (try simp only [List.map_toArray,List.map_cons,List.map_nil]); first | done | rfl | (simp only [List.length_drop,List.length_take]; rfl)) ?_; (with_reducible refine (dossierref01_Number.calls k1 (a0.extract 0 (x5_1 : Int).toNat) t393 t394 _ A14.out).mono ?_); rintro e w' ⟨rfl,⟨nd,rfl⟩⟩; refine ⟨_,rfl,?_⟩; (try (rw [drewN_self wr]; generalize hq_ : World.drewN wr _ = wr; have n0_ : Aside0 (wr.heap[gb389]? = some (.cells #[.int .i64 0,.string (⟨#[]⟩ : ByteArray),.int .i64 0] 43 (0,0))) := ⟨by rw [← hq_]; exact (by (with_reducible repeat (first | refine blk_bytes ?_ _ _ | refine blk_drewN ?_ _ | refine blk_drew ?_ | refine blk_alloc ?_ _)); exact BK389.out)⟩; have n1_ : Aside0 (Below w.heap.size w wr) := ⟨by rw [← hq_]; exact (by repeat (first | (with_reducible first | exact HB.out | apply below_alloc | apply pw_below_drewN | apply below_drew1 | apply bytes_below1 | refine below_set ?_ GE389.out) | exact HB.out))⟩; clear BK389 HB hq_; have BK389 := n0_; have HB := n1_; clear n0_ n1_)); have hcz15_0 : wr.cell? ⟨gb389,0,none⟩ = some (.int .i64 0) := (blk_cell BK389.out 0).trans rfl; have hcz15_1 : wr.cell? ⟨gb389,1,none⟩ = some (.string (⟨#[]⟩ : ByteArray)) := (blk_cell BK389.out 1).trans rfl; have hcz15_2 : wr.cell? ⟨gb389,2,none⟩ = some (.int .i64 0) := (blk_cell BK389.out 2).trans rfl; have hfz15_0 := blk_frozen BK389.out 0; have hfz15_1 := blk_frozen BK389.out 1; have hfz15_2 := blk_frozen BK389.out 2))
         refine bodyPost_ret (results_ctt rfl _ _ gb389 43 #[.int .i64 2,.string (⟨#[]⟩ : ByteArray),.int .i64 t393] (0,0) _ rfl (by (with_reducible repeat (first | refine blk_bytes ?_ _ _ | refine blk_drewN ?_ _ | refine blk_drew ?_ | refine blk_alloc ?_ _)); refine blk_put (cs := #[.int .i64 2,.string (⟨#[]⟩ : ByteArray),.int .i64 0]) ?_ 2 _ rfl; (with_reducible repeat (first | refine blk_bytes ?_ _ _ | refine blk_drewN ?_ _ | refine blk_drew ?_ | refine blk_alloc ?_ _)); refine blk_put (cs := #[.int .i64 2,.string (⟨#[]⟩ : ByteArray),.int .i64 0]) ?_ 1 _ rfl; (with_reducible repeat (first | refine blk_bytes ?_ _ _ | refine blk_drewN ?_ _ | refine blk_drew ?_ | refine blk_alloc ?_ _)); refine blk_put (cs := #[.int .i64 0,.string (⟨#[]⟩ : ByteArray),.int .i64 0]) ?_ 0 _ rfl; (with_reducible repeat (first | refine blk_bytes ?_ _ _ | refine blk_drewN ?_ _ | refine blk_drew ?_ | refine blk_alloc ?_ _)); exact BK389.out) Tryz.underlying43 rfl (by kernel_rfl)) rfl ?_
         exact ⟨by first | rfl | (simp [errW_none,errW_some] <;> rfl) | (simp [*,errW_none,errW_some] <;> rfl),by repeat (first | (with_reducible first | exact HB.out | apply below_alloc | apply pw_below_drewN | apply below_drew1 | apply bytes_below1 | refine below_set ?_ GE389.out) | exact HB.out)⟩
       · rw [if_neg c13] at H
         exact absurd H (by simp)
     · rw [if_neg c12] at H
       exact absurd H (by simp)
end
section
/-! ### dossierref08_letter: function 67 -/
def dossierref08_letter.f (a0 : Int) : Option (Bool) := if a0 ≥ 65 then (if a0 ≤ 90 then (some true) else (if a0 ≥ 97 then (if a0 ≤ 122 then (some true) else (some (a0 == 95))) else (some (a0 == 95)))) else (if a0 ≥ 97 then (if a0 ≤ 122 then (some true) else (some (a0 == 95))) else (some (a0 == 95)))
set_option maxHeartbeats 8000000 in
set_option maxRecDepth 100000 in
theorem dossierref08_letter.calls (a0 : Int) (r : Bool) (w : World) (h : dossierref08_letter.f a0 = some r) :
 Calls Tryz.prog 67 #[.int .u8 a0] w fun e w' => e = .returned (.bool r) ∧ Drawn0 w w' := by
 have H : (if a0 ≥ 65 then (if a0 ≤ 90 then (some true) else (if a0 ≥ 97 then (if a0 ≤ 122 then (some true) else (some (a0 == 95))) else (some (a0 == 95)))) else (if a0 ≥ 97 then (if a0 ≤ 122 then (some true) else (some (a0 == 95))) else (some (a0 == 95)))) = some r := h
 clear h
 by_cases c2 : a0 ≥ 65
 · rw [if_pos c2] at H
   have c2b0 : decide (65 ≤ a0) = true := decide_eq_true c2
   clear c2
   by_cases c3 : a0 ≤ 90
   · rw [if_pos c3] at H
     have c3b0 : decide (a0 ≤ 90) = true := decide_eq_true c3
     clear c3
     obtain rfl := Option.some.inj H
     go_enter Tryz.func67,Tryz.ntmps67
     go_wp2
     go_ret
     exact ⟨by first | rfl | (simp; done) | (simp [*]; done),by repeat (first | exact Drawn0.refl _ | apply Drawn0.step)⟩
   · rw [if_neg c3] at H
     have c3b0 : decide (a0 ≤ 90) = false := decide_eq_false c3
     clear c3
     by_cases c4 : a0 ≥ 97
     · rw [if_pos c4] at H
       have c4b0 : decide (97 ≤ a0) = true := decide_eq_true c4
       clear c4
       by_cases c5 : a0 ≤ 122
       · rw [if_pos c5] at H
         have c5b0 : decide (a0 ≤ 122) = true := decide_eq_true c5
         clear c5
         obtain rfl := Option.some.inj H
         go_enter Tryz.func67,Tryz.ntmps67
         go_wp2
         go_ret
         exact ⟨by first | rfl | (simp; done) | (simp [*]; done),by repeat (first | exact Drawn0.refl _ | apply Drawn0.step)⟩
       · rw [if_neg c5] at H
         have c5b0 : decide (a0 ≤ 122) = false := decide_eq_false c5
         clear c5
         obtain rfl := Option.some.inj H
         go_enter Tryz.func67,Tryz.ntmps67
         go_wp2
         go_ret
         exact ⟨by first | rfl | (simp; done) | (simp [*]; done),by repeat (first | exact Drawn0.refl _ | apply Drawn0.step)⟩
     · rw [if_neg c4] at H
       have c4b0 : decide (97 ≤ a0) = false := decide_eq_false c4
       clear c4
       obtain rfl := Option.some.inj H
       go_enter Tryz.func67,Tryz.ntmps67
       go_wp2
       go_ret
       exact ⟨by first | rfl | (simp; done) | (simp [*]; done),by repeat (first | exact Drawn0.refl _ | apply Drawn0.step)⟩
 · rw [if_neg c2] at H
   have c2b0 : decide (65 ≤ a0) = false := decide_eq_false c2
   clear c2
   by_cases c6 : a0 ≥ 97
   · rw [if_pos c6] at H
     have c6b0 : decide (97 ≤ a0) = true := decide_eq_true c6
     clear c6
     by_cases c7 : a0 ≤ 122
     · rw [if_pos c7] at H
       have c7b0 : decide (a0 ≤ 122) = true := decide_eq_true c7
       clear c7
       obtain rfl := Option.some.inj H
       go_enter Tryz.func67,Tryz.ntmps67
       go_wp2
       go_ret
       exact ⟨by first | rfl | (simp; done) | (simp [*]; done),by repeat (first | exact Drawn0.refl _ | apply Drawn0.step)⟩
     · rw [if_neg c7] at H
       have c7b0 : decide (a0 ≤ 122) = false := decide_eq_false c7
       clear c7
       obtain rfl := Option.some.inj H
       go_enter Tryz.func67,Tryz.ntmps67
       go_wp2
       go_ret
       exact ⟨by first | rfl | (simp; done) | (simp [*]; done),by repeat (first | exact Drawn0.refl _ | apply Drawn0.step)⟩
   · rw [if_neg c6] at H
     have c6b0 : decide (97 ≤ a0) = false := decide_eq_false c6
     clear c6
     obtain rfl := Option.some.inj H
     go_enter Tryz.func67,Tryz.ntmps67
     go_wp2
     go_ret
     exact ⟨by first | rfl | (simp; done) | (simp [*]; done),by repeat (first | exact Drawn0.refl _ | apply Drawn0.step)⟩
end
end Go.Proofs.YtifgpigicgaadaaGreatDoor.Q
end
