/- Several texts in one, in their order. -/
import Derived.Test.YtokphdplckcgfaaDoorBExprParses4
import Derived.Test.YtokphdplckcgfaaDoorBExprParses5
import Derived.Lib.LaidU8T
import Derived.Lib.Join
import Derived.Lib.SlTrimSet
import Derived.RowKit
import Derived.Shelf.Lays7
import Derived.Shelf.Spec.DecodeRune
import Derived.Shelf.Spec.NilArms
import Derived.Shelf.Small.Strs
import Derived.Shelf.Strings.SlTrimAscii
import Derived.Test.YtokphdplckcgfaaDoorProg
import Derived.Shelf.Strings.OnBuilder
import Derived.Tactics
import Derived.WalkKit
section
set_option linter.unusedVariables false
namespace Go.Proofs.YtokphdplckcgfaaDoor.Q
open Go.RowKit Go.Proofs.YtokphdplckcgfaaDoorH Go.Proofs.YtokphdplckcgfaaDoorW.PrintWords Go.Proofs.YtokphdplckcgfaaDoorW.PrintLast Go.Proofs.YtokphdplckcgfaaDoorW.PrintMore
def errW : Option Int → Value
  | none => .nilIface
  | some c => .iface 0 (.int .i64 c)
def rd_L3 (xs : List (List Int)) (i : Int) : (List Int) := xs.getD i.toNat ([] : List Int)
structure S126 where
  f0 : Int
  f1 : Int
def z126 : S126 := ⟨(0 : Int), (0 : Int)⟩
def rd_T126 (xs : List S126) (i : Int) : S126 := xs.getD i.toNat z126
structure S50 where
  f0 : Int
  f1 : ByteArray
  f2 : Int
def z50 : S50 := ⟨(0 : Int), (⟨#[]⟩ : ByteArray), (0 : Int)⟩
def rd_T50 (xs : List S50) (i : Int) : S50 := xs.getD i.toNat z50
def rd_L7 (xs : List (List ByteArray)) (i : Int) : (List ByteArray) := xs.getD i.toNat ([] : List ByteArray)
structure S23 where
  f0 : Int
  f1 : Int
  f2 : Bool
  f3 : ByteArray
def z23 : S23 := ⟨(0 : Int), (0 : Int), false, (⟨#[]⟩ : ByteArray)⟩
def rd_T23 (xs : List S23) (i : Int) : S23 := xs.getD i.toNat z23
structure S26 where
  f0 : Int
  f1 : S23
  f2 : ByteArray
  f3 : Int
  f4 : (List S26)
def z26 : S26 := ⟨(0 : Int), z23, (⟨#[]⟩ : ByteArray), (0 : Int), ([] : List S26)⟩
def rd_T26 (xs : List S26) (i : Int) : S26 := xs.getD i.toNat z26
def strings_TrimLeft.f (a0 : ByteArray) (a1 : ByteArray) : Option ByteArray := if a1.data.toList.all (fun b => decide (b.toNat < 128)) = true ∧ a1.size < 4294967281 then some ⟨(Lib.trimLeftS a0.data.toList a1.data.toList).toArray⟩ else none
def strings_IndexByte.f (a0 : ByteArray) (a1 : Int) : Option Int := some (Lib.indexByte a0.data.toList a1.toNat.toUInt8)
def lexer_is.f (a0 : Int) (a1 : ByteArray) : Option (Bool) := (strings_IndexByte.f a1 a0).bind fun t101 => (some (decide (t101 ≥ 0)))
def lexer_run.l0 : Nat → ByteArray → ByteArray → Int → Option (ByteArray)
  | 0, _, _, _ => none
  | k + 1, x0, x1, x5 => if x5 < (x0.size : Int) then (if 0 ≤ x5 then ((lexer_is.f (bt x0 x5) x1).bind fun t102 => (if t102 = true then (lexer_run.l0 k x0 x1 (wrap64 (x5 + 1))) else (if x5 ≤ (x0.size : Int) then (some (x0.extract 0 (x5 : Int).toNat)) else (none)))) else (none)) else (if 0 ≤ x5 then (if x5 ≤ (x0.size : Int) then (some (x0.extract 0 (x5 : Int).toNat)) else (none)) else (none))
def lexer_run.f (k : Nat) (a0 : ByteArray) (a1 : ByteArray) : Option (ByteArray) := lexer_run.l0 k a0 a1 0
theorem lexer_run.mono_l : ∀ k, (∀ y0 y1 y2, LeO (lexer_run.l0 k y0 y1 y2) (lexer_run.l0 (k + 1) y0 y1 y2))
  | 0 => fun _ _ _ r h => by simp [lexer_run.l0] at h
  | k + 1 => by
    have ih0 := lexer_run.mono_l k
    · intro y0 y1 y2
      unfold lexer_run.l0
      repeat' first
      | (with_reducible exact ih0 _ _ _)
      | (with_reducible exact LeO.refl _)
      | (with_reducible exact LeO.none _)
      | (with_reducible refine LeO.ite ?_ ?_)
      | (with_reducible refine LeO.bind ?_ (fun _ => ?_))
      | exact ih0 _ _ _
      | exact LeO.none _
      | refine LeO.ite ?_ ?_
      | refine LeO.bind ?_ (fun _ => ?_)
theorem lexer_run.mono : ∀ a0 a1 k, LeO (lexer_run.f k a0 a1) (lexer_run.f (k + 1) a0 a1) := by
  intro a0 a1 k
  have ih0 := lexer_run.mono_l k
  unfold lexer_run.f
  repeat' first
      | (with_reducible exact ih0 _ _ _)
      | (with_reducible exact LeO.refl _)
      | (with_reducible exact LeO.none _)
      | (with_reducible refine LeO.ite ?_ ?_)
      | (with_reducible refine LeO.bind ?_ (fun _ => ?_))
      | exact ih0 _ _ _
      | exact LeO.none _
      | refine LeO.ite ?_ ?_
      | refine LeO.bind ?_ (fun _ => ?_)
mutual
def chars_Number.j0 : Nat → ByteArray → Bool → Option (Int × Int)
  | 0, _, _ => none
  | k + 1, x0, x4 => if x4 = true then (if 1 ≤ (x0.size : Int) then (chars_Number.j1 k x0 x4 (x0.extract 1 x0.size)) else (none)) else (chars_Number.j1 k x0 x4 x0)
def chars_Number.j1 : Nat → ByteArray → Bool → ByteArray → Option (Int × Int)
  | 0, _, _, _ => none
  | k + 1, x0, x4, x5 => if x5.toList = ([] : List UInt8) then (chars_Number.j2 k x4 x5 true) else (if 0 < (x5.size : Int) then (if (bt x5 0) = 48 then (chars_Number.j2 k x4 x5 (decide ((x0.size : Int) > 1))) else (chars_Number.j2 k x4 x5 false)) else (none))
def chars_Number.j2 : Nat → Bool → ByteArray → Bool → Option (Int × Int)
  | 0, _, _, _ => none
  | k + 1, x4, x5, x34 => if x34 = true then (some (0, 5)) else (if x5.size < 140737488355328 then (chars_Number.l0 k x4 0 (decide ((x5.size : Int) > 19)) x5 (x5.size : Int) 0) else none)
def chars_Number.l0 : Nat → Bool → Int → Bool → ByteArray → Int → Int → Option (Int × Int)
  | 0, _, _, _, _, _, _ => none
  | k + 1, x4, x6, x7, x39, x40, x41 => if x41 < x40 then (if 0 ≤ x41 then (if x41 < (x39.size : Int) then (if (bt x39 x41) < 48 then (chars_Number.j4 k x4 x6 x7 (bt x39 x41) x39 x40 x41 true) else (chars_Number.j4 k x4 x6 x7 (bt x39 x41) x39 x40 x41 (decide ((bt x39 x41) > 57)))) else (none)) else (none)) else (if x4 = true then (chars_Number.j5 k x4 x6 x7 9223372036854775808) else (chars_Number.j5 k x4 x6 x7 (9223372036854775808 - 1)))
def chars_Number.j4 : Nat → Bool → Int → Bool → Int → ByteArray → Int → Int → Bool → Option (Int × Int)
  | 0, _, _, _, _, _, _, _, _ => none
  | k + 1, x4, x6, x7, x9, x39, x40, x41, x50 => if x50 = true then (some (0, 5)) else (if x7 = true then (chars_Number.l0 k x4 x6 x7 x39 x40 (wrap64 (x41 + 1))) else (chars_Number.l0 k x4 (IntKind.u64.wrap ((IntKind.u64.wrap (10 * x6)) + ((x9 - 48) % 256))) x7 x39 x40 (wrap64 (x41 + 1))))
def chars_Number.j5 : Nat → Bool → Int → Bool → Int → Option (Int × Int)
  | 0, _, _, _, _ => none
  | k + 1, x4, x6, x7, x10 => if x7 = true then (chars_Number.j6 k x4 x6 true) else (chars_Number.j6 k x4 x6 (decide (x6 > x10)))
def chars_Number.j6 : Nat → Bool → Int → Bool → Option (Int × Int)
  | 0, _, _, _ => none
  | k + 1, x4, x6, x64 => if x64 = true then (some (0, 4)) else (if x4 = true then (some (wrap64 (-(wrap64 (x6))), 0)) else (some (wrap64 (x6), 0)))
end
def chars_Number.f (k : Nat) (a0 : ByteArray) : Option (Int × Int) := if (a0.size : Int) > 0 then (if 0 < (a0.size : Int) then (chars_Number.j0 k a0 ((bt a0 0) == 45)) else (none)) else (chars_Number.j0 k a0 false)
theorem chars_Number.mono_l : ∀ k, (∀ y0 y1, LeO (chars_Number.j0 k y0 y1) (chars_Number.j0 (k + 1) y0 y1)) ∧ (∀ y0 y1 y2, LeO (chars_Number.j1 k y0 y1 y2) (chars_Number.j1 (k + 1) y0 y1 y2)) ∧ (∀ y0 y1 y2, LeO (chars_Number.j2 k y0 y1 y2) (chars_Number.j2 (k + 1) y0 y1 y2)) ∧ (∀ y0 y1 y2 y3 y4 y5, LeO (chars_Number.l0 k y0 y1 y2 y3 y4 y5) (chars_Number.l0 (k + 1) y0 y1 y2 y3 y4 y5)) ∧ (∀ y0 y1 y2 y3 y4 y5 y6 y7, LeO (chars_Number.j4 k y0 y1 y2 y3 y4 y5 y6 y7) (chars_Number.j4 (k + 1) y0 y1 y2 y3 y4 y5 y6 y7)) ∧ (∀ y0 y1 y2 y3, LeO (chars_Number.j5 k y0 y1 y2 y3) (chars_Number.j5 (k + 1) y0 y1 y2 y3)) ∧ (∀ y0 y1 y2, LeO (chars_Number.j6 k y0 y1 y2) (chars_Number.j6 (k + 1) y0 y1 y2))
  | 0 => ⟨fun _ _ r h => by simp [chars_Number.j0] at h, fun _ _ _ r h => by simp [chars_Number.j1] at h, fun _ _ _ r h => by simp [chars_Number.j2] at h, fun _ _ _ _ _ _ r h => by simp [chars_Number.l0] at h, fun _ _ _ _ _ _ _ _ r h => by simp [chars_Number.j4] at h, fun _ _ _ _ r h => by simp [chars_Number.j5] at h, fun _ _ _ r h => by simp [chars_Number.j6] at h⟩
  | k + 1 => by
    obtain ⟨ih0, ih1, ih2, ih3, ih4, ih5, ih6⟩ := chars_Number.mono_l k
    refine ⟨?_, ?_, ?_, ?_, ?_, ?_, ?_⟩
    · intro y0 y1
      unfold chars_Number.j0
      repeat' first
      | (with_reducible exact ih0 _ _)
      | (with_reducible exact ih1 _ _ _)
      | (with_reducible exact ih2 _ _ _)
      | (with_reducible exact ih3 _ _ _ _ _ _)
      | (with_reducible exact ih4 _ _ _ _ _ _ _ _)
      | (with_reducible exact ih5 _ _ _ _)
      | (with_reducible exact ih6 _ _ _)
      | (with_reducible exact LeO.refl _)
      | (with_reducible exact LeO.none _)
      | (with_reducible refine LeO.ite ?_ ?_)
      | (with_reducible refine LeO.bind ?_ (fun _ => ?_))
      | exact ih0 _ _
      | exact ih1 _ _ _
      | exact ih2 _ _ _
      | exact ih3 _ _ _ _ _ _
      | exact ih4 _ _ _ _ _ _ _ _
      | exact ih5 _ _ _ _
      | exact ih6 _ _ _
      | exact LeO.none _
      | refine LeO.ite ?_ ?_
      | refine LeO.bind ?_ (fun _ => ?_)
    · intro y0 y1 y2
      unfold chars_Number.j1
      repeat' first
      | (with_reducible exact ih0 _ _)
      | (with_reducible exact ih1 _ _ _)
      | (with_reducible exact ih2 _ _ _)
      | (with_reducible exact ih3 _ _ _ _ _ _)
      | (with_reducible exact ih4 _ _ _ _ _ _ _ _)
      | (with_reducible exact ih5 _ _ _ _)
      | (with_reducible exact ih6 _ _ _)
      | (with_reducible exact LeO.refl _)
      | (with_reducible exact LeO.none _)
      | (with_reducible refine LeO.ite ?_ ?_)
      | (with_reducible refine LeO.bind ?_ (fun _ => ?_))
      | exact ih0 _ _
      | exact ih1 _ _ _
      | exact ih2 _ _ _
      | exact ih3 _ _ _ _ _ _
      | exact ih4 _ _ _ _ _ _ _ _
      | exact ih5 _ _ _ _
      | exact ih6 _ _ _
      | exact LeO.none _
      | refine LeO.ite ?_ ?_
      | refine LeO.bind ?_ (fun _ => ?_)
    · intro y0 y1 y2
      unfold chars_Number.j2
      repeat' first
      | (with_reducible exact ih0 _ _)
      | (with_reducible exact ih1 _ _ _)
      | (with_reducible exact ih2 _ _ _)
      | (with_reducible exact ih3 _ _ _ _ _ _)
      | (with_reducible exact ih4 _ _ _ _ _ _ _ _)
      | (with_reducible exact ih5 _ _ _ _)
      | (with_reducible exact ih6 _ _ _)
      | (with_reducible exact LeO.refl _)
      | (with_reducible exact LeO.none _)
      | (with_reducible refine LeO.ite ?_ ?_)
      | (with_reducible refine LeO.bind ?_ (fun _ => ?_))
      | exact ih0 _ _
      | exact ih1 _ _ _
      | exact ih2 _ _ _
      | exact ih3 _ _ _ _ _ _
      | exact ih4 _ _ _ _ _ _ _ _
      | exact ih5 _ _ _ _
      | exact ih6 _ _ _
      | exact LeO.none _
      | refine LeO.ite ?_ ?_
      | refine LeO.bind ?_ (fun _ => ?_)
    · intro y0 y1 y2 y3 y4 y5
      unfold chars_Number.l0
      repeat' first
      | (with_reducible exact ih0 _ _)
      | (with_reducible exact ih1 _ _ _)
      | (with_reducible exact ih2 _ _ _)
      | (with_reducible exact ih3 _ _ _ _ _ _)
      | (with_reducible exact ih4 _ _ _ _ _ _ _ _)
      | (with_reducible exact ih5 _ _ _ _)
      | (with_reducible exact ih6 _ _ _)
      | (with_reducible exact LeO.refl _)
      | (with_reducible exact LeO.none _)
      | (with_reducible refine LeO.ite ?_ ?_)
      | (with_reducible refine LeO.bind ?_ (fun _ => ?_))
      | exact ih0 _ _
      | exact ih1 _ _ _
      | exact ih2 _ _ _
      | exact ih3 _ _ _ _ _ _
      | exact ih4 _ _ _ _ _ _ _ _
      | exact ih5 _ _ _ _
      | exact ih6 _ _ _
      | exact LeO.none _
      | refine LeO.ite ?_ ?_
      | refine LeO.bind ?_ (fun _ => ?_)
    · intro y0 y1 y2 y3 y4 y5 y6 y7
      unfold chars_Number.j4
      repeat' first
      | (with_reducible exact ih0 _ _)
      | (with_reducible exact ih1 _ _ _)
      | (with_reducible exact ih2 _ _ _)
      | (with_reducible exact ih3 _ _ _ _ _ _)
      | (with_reducible exact ih4 _ _ _ _ _ _ _ _)
      | (with_reducible exact ih5 _ _ _ _)
      | (with_reducible exact ih6 _ _ _)
      | (with_reducible exact LeO.refl _)
      | (with_reducible exact LeO.none _)
      | (with_reducible refine LeO.ite ?_ ?_)
      | (with_reducible refine LeO.bind ?_ (fun _ => ?_))
      | exact ih0 _ _
      | exact ih1 _ _ _
      | exact ih2 _ _ _
      | exact ih3 _ _ _ _ _ _
      | exact ih4 _ _ _ _ _ _ _ _
      | exact ih5 _ _ _ _
      | exact ih6 _ _ _
      | exact LeO.none _
      | refine LeO.ite ?_ ?_
      | refine LeO.bind ?_ (fun _ => ?_)
    · intro y0 y1 y2 y3
      unfold chars_Number.j5
      repeat' first
      | (with_reducible exact ih0 _ _)
      | (with_reducible exact ih1 _ _ _)
      | (with_reducible exact ih2 _ _ _)
      | (with_reducible exact ih3 _ _ _ _ _ _)
      | (with_reducible exact ih4 _ _ _ _ _ _ _ _)
      | (with_reducible exact ih5 _ _ _ _)
      | (with_reducible exact ih6 _ _ _)
      | (with_reducible exact LeO.refl _)
      | (with_reducible exact LeO.none _)
      | (with_reducible refine LeO.ite ?_ ?_)
      | (with_reducible refine LeO.bind ?_ (fun _ => ?_))
      | exact ih0 _ _
      | exact ih1 _ _ _
      | exact ih2 _ _ _
      | exact ih3 _ _ _ _ _ _
      | exact ih4 _ _ _ _ _ _ _ _
      | exact ih5 _ _ _ _
      | exact ih6 _ _ _
      | exact LeO.none _
      | refine LeO.ite ?_ ?_
      | refine LeO.bind ?_ (fun _ => ?_)
    · intro y0 y1 y2
      unfold chars_Number.j6
      repeat' first
      | (with_reducible exact ih0 _ _)
      | (with_reducible exact ih1 _ _ _)
      | (with_reducible exact ih2 _ _ _)
      | (with_reducible exact ih3 _ _ _ _ _ _)
      | (with_reducible exact ih4 _ _ _ _ _ _ _ _)
      | (with_reducible exact ih5 _ _ _ _)
      | (with_reducible exact ih6 _ _ _)
      | (with_reducible exact LeO.refl _)
      | (with_reducible exact LeO.none _)
      | (with_reducible refine LeO.ite ?_ ?_)
      | (with_reducible refine LeO.bind ?_ (fun _ => ?_))
      | exact ih0 _ _
      | exact ih1 _ _ _
      | exact ih2 _ _ _
      | exact ih3 _ _ _ _ _ _
      | exact ih4 _ _ _ _ _ _ _ _
      | exact ih5 _ _ _ _
      | exact ih6 _ _ _
      | exact LeO.none _
      | refine LeO.ite ?_ ?_
      | refine LeO.bind ?_ (fun _ => ?_)
theorem chars_Number.mono : ∀ a0 k, LeO (chars_Number.f k a0) (chars_Number.f (k + 1) a0) := by
  intro a0 k
  obtain ⟨ih0, ih1, ih2, ih3, ih4, ih5, ih6⟩ := chars_Number.mono_l k
  unfold chars_Number.f
  repeat' first
      | (with_reducible exact ih0 _ _)
      | (with_reducible exact ih1 _ _ _)
      | (with_reducible exact ih2 _ _ _)
      | (with_reducible exact ih3 _ _ _ _ _ _)
      | (with_reducible exact ih4 _ _ _ _ _ _ _ _)
      | (with_reducible exact ih5 _ _ _ _)
      | (with_reducible exact ih6 _ _ _)
      | (with_reducible exact LeO.refl _)
      | (with_reducible exact LeO.none _)
      | (with_reducible refine LeO.ite ?_ ?_)
      | (with_reducible refine LeO.bind ?_ (fun _ => ?_))
      | exact ih0 _ _
      | exact ih1 _ _ _
      | exact ih2 _ _ _
      | exact ih3 _ _ _ _ _ _
      | exact ih4 _ _ _ _ _ _ _ _
      | exact ih5 _ _ _ _
      | exact ih6 _ _ _
      | exact LeO.none _
      | refine LeO.ite ?_ ?_
      | refine LeO.bind ?_ (fun _ => ?_)
def utf8_DecodeRune.f (l0 : List Int) : Option (Int × Int) := if (l0.all fun x => decide (0 ≤ x) && decide (x < 256)) = true then some (((Lib.decodeGo (strOfNums l0)).1 : Int), ((Lib.decodeGo (strOfNums l0)).2 : Int)) else none
def chars_Decode.f (l0 : List Int) : Option (Int × Int) := (utf8_DecodeRune.f l0).bind fun bt103 => (if bt103.1 = 65533 then (if bt103.2 ≤ 1 then (some (0, 0)) else (some (wrap64 (bt103.1), bt103.2))) else (some (wrap64 (bt103.1), bt103.2)))
def chars_in.l0 : Nat → Int → List (S126) → Int → Int → Option (Bool)
  | 0, _, _, _, _ => none
  | k + 1, x0, x7, x8, x9 => if x9 < x8 then (if 0 ≤ x9 then (if x9 < (x7.length : Int) then (if ((rd_T126 x7 x9).f0) ≤ x0 then (if x0 ≤ ((rd_T126 x7 x9).f1) then (some true) else (chars_in.l0 k x0 x7 x8 (wrap64 (x9 + 1)))) else (chars_in.l0 k x0 x7 x8 (wrap64 (x9 + 1)))) else (none)) else (none)) else (some false)
def chars_in.f (k : Nat) (a0 : Int) (l1 : List (S126)) : Option (Bool) := chars_in.l0 k a0 l1 (l1.length : Int) 0
theorem chars_in.mono_l : ∀ k, (∀ y0 y1 y2 y3, LeO (chars_in.l0 k y0 y1 y2 y3) (chars_in.l0 (k + 1) y0 y1 y2 y3))
  | 0 => fun _ _ _ _ r h => by simp [chars_in.l0] at h
  | k + 1 => by
    have ih0 := chars_in.mono_l k
    · intro y0 y1 y2 y3
      unfold chars_in.l0
      repeat' first
      | (with_reducible exact ih0 _ _ _ _)
      | (with_reducible exact LeO.refl _)
      | (with_reducible exact LeO.none _)
      | (with_reducible refine LeO.ite ?_ ?_)
      | (with_reducible refine LeO.bind ?_ (fun _ => ?_))
      | exact ih0 _ _ _ _
      | exact LeO.none _
      | refine LeO.ite ?_ ?_
      | refine LeO.bind ?_ (fun _ => ?_)
theorem chars_in.mono : ∀ a0 a1 k, LeO (chars_in.f k a0 a1) (chars_in.f (k + 1) a0 a1) := by
  intro a0 a1 k
  have ih0 := chars_in.mono_l k
  unfold chars_in.f
  repeat' first
      | (with_reducible exact ih0 _ _ _ _)
      | (with_reducible exact LeO.refl _)
      | (with_reducible exact LeO.none _)
      | (with_reducible refine LeO.ite ?_ ?_)
      | (with_reducible refine LeO.bind ?_ (fun _ => ?_))
      | exact ih0 _ _ _ _
      | exact LeO.none _
      | refine LeO.ite ?_ ?_
      | refine LeO.bind ?_ (fun _ => ?_)
def chars_ofXML.f (k : Nat) (a0 : Int) : Option (Bool) := (chars_in.f k a0 (([(⟨32, 55295⟩ : S126), (⟨9, 10⟩ : S126), (⟨13, 13⟩ : S126), (⟨57344, 65533⟩ : S126), (⟨65536, 1114111⟩ : S126)] : List (S126)))).bind fun t110 => (some t110)
theorem chars_ofXML.mono : ∀ a0 k, LeO (chars_ofXML.f k a0) (chars_ofXML.f (k + 1) a0) := by
  intro a0 k
  unfold chars_ofXML.f
  repeat' first
      | (with_reducible exact chars_in.mono _ _ _)
      | (with_reducible exact LeO.refl _)
      | (with_reducible exact LeO.none _)
      | (with_reducible refine LeO.ite ?_ ?_)
      | (with_reducible refine LeO.bind ?_ (fun _ => ?_))
      | exact chars_in.mono _ _ _
      | exact LeO.none _
      | refine LeO.ite ?_ ?_
      | refine LeO.bind ?_ (fun _ => ?_)
def chars_Wrong.l0 : Nat → List Int → Int → Option (Int)
  | 0, _, _ => none
  | k + 1, x0, x3 => if x3 < (x0.length : Int) then (if 0 ≤ x3 then (if x3 ≤ (x0.length : Int) then ((chars_Decode.f (x0.drop (x3 : Int).toNat)).bind fun bt112 => (if bt112.2 = 0 then (some x3) else ((chars_ofXML.f k bt112.1).bind fun t114 => (if t114 = true then (chars_Wrong.l0 k x0 (wrap64 (x3 + bt112.2))) else (some x3))))) else (none)) else (none)) else (some (-1))
def chars_Wrong.f (k : Nat) (l0 : List Int) : Option (Int) := chars_Wrong.l0 k l0 0
theorem chars_Wrong.mono_l : ∀ k, (∀ y0 y1, LeO (chars_Wrong.l0 k y0 y1) (chars_Wrong.l0 (k + 1) y0 y1))
  | 0 => fun _ _ r h => by simp [chars_Wrong.l0] at h
  | k + 1 => by
    have ih0 := chars_Wrong.mono_l k
    · intro y0 y1
      unfold chars_Wrong.l0
      repeat' first
      | (with_reducible exact ih0 _ _)
      | (with_reducible exact chars_ofXML.mono _ _)
      | (with_reducible exact LeO.refl _)
      | (with_reducible exact LeO.none _)
      | (with_reducible refine LeO.ite ?_ ?_)
      | (with_reducible refine LeO.bind ?_ (fun _ => ?_))
      | exact ih0 _ _
      | exact chars_ofXML.mono _ _
      | exact LeO.none _
      | refine LeO.ite ?_ ?_
      | refine LeO.bind ?_ (fun _ => ?_)
theorem chars_Wrong.mono : ∀ a0 k, LeO (chars_Wrong.f k a0) (chars_Wrong.f (k + 1) a0) := by
  intro a0 k
  have ih0 := chars_Wrong.mono_l k
  unfold chars_Wrong.f
  repeat' first
      | (with_reducible exact ih0 _ _)
      | (with_reducible exact chars_ofXML.mono _ _)
      | (with_reducible exact LeO.refl _)
      | (with_reducible exact LeO.none _)
      | (with_reducible refine LeO.ite ?_ ?_)
      | (with_reducible refine LeO.bind ?_ (fun _ => ?_))
      | exact ih0 _ _
      | exact chars_ofXML.mono _ _
      | exact LeO.none _
      | refine LeO.ite ?_ ?_
      | refine LeO.bind ?_ (fun _ => ?_)
mutual
def lexer_quoted.l0 : Nat → ByteArray → List Int → Int → Option (ByteArray × Int)
  | 0, _, _, _ => none
  | k + 1, x0, x4, x5 => if x5 < (x0.size : Int) then (if 0 ≤ x5 then (if (bt x0 x5) = 34 then (if (x4.length : Int) > 256 then (lexer_quoted.j1 k x4 x5 true) else ((chars_Wrong.f k x4).bind fun t122 => (lexer_quoted.j1 k x4 x5 (decide (t122 ≥ 0))))) else (if (bt x0 x5) = 92 then (if (wrap64 (x5 + 1)) = (x0.size : Int) then (some ((⟨#[]⟩ : ByteArray), 0)) else (if 0 ≤ (wrap64 (x5 + 1)) then (if (wrap64 (x5 + 1)) < (x0.size : Int) then ((lexer_is.f (bt x0 (wrap64 (x5 + 1))) (⟨#[34, 92]⟩ : ByteArray)).bind fun t115 => (if t115 = true then (if x4.length < 140737488355328 then (lexer_quoted.l0 k x0 (x4 ++ [bt x0 (wrap64 (x5 + 1))]) (wrap64 ((wrap64 (x5 + 1)) + 1))) else (none)) else (some ((⟨#[]⟩ : ByteArray), 0)))) else (none)) else (none))) else (if x4.length < 140737488355328 then (lexer_quoted.l0 k x0 (x4 ++ [bt x0 x5]) (wrap64 (x5 + 1))) else (none)))) else (none)) else (some ((⟨#[]⟩ : ByteArray), 0))
def lexer_quoted.j1 : Nat → List Int → Int → Bool → Option (ByteArray × Int)
  | 0, _, _, _ => none
  | k + 1, x4, x5, x29 => if x29 = true then (some ((⟨#[]⟩ : ByteArray), 0)) else (some (strOfNums x4, wrap64 (x5 + 1)))
end
def lexer_quoted.f (k : Nat) (a0 : ByteArray) : Option (ByteArray × Int) := lexer_quoted.l0 k a0 ([] : List Int) 1
theorem lexer_quoted.mono_l : ∀ k, (∀ y0 y1 y2, LeO (lexer_quoted.l0 k y0 y1 y2) (lexer_quoted.l0 (k + 1) y0 y1 y2)) ∧ (∀ y0 y1 y2, LeO (lexer_quoted.j1 k y0 y1 y2) (lexer_quoted.j1 (k + 1) y0 y1 y2))
  | 0 => ⟨fun _ _ _ r h => by simp [lexer_quoted.l0] at h, fun _ _ _ r h => by simp [lexer_quoted.j1] at h⟩
  | k + 1 => by
    obtain ⟨ih0, ih1⟩ := lexer_quoted.mono_l k
    refine ⟨?_, ?_⟩
    · intro y0 y1 y2
      unfold lexer_quoted.l0
      repeat' first
      | (with_reducible exact ih0 _ _ _)
      | (with_reducible exact ih1 _ _ _)
      | (with_reducible exact chars_Wrong.mono _ _)
      | (with_reducible exact LeO.refl _)
      | (with_reducible exact LeO.none _)
      | (with_reducible refine LeO.ite ?_ ?_)
      | (with_reducible refine LeO.bind ?_ (fun _ => ?_))
      | exact ih0 _ _ _
      | exact ih1 _ _ _
      | exact chars_Wrong.mono _ _
      | exact LeO.none _
      | refine LeO.ite ?_ ?_
      | refine LeO.bind ?_ (fun _ => ?_)
    · intro y0 y1 y2
      unfold lexer_quoted.j1
      repeat' first
      | (with_reducible exact ih0 _ _ _)
      | (with_reducible exact ih1 _ _ _)
      | (with_reducible exact chars_Wrong.mono _ _)
      | (with_reducible exact LeO.refl _)
      | (with_reducible exact LeO.none _)
      | (with_reducible refine LeO.ite ?_ ?_)
      | (with_reducible refine LeO.bind ?_ (fun _ => ?_))
      | exact ih0 _ _ _
      | exact ih1 _ _ _
      | exact chars_Wrong.mono _ _
      | exact LeO.none _
      | refine LeO.ite ?_ ?_
      | refine LeO.bind ?_ (fun _ => ?_)
theorem lexer_quoted.mono : ∀ a0 k, LeO (lexer_quoted.f k a0) (lexer_quoted.f (k + 1) a0) := by
  intro a0 k
  obtain ⟨ih0, ih1⟩ := lexer_quoted.mono_l k
  unfold lexer_quoted.f
  repeat' first
      | (with_reducible exact ih0 _ _ _)
      | (with_reducible exact ih1 _ _ _)
      | (with_reducible exact chars_Wrong.mono _ _)
      | (with_reducible exact LeO.refl _)
      | (with_reducible exact LeO.none _)
      | (with_reducible refine LeO.ite ?_ ?_)
      | (with_reducible refine LeO.bind ?_ (fun _ => ?_))
      | exact ih0 _ _ _
      | exact ih1 _ _ _
      | exact chars_Wrong.mono _ _
      | exact LeO.none _
      | refine LeO.ite ?_ ?_
      | refine LeO.bind ?_ (fun _ => ?_)
def lexer_sign.l0 : Nat → ByteArray → Int → Option (ByteArray)
  | 0, _, _ => none
  | k + 1, x0, x3 => if x3 > 0 then (if 0 ≤ x3 then (if x3 ≤ (x0.size : Int) then (if (x0.extract 0 (x3 : Int).toNat).toList = ([60, 61] : List UInt8) then (some (x0.extract 0 (x3 : Int).toNat)) else (if (x0.extract 0 (x3 : Int).toNat).toList = ([62, 61] : List UInt8) then (some (x0.extract 0 (x3 : Int).toNat)) else (if (x0.extract 0 (x3 : Int).toNat).toList = ([33, 61] : List UInt8) then (some (x0.extract 0 (x3 : Int).toNat)) else (if (x0.extract 0 (x3 : Int).toNat).toList = ([40] : List UInt8) then (some (x0.extract 0 (x3 : Int).toNat)) else (if (x0.extract 0 (x3 : Int).toNat).toList = ([41] : List UInt8) then (some (x0.extract 0 (x3 : Int).toNat)) else (if (x0.extract 0 (x3 : Int).toNat).toList = ([46] : List UInt8) then (some (x0.extract 0 (x3 : Int).toNat)) else (if (x0.extract 0 (x3 : Int).toNat).toList = ([44] : List UInt8) then (some (x0.extract 0 (x3 : Int).toNat)) else (if (x0.extract 0 (x3 : Int).toNat).toList = ([43] : List UInt8) then (some (x0.extract 0 (x3 : Int).toNat)) else (if (x0.extract 0 (x3 : Int).toNat).toList = ([45] : List UInt8) then (some (x0.extract 0 (x3 : Int).toNat)) else (if (x0.extract 0 (x3 : Int).toNat).toList = ([42] : List UInt8) then (some (x0.extract 0 (x3 : Int).toNat)) else (if (x0.extract 0 (x3 : Int).toNat).toList = ([47] : List UInt8) then (some (x0.extract 0 (x3 : Int).toNat)) else (if (x0.extract 0 (x3 : Int).toNat).toList = ([37] : List UInt8) then (some (x0.extract 0 (x3 : Int).toNat)) else (if (x0.extract 0 (x3 : Int).toNat).toList = ([60] : List UInt8) then (some (x0.extract 0 (x3 : Int).toNat)) else (if (x0.extract 0 (x3 : Int).toNat).toList = ([62] : List UInt8) then (some (x0.extract 0 (x3 : Int).toNat)) else (if (x0.extract 0 (x3 : Int).toNat).toList = ([61] : List UInt8) then (some (x0.extract 0 (x3 : Int).toNat)) else (lexer_sign.l0 k x0 (wrap64 (x3 - 1)))))))))))))))))) else (none)) else (none)) else (some (⟨#[]⟩ : ByteArray))
def lexer_sign.f (k : Nat) (a0 : ByteArray) : Option (ByteArray) := lexer_sign.l0 k a0 (mn 2 (a0.size : Int))
theorem lexer_sign.mono_l : ∀ k, (∀ y0 y1, LeO (lexer_sign.l0 k y0 y1) (lexer_sign.l0 (k + 1) y0 y1))
  | 0 => fun _ _ r h => by simp [lexer_sign.l0] at h
  | k + 1 => by
    have ih0 := lexer_sign.mono_l k
    · intro y0 y1
      unfold lexer_sign.l0
      repeat' first
      | (with_reducible exact ih0 _ _)
      | (with_reducible exact LeO.refl _)
      | (with_reducible exact LeO.none _)
      | (with_reducible refine LeO.ite ?_ ?_)
      | (with_reducible refine LeO.bind ?_ (fun _ => ?_))
      | exact ih0 _ _
      | exact LeO.none _
      | refine LeO.ite ?_ ?_
      | refine LeO.bind ?_ (fun _ => ?_)
theorem lexer_sign.mono : ∀ a0 k, LeO (lexer_sign.f k a0) (lexer_sign.f (k + 1) a0) := by
  intro a0 k
  have ih0 := lexer_sign.mono_l k
  unfold lexer_sign.f
  repeat' first
      | (with_reducible exact ih0 _ _)
      | (with_reducible exact LeO.refl _)
      | (with_reducible exact LeO.none _)
      | (with_reducible refine LeO.ite ?_ ?_)
      | (with_reducible refine LeO.bind ?_ (fun _ => ?_))
      | exact ih0 _ _
      | exact LeO.none _
      | refine LeO.ite ?_ ?_
      | refine LeO.bind ?_ (fun _ => ?_)
def lexer_word.f (k : Nat) (a0 : ByteArray) : Option (Int × ByteArray × Int × Int) := if 0 < (a0.size : Int) then ((lexer_is.f (bt a0 0) (⟨#[65, 66, 67, 68, 69, 70, 71, 72, 73, 74, 75, 76, 77, 78, 79, 80, 81, 82, 83, 84, 85, 86, 87, 88, 89, 90, 97, 98, 99, 100, 101, 102, 103, 104, 105, 106, 107, 108, 109, 110, 111, 112, 113, 114, 115, 116, 117, 118, 119, 120, 121, 122, 95]⟩ : ByteArray)).bind fun t124 => (if t124 = true then ((lexer_run.f k a0 (⟨#[65, 66, 67, 68, 69, 70, 71, 72, 73, 74, 75, 76, 77, 78, 79, 80, 81, 82, 83, 84, 85, 86, 87, 88, 89, 90, 97, 98, 99, 100, 101, 102, 103, 104, 105, 106, 107, 108, 109, 110, 111, 112, 113, 114, 115, 116, 117, 118, 119, 120, 121, 122, 95, 48, 49, 50, 51, 52, 53, 54, 55, 56, 57]⟩ : ByteArray)).bind fun t125 => (some (1, t125, 0, (t125.size : Int)))) else ((lexer_is.f (bt a0 0) (⟨#[48, 49, 50, 51, 52, 53, 54, 55, 56, 57]⟩ : ByteArray)).bind fun t126 => (if t126 = true then ((lexer_run.f k a0 (⟨#[48, 49, 50, 51, 52, 53, 54, 55, 56, 57]⟩ : ByteArray)).bind fun t127 => ((chars_Number.f k t127).bind fun bt128 => (if bt128.2 = 0 then (some (2, (⟨#[]⟩ : ByteArray), bt128.1, (t127.size : Int))) else (some (0, (⟨#[]⟩ : ByteArray), 0, 0))))) else (if (bt a0 0) = 34 then ((lexer_quoted.f k a0).bind fun bt130 => (some (3, bt130.1, 0, bt130.2))) else ((lexer_sign.f k a0).bind fun t132 => (some (4, t132, 0, (t132.size : Int))))))))) else (none)
theorem lexer_word.mono : ∀ a0 k, LeO (lexer_word.f k a0) (lexer_word.f (k + 1) a0) := by
  intro a0 k
  unfold lexer_word.f
  repeat' first
      | (with_reducible exact chars_Number.mono _ _)
      | (with_reducible exact lexer_quoted.mono _ _)
      | (with_reducible exact lexer_run.mono _ _ _)
      | (with_reducible exact lexer_sign.mono _ _)
      | (with_reducible exact LeO.refl _)
      | (with_reducible exact LeO.none _)
      | (with_reducible refine LeO.ite ?_ ?_)
      | (with_reducible refine LeO.bind ?_ (fun _ => ?_))
      | exact chars_Number.mono _ _
      | exact lexer_quoted.mono _ _
      | exact lexer_run.mono _ _ _
      | exact lexer_sign.mono _ _
      | exact LeO.none _
      | refine LeO.ite ?_ ?_
      | refine LeO.bind ?_ (fun _ => ?_)
def lexer_Words.l0 : Nat → ByteArray → List (S50) → ByteArray → Option ((List (S50)) × Int × Int)
  | 0, _, _, _ => none
  | k + 1, x0, x5, x6 => if x6.toList = ([] : List UInt8) then (if x5.length < 4398046511104 then (some ((x5 ++ [(⟨0, (⟨#[]⟩ : ByteArray), 0⟩ : S50)]), 0, 0)) else (none)) else ((lexer_word.f k x6).bind fun bt137 => (if bt137.2.2.2 = 0 then (some (([] : List (S50)), wrap64 ((x0.size : Int) - (x6.size : Int)), 20)) else (if x5.length < 4398046511104 then (if 0 ≤ bt137.2.2.2 then (if bt137.2.2.2 ≤ (x6.size : Int) then ((strings_TrimLeft.f (x6.extract (bt137.2.2.2 : Int).toNat x6.size) (⟨#[32, 9, 10, 13]⟩ : ByteArray)).bind fun t145 => (lexer_Words.l0 k x0 (x5 ++ [(⟨bt137.1, bt137.2.1, bt137.2.2.1⟩ : S50)]) t145)) else (none)) else (none)) else (none))))
def lexer_Words.f (k : Nat) (a0 : ByteArray) : Option ((List (S50)) × Int × Int) := if (a0.size : Int) > 400 then (some (([] : List (S50)), 0, 4)) else ((strings_TrimLeft.f a0 (⟨#[32, 9, 10, 13]⟩ : ByteArray)).bind fun t133 => (lexer_Words.l0 k a0 ([] : List (S50)) t133))
theorem lexer_Words.mono_l : ∀ k, (∀ y0 y1 y2, LeO (lexer_Words.l0 k y0 y1 y2) (lexer_Words.l0 (k + 1) y0 y1 y2))
  | 0 => fun _ _ _ r h => by simp [lexer_Words.l0] at h
  | k + 1 => by
    have ih0 := lexer_Words.mono_l k
    · intro y0 y1 y2
      unfold lexer_Words.l0
      repeat' first
      | (with_reducible exact ih0 _ _ _)
      | (with_reducible exact lexer_word.mono _ _)
      | (with_reducible exact LeO.refl _)
      | (with_reducible exact LeO.none _)
      | (with_reducible refine LeO.ite ?_ ?_)
      | (with_reducible refine LeO.bind ?_ (fun _ => ?_))
      | exact ih0 _ _ _
      | exact lexer_word.mono _ _
      | exact LeO.none _
      | refine LeO.ite ?_ ?_
      | refine LeO.bind ?_ (fun _ => ?_)
theorem lexer_Words.mono : ∀ a0 k, LeO (lexer_Words.f k a0) (lexer_Words.f (k + 1) a0) := by
  intro a0 k
  have ih0 := lexer_Words.mono_l k
  unfold lexer_Words.f
  repeat' first
      | (with_reducible exact ih0 _ _ _)
      | (with_reducible exact lexer_word.mono _ _)
      | (with_reducible exact LeO.refl _)
      | (with_reducible exact LeO.none _)
      | (with_reducible refine LeO.ite ?_ ?_)
      | (with_reducible refine LeO.bind ?_ (fun _ => ?_))
      | exact ih0 _ _ _
      | exact lexer_word.mono _ _
      | exact LeO.none _
      | refine LeO.ite ?_ ?_
      | refine LeO.bind ?_ (fun _ => ?_)
def expr_Keyword.f (a0 : ByteArray) : Option (Bool) := if a0.toList = ([97, 110, 100] : List UInt8) then (some true) else (if a0.toList = ([111, 114] : List UInt8) then (some true) else (if a0.toList = ([110, 111, 116] : List UInt8) then (some true) else (if a0.toList = ([116, 114, 117, 101] : List UInt8) then (some true) else (if a0.toList = ([102, 97, 108, 115, 101] : List UInt8) then (some true) else (if a0.toList = ([99, 111, 117, 110, 116] : List UInt8) then (some true) else (if a0.toList = ([110, 117, 109, 98, 101, 114] : List UInt8) then (some true) else (some false)))))))
def expr_parser_next.f (s0_0 : List (S50)) : Option (Int × ByteArray × Int) := if 0 < (s0_0.length : Int) then (some ((rd_T50 s0_0 0).f0, (rd_T50 s0_0 0).f1, (rd_T50 s0_0 0).f2)) else (none)
def expr_parser_at.f (s0_0 : List (S50)) (a1 : ByteArray) : Option (Bool) := (expr_parser_next.f s0_0).bind fun bt148 => (if bt148.2.1.toList = a1.toList then (if bt148.1 = 4 then (some true) else (if bt148.1 = 1 then ((expr_Keyword.f a1).bind fun t152 => (some t152)) else (some false))) else (some false))
def slices_Index_string_string.l0 : Nat → List ByteArray → ByteArray → Int → Int → Option (Int)
  | 0, _, _, _, _ => none
  | k + 1, x0, x1, x7, x8 => if x8 < x7 then (if 0 ≤ x8 then (if x8 < (x0.length : Int) then (if x1.toList = (rdOf ByteArray.empty x0 x8).toList then (some x8) else (slices_Index_string_string.l0 k x0 x1 x7 (wrap64 (x8 + 1)))) else (none)) else (none)) else (some (-1))
def slices_Index_string_string.f (k : Nat) (l0 : List ByteArray) (a1 : ByteArray) : Option (Int) := slices_Index_string_string.l0 k l0 a1 (l0.length : Int) 0
theorem slices_Index_string_string.mono_l : ∀ k, (∀ y0 y1 y2 y3, LeO (slices_Index_string_string.l0 k y0 y1 y2 y3) (slices_Index_string_string.l0 (k + 1) y0 y1 y2 y3))
  | 0 => fun _ _ _ _ r h => by simp [slices_Index_string_string.l0] at h
  | k + 1 => by
    have ih0 := slices_Index_string_string.mono_l k
    · intro y0 y1 y2 y3
      unfold slices_Index_string_string.l0
      repeat' first
      | (with_reducible exact ih0 _ _ _ _)
      | (with_reducible exact LeO.refl _)
      | (with_reducible exact LeO.none _)
      | (with_reducible refine LeO.ite ?_ ?_)
      | (with_reducible refine LeO.bind ?_ (fun _ => ?_))
      | exact ih0 _ _ _ _
      | exact LeO.none _
      | refine LeO.ite ?_ ?_
      | refine LeO.bind ?_ (fun _ => ?_)
theorem slices_Index_string_string.mono : ∀ a0 a1 k, LeO (slices_Index_string_string.f k a0 a1) (slices_Index_string_string.f (k + 1) a0 a1) := by
  intro a0 a1 k
  have ih0 := slices_Index_string_string.mono_l k
  unfold slices_Index_string_string.f
  repeat' first
      | (with_reducible exact ih0 _ _ _ _)
      | (with_reducible exact LeO.refl _)
      | (with_reducible exact LeO.none _)
      | (with_reducible refine LeO.ite ?_ ?_)
      | (with_reducible refine LeO.bind ?_ (fun _ => ?_))
      | exact ih0 _ _ _ _
      | exact LeO.none _
      | refine LeO.ite ?_ ?_
      | refine LeO.bind ?_ (fun _ => ?_)
def value_Int.f (a0 : Int) : Option (Int × Int × Bool × ByteArray) := some (1, a0, false, (⟨#[]⟩ : ByteArray))
def value_Text.f (a0 : ByteArray) : Option (Int × Int × Bool × ByteArray) := some (3, 0, false, a0)
def value_Bool.f (a0 : Bool) : Option (Int × Int × Bool × ByteArray) := some (2, 0, a0, (⟨#[]⟩ : ByteArray))
def strings_Join.f (l0 : List ByteArray) (a1 : ByteArray) : Option ByteArray := if l0.length ≤ 140737488355328 ∧ (Lib.join (l0.map (·.data.toList)) a1.data.toList).length ≤ 140737488355328 then some ⟨(Lib.join (l0.map (·.data.toList)) a1.data.toList).toArray⟩ else none
mutual
def expr_Depth.l0 : Nat → Int → List (S26) → Int → Int → Option (Int)
  | 0, _, _, _, _ => none
  | k + 1, x3, x7, x8, x9 => if x9 < x8 then (if 0 ≤ x9 then (if x9 < (x7.length : Int) then ((expr_Depth.f k ((rd_T26 x7 x9).f0) ((rd_T26 x7 x9).f1.f0) ((rd_T26 x7 x9).f1.f1) ((rd_T26 x7 x9).f1.f2) ((rd_T26 x7 x9).f1.f3) ((rd_T26 x7 x9).f2) ((rd_T26 x7 x9).f3) ((rd_T26 x7 x9).f4)).bind fun t175 => (expr_Depth.l0 k (mx x3 t175) x7 x8 (wrap64 (x9 + 1)))) else (none)) else (none)) else (some (wrap64 (x3 + 1)))
def expr_Depth.f : Nat → Int → Int → Int → Bool → ByteArray → ByteArray → Int → List (S26) → Option (Int)
  | 0, _, _, _, _, _, _, _, _ => none
  | k + 1, a0_0, a0_1, a0_2, a0_3, a0_4, a0_5, a0_6, l0_7 => expr_Depth.l0 k 0 l0_7 (l0_7.length : Int) 0
end
theorem expr_Depth.mono_l : ∀ k, (∀ y0 y1 y2 y3 y4 y5 y6 y7, LeO (expr_Depth.f k y0 y1 y2 y3 y4 y5 y6 y7) (expr_Depth.f (k + 1) y0 y1 y2 y3 y4 y5 y6 y7)) ∧ (∀ y0 y1 y2 y3, LeO (expr_Depth.l0 k y0 y1 y2 y3) (expr_Depth.l0 (k + 1) y0 y1 y2 y3))
  | 0 => ⟨fun _ _ _ _ _ _ _ _ r h => by simp [expr_Depth.f] at h, fun _ _ _ _ r h => by simp [expr_Depth.l0] at h⟩
  | k + 1 => by
    obtain ⟨ih0, ih1⟩ := expr_Depth.mono_l k
    refine ⟨?_, ?_⟩
    · intro y0 y1 y2 y3 y4 y5 y6 y7
      unfold expr_Depth.f
      repeat' first
      | (with_reducible exact ih0 _ _ _ _ _ _ _ _)
      | (with_reducible exact ih1 _ _ _ _)
      | (with_reducible exact LeO.refl _)
      | (with_reducible exact LeO.none _)
      | (with_reducible refine LeO.ite ?_ ?_)
      | (with_reducible refine LeO.bind ?_ (fun _ => ?_))
      | exact ih0 _ _ _ _ _ _ _ _
      | exact ih1 _ _ _ _
      | exact LeO.none _
      | refine LeO.ite ?_ ?_
      | refine LeO.bind ?_ (fun _ => ?_)
    · intro y0 y1 y2 y3
      unfold expr_Depth.l0
      repeat' first
      | (with_reducible exact ih0 _ _ _ _ _ _ _ _)
      | (with_reducible exact ih1 _ _ _ _)
      | (with_reducible exact LeO.refl _)
      | (with_reducible exact LeO.none _)
      | (with_reducible refine LeO.ite ?_ ?_)
      | (with_reducible refine LeO.bind ?_ (fun _ => ?_))
      | exact ih0 _ _ _ _ _ _ _ _
      | exact ih1 _ _ _ _
      | exact LeO.none _
      | refine LeO.ite ?_ ?_
      | refine LeO.bind ?_ (fun _ => ?_)
theorem expr_Depth.mono : ∀ a0 a1 a2 a3 a4 a5 a6 a7 k, LeO (expr_Depth.f k a0 a1 a2 a3 a4 a5 a6 a7) (expr_Depth.f (k + 1) a0 a1 a2 a3 a4 a5 a6 a7) := by
  intro a0 a1 a2 a3 a4 a5 a6 a7 k
  obtain ⟨ih0, ih1⟩ := expr_Depth.mono_l k
  exact ih0 a0 a1 a2 a3 a4 a5 a6 a7
def dossierref01_Space.f (a0 : Int) : Option (Bool) := if a0 = 9 then (some true) else (if a0 = 10 then (some true) else (if a0 = 13 then (some true) else (some (a0 == 32))))
def dossierref08_digit.f (a0 : Int) : Option (Bool) := if a0 ≥ 48 then (some (decide (a0 ≤ 57))) else (some false)
def dossierref01_Text.f : Nat → Int → Option (ByteArray)
  | 0, _ => none
  | k + 1, a0 => if a0 < 0 then (if a0 > (-10) then ((dossierref01_Text.f k (wrap64 (-a0))).bind fun t177 => (if 1 + t177.size ≤ 9223372036854775807 then (some ((⟨#[45]⟩ : ByteArray) ++ t177)) else (none))) else ((dossierref01_Text.f k (wrap64 (Int.tdiv a0 10))).bind fun t178 => ((dossierref01_Text.f k (wrap64 (-(Int.tmod a0 10)))).bind fun t179 => (if t178.size + t179.size ≤ 9223372036854775807 then (some (t178 ++ t179)) else (none))))) else (if a0 < 10 then (if 0 ≤ a0 then (if a0 ≤ (wrap64 (a0 + 1)) then (if (wrap64 (a0 + 1)) ≤ 10 then (some ((⟨#[48, 49, 50, 51, 52, 53, 54, 55, 56, 57]⟩ : ByteArray).extract (a0 : Int).toNat ((wrap64 (a0 + 1)) : Int).toNat)) else (none)) else (none)) else (none)) else ((dossierref01_Text.f k (wrap64 (Int.tdiv a0 10))).bind fun t180 => ((dossierref01_Text.f k (Int.tmod a0 10)).bind fun t181 => (if t180.size + t181.size ≤ 9223372036854775807 then (some (t180 ++ t181)) else (none)))))
theorem dossierref01_Text.mono_l : ∀ k, (∀ y0, LeO (dossierref01_Text.f k y0) (dossierref01_Text.f (k + 1) y0))
  | 0 => fun _ r h => by simp [dossierref01_Text.f] at h
  | k + 1 => by
    have ih0 := dossierref01_Text.mono_l k
    · intro y0
      unfold dossierref01_Text.f
      repeat' first
      | (with_reducible exact ih0 _)
      | (with_reducible exact LeO.refl _)
      | (with_reducible exact LeO.none _)
      | (with_reducible refine LeO.ite ?_ ?_)
      | (with_reducible refine LeO.bind ?_ (fun _ => ?_))
      | exact ih0 _
      | exact LeO.none _
      | refine LeO.ite ?_ ?_
      | refine LeO.bind ?_ (fun _ => ?_)
theorem dossierref01_Text.mono : ∀ a0 k, LeO (dossierref01_Text.f k a0) (dossierref01_Text.f (k + 1) a0) := by
  intro a0 k
  have ih0 := dossierref01_Text.mono_l k
  exact ih0 a0
mutual
def dossierref01_Number.j0 : Nat → ByteArray → ByteArray → Bool → Option (Int × Int)
  | 0, _, _, _ => none
  | k + 1, x0, x4, x16 => if x16 = true then (if 1 ≤ (x0.size : Int) then (dossierref01_Number.j1 k x0 (x0.extract 1 x0.size)) else (none)) else (dossierref01_Number.j1 k x0 x4)
def dossierref01_Number.j1 : Nat → ByteArray → ByteArray → Option (Int × Int)
  | 0, _, _ => none
  | k + 1, x0, x4 => if (x4.size : Int) = 0 then (dossierref01_Number.j2 k x0 x4 true) else (if 0 < (x4.size : Int) then (if (bt x4 0) = 48 then (dossierref01_Number.j2 k x0 x4 (decide ((x0.size : Int) > 1))) else (dossierref01_Number.j2 k x0 x4 false)) else (none))
def dossierref01_Number.j2 : Nat → ByteArray → ByteArray → Bool → Option (Int × Int)
  | 0, _, _, _ => none
  | k + 1, x0, x4, x31 => if x31 = true then (some (0, 5)) else (dossierref01_Number.l0 k x0 x4 (x4.size : Int) 0)
def dossierref01_Number.l0 : Nat → ByteArray → ByteArray → Int → Int → Option (Int × Int)
  | 0, _, _, _, _ => none
  | k + 1, x0, x4, x33, x34 => if x34 < x33 then (if 0 ≤ x34 then (if x34 < (x4.size : Int) then (if (bt x4 x34) < 48 then (some (0, 5)) else (if (bt x4 x34) > 57 then (some (0, 5)) else (dossierref01_Number.l0 k x0 x4 x33 (wrap64 (x34 + 1))))) else (none)) else (none)) else (if (x4.size : Int) > 19 then (some (0, 4)) else (dossierref01_Number.l1 k x0 x4 0 (x4.size : Int) 0))
def dossierref01_Number.l1 : Nat → ByteArray → ByteArray → Int → Int → Int → Option (Int × Int)
  | 0, _, _, _, _, _ => none
  | k + 1, x0, x4, x6, x52, x53 => if x53 < x52 then (if 0 ≤ x53 then (if x53 < (x4.size : Int) then (dossierref01_Number.l1 k x0 x4 (wrap64 ((wrap64 (10 * x6)) - (((bt x4 x53) - 48) % 256))) x52 (wrap64 (x53 + 1))) else (none)) else (none)) else (if (x4.size : Int) = (x0.size : Int) then ((dossierref01_Text.f k (wrap64 (-x6))).bind fun t182 => (if t182.toList = x0.toList then (some (wrap64 (-x6), 0)) else (some (0, 4)))) else ((dossierref01_Text.f k x6).bind fun t183 => (if t183.toList = x0.toList then (some (x6, 0)) else (some (0, 4)))))
end
def dossierref01_Number.f (k : Nat) (a0 : ByteArray) : Option (Int × Int) := if (a0.size : Int) > 0 then (if 0 < (a0.size : Int) then (dossierref01_Number.j0 k a0 a0 ((bt a0 0) == 45)) else (none)) else (dossierref01_Number.j0 k a0 a0 false)
theorem dossierref01_Number.mono_l : ∀ k, (∀ y0 y1 y2, LeO (dossierref01_Number.j0 k y0 y1 y2) (dossierref01_Number.j0 (k + 1) y0 y1 y2)) ∧ (∀ y0 y1, LeO (dossierref01_Number.j1 k y0 y1) (dossierref01_Number.j1 (k + 1) y0 y1)) ∧ (∀ y0 y1 y2, LeO (dossierref01_Number.j2 k y0 y1 y2) (dossierref01_Number.j2 (k + 1) y0 y1 y2)) ∧ (∀ y0 y1 y2 y3, LeO (dossierref01_Number.l0 k y0 y1 y2 y3) (dossierref01_Number.l0 (k + 1) y0 y1 y2 y3)) ∧ (∀ y0 y1 y2 y3 y4, LeO (dossierref01_Number.l1 k y0 y1 y2 y3 y4) (dossierref01_Number.l1 (k + 1) y0 y1 y2 y3 y4))
  | 0 => ⟨fun _ _ _ r h => by simp [dossierref01_Number.j0] at h, fun _ _ r h => by simp [dossierref01_Number.j1] at h, fun _ _ _ r h => by simp [dossierref01_Number.j2] at h, fun _ _ _ _ r h => by simp [dossierref01_Number.l0] at h, fun _ _ _ _ _ r h => by simp [dossierref01_Number.l1] at h⟩
  | k + 1 => by
    obtain ⟨ih0, ih1, ih2, ih3, ih4⟩ := dossierref01_Number.mono_l k
    refine ⟨?_, ?_, ?_, ?_, ?_⟩
    · intro y0 y1 y2
      unfold dossierref01_Number.j0
      repeat' first
      | (with_reducible exact ih0 _ _ _)
      | (with_reducible exact ih1 _ _)
      | (with_reducible exact ih2 _ _ _)
      | (with_reducible exact ih3 _ _ _ _)
      | (with_reducible exact ih4 _ _ _ _ _)
      | (with_reducible exact dossierref01_Text.mono _ _)
      | (with_reducible exact LeO.refl _)
      | (with_reducible exact LeO.none _)
      | (with_reducible refine LeO.ite ?_ ?_)
      | (with_reducible refine LeO.bind ?_ (fun _ => ?_))
      | exact ih0 _ _ _
      | exact ih1 _ _
      | exact ih2 _ _ _
      | exact ih3 _ _ _ _
      | exact ih4 _ _ _ _ _
      | exact dossierref01_Text.mono _ _
      | exact LeO.none _
      | refine LeO.ite ?_ ?_
      | refine LeO.bind ?_ (fun _ => ?_)
    · intro y0 y1
      unfold dossierref01_Number.j1
      repeat' first
      | (with_reducible exact ih0 _ _ _)
      | (with_reducible exact ih1 _ _)
      | (with_reducible exact ih2 _ _ _)
      | (with_reducible exact ih3 _ _ _ _)
      | (with_reducible exact ih4 _ _ _ _ _)
      | (with_reducible exact dossierref01_Text.mono _ _)
      | (with_reducible exact LeO.refl _)
      | (with_reducible exact LeO.none _)
      | (with_reducible refine LeO.ite ?_ ?_)
      | (with_reducible refine LeO.bind ?_ (fun _ => ?_))
      | exact ih0 _ _ _
      | exact ih1 _ _
      | exact ih2 _ _ _
      | exact ih3 _ _ _ _
      | exact ih4 _ _ _ _ _
      | exact dossierref01_Text.mono _ _
      | exact LeO.none _
      | refine LeO.ite ?_ ?_
      | refine LeO.bind ?_ (fun _ => ?_)
    · intro y0 y1 y2
      unfold dossierref01_Number.j2
      repeat' first
      | (with_reducible exact ih0 _ _ _)
      | (with_reducible exact ih1 _ _)
      | (with_reducible exact ih2 _ _ _)
      | (with_reducible exact ih3 _ _ _ _)
      | (with_reducible exact ih4 _ _ _ _ _)
      | (with_reducible exact dossierref01_Text.mono _ _)
      | (with_reducible exact LeO.refl _)
      | (with_reducible exact LeO.none _)
      | (with_reducible refine LeO.ite ?_ ?_)
      | (with_reducible refine LeO.bind ?_ (fun _ => ?_))
      | exact ih0 _ _ _
      | exact ih1 _ _
      | exact ih2 _ _ _
      | exact ih3 _ _ _ _
      | exact ih4 _ _ _ _ _
      | exact dossierref01_Text.mono _ _
      | exact LeO.none _
      | refine LeO.ite ?_ ?_
      | refine LeO.bind ?_ (fun _ => ?_)
    · intro y0 y1 y2 y3
      unfold dossierref01_Number.l0
      repeat' first
      | (with_reducible exact ih0 _ _ _)
      | (with_reducible exact ih1 _ _)
      | (with_reducible exact ih2 _ _ _)
      | (with_reducible exact ih3 _ _ _ _)
      | (with_reducible exact ih4 _ _ _ _ _)
      | (with_reducible exact dossierref01_Text.mono _ _)
      | (with_reducible exact LeO.refl _)
      | (with_reducible exact LeO.none _)
      | (with_reducible refine LeO.ite ?_ ?_)
      | (with_reducible refine LeO.bind ?_ (fun _ => ?_))
      | exact ih0 _ _ _
      | exact ih1 _ _
      | exact ih2 _ _ _
      | exact ih3 _ _ _ _
      | exact ih4 _ _ _ _ _
      | exact dossierref01_Text.mono _ _
      | exact LeO.none _
      | refine LeO.ite ?_ ?_
      | refine LeO.bind ?_ (fun _ => ?_)
    · intro y0 y1 y2 y3 y4
      unfold dossierref01_Number.l1
      repeat' first
      | (with_reducible exact ih0 _ _ _)
      | (with_reducible exact ih1 _ _)
      | (with_reducible exact ih2 _ _ _)
      | (with_reducible exact ih3 _ _ _ _)
      | (with_reducible exact ih4 _ _ _ _ _)
      | (with_reducible exact dossierref01_Text.mono _ _)
      | (with_reducible exact LeO.refl _)
      | (with_reducible exact LeO.none _)
      | (with_reducible refine LeO.ite ?_ ?_)
      | (with_reducible refine LeO.bind ?_ (fun _ => ?_))
      | exact ih0 _ _ _
      | exact ih1 _ _
      | exact ih2 _ _ _
      | exact ih3 _ _ _ _
      | exact ih4 _ _ _ _ _
      | exact dossierref01_Text.mono _ _
      | exact LeO.none _
      | refine LeO.ite ?_ ?_
      | refine LeO.bind ?_ (fun _ => ?_)
theorem dossierref01_Number.mono : ∀ a0 k, LeO (dossierref01_Number.f k a0) (dossierref01_Number.f (k + 1) a0) := by
  intro a0 k
  obtain ⟨ih0, ih1, ih2, ih3, ih4⟩ := dossierref01_Number.mono_l k
  unfold dossierref01_Number.f
  repeat' first
      | (with_reducible exact ih0 _ _ _)
      | (with_reducible exact ih1 _ _)
      | (with_reducible exact ih2 _ _ _)
      | (with_reducible exact ih3 _ _ _ _)
      | (with_reducible exact ih4 _ _ _ _ _)
      | (with_reducible exact dossierref01_Text.mono _ _)
      | (with_reducible exact LeO.refl _)
      | (with_reducible exact LeO.none _)
      | (with_reducible refine LeO.ite ?_ ?_)
      | (with_reducible refine LeO.bind ?_ (fun _ => ?_))
      | exact ih0 _ _ _
      | exact ih1 _ _
      | exact ih2 _ _ _
      | exact ih3 _ _ _ _
      | exact ih4 _ _ _ _ _
      | exact dossierref01_Text.mono _ _
      | exact LeO.none _
      | refine LeO.ite ?_ ?_
      | refine LeO.bind ?_ (fun _ => ?_)
def dossierref08_integer.l0 : Nat → ByteArray → Int → Option (Int × ByteArray × Int × Int × Bool)
  | 0, _, _ => none
  | k + 1, x0, x5 => if x5 < (x0.size : Int) then (if 0 ≤ x5 then ((dossierref08_digit.f (bt x0 x5)).bind fun t185 => (if t185 = true then (dossierref08_integer.l0 k x0 (wrap64 (x5 + 1))) else (if x5 ≤ (x0.size : Int) then ((dossierref01_Number.f k (x0.extract 0 (x5 : Int).toNat)).bind fun bt186 => (some (2, (⟨#[]⟩ : ByteArray), bt186.1, x5, (bt186.2 == 0)))) else (none)))) else (none)) else (if 0 ≤ x5 then (if x5 ≤ (x0.size : Int) then ((dossierref01_Number.f k (x0.extract 0 (x5 : Int).toNat)).bind fun bt188 => (some (2, (⟨#[]⟩ : ByteArray), bt188.1, x5, (bt188.2 == 0)))) else (none)) else (none))
def dossierref08_integer.f (k : Nat) (a0 : ByteArray) : Option (Int × ByteArray × Int × Int × Bool) := dossierref08_integer.l0 k a0 0
theorem dossierref08_integer.mono_l : ∀ k, (∀ y0 y1, LeO (dossierref08_integer.l0 k y0 y1) (dossierref08_integer.l0 (k + 1) y0 y1))
  | 0 => fun _ _ r h => by simp [dossierref08_integer.l0] at h
  | k + 1 => by
    have ih0 := dossierref08_integer.mono_l k
    · intro y0 y1
      unfold dossierref08_integer.l0
      repeat' first
      | (with_reducible exact ih0 _ _)
      | (with_reducible exact dossierref01_Number.mono _ _)
      | (with_reducible exact LeO.refl _)
      | (with_reducible exact LeO.none _)
      | (with_reducible refine LeO.ite ?_ ?_)
      | (with_reducible refine LeO.bind ?_ (fun _ => ?_))
      | exact ih0 _ _
      | exact dossierref01_Number.mono _ _
      | exact LeO.none _
      | refine LeO.ite ?_ ?_
      | refine LeO.bind ?_ (fun _ => ?_)
theorem dossierref08_integer.mono : ∀ a0 k, LeO (dossierref08_integer.f k a0) (dossierref08_integer.f (k + 1) a0) := by
  intro a0 k
  have ih0 := dossierref08_integer.mono_l k
  unfold dossierref08_integer.f
  repeat' first
      | (with_reducible exact ih0 _ _)
      | (with_reducible exact dossierref01_Number.mono _ _)
      | (with_reducible exact LeO.refl _)
      | (with_reducible exact LeO.none _)
      | (with_reducible refine LeO.ite ?_ ?_)
      | (with_reducible refine LeO.bind ?_ (fun _ => ?_))
      | exact ih0 _ _
      | exact dossierref01_Number.mono _ _
      | exact LeO.none _
      | refine LeO.ite ?_ ?_
      | refine LeO.bind ?_ (fun _ => ?_)
def dossierref01_Encode.j0 : Nat → Int → Bool → Option (List Int)
  | 0, _, _ => none
  | k + 1, x0, x3 => if x3 = true then (some ([] : List Int)) else (if x0 < 128 then (some (([(x0) % 256] : List Int))) else (if x0 < 2048 then (some (([(wrap64 (192 + (x0 / 64))) % 256, (wrap64 (128 + (Int.tmod x0 64))) % 256] : List Int))) else (if x0 < 65536 then (some (([(wrap64 (224 + (x0 / 4096))) % 256, (wrap64 (128 + (Int.tmod (x0 / 64) 64))) % 256, (wrap64 (128 + (Int.tmod x0 64))) % 256] : List Int))) else (some (([(wrap64 (240 + (x0 / 262144))) % 256, (wrap64 (128 + (Int.tmod (x0 / 4096) 64))) % 256, (wrap64 (128 + (Int.tmod (x0 / 64) 64))) % 256, (wrap64 (128 + (Int.tmod x0 64))) % 256] : List Int))))))
def dossierref01_Encode.f (k : Nat) (a0 : Int) : Option (List Int) := if a0 < 0 then (dossierref01_Encode.j0 k a0 true) else (if a0 > 1114111 then (dossierref01_Encode.j0 k a0 true) else (if a0 ≥ 55296 then (dossierref01_Encode.j0 k a0 (decide (a0 ≤ 57343))) else (dossierref01_Encode.j0 k a0 false)))
theorem dossierref01_Encode.mono_l : ∀ k, (∀ y0 y1, LeO (dossierref01_Encode.j0 k y0 y1) (dossierref01_Encode.j0 (k + 1) y0 y1))
  | 0 => fun _ _ r h => by simp [dossierref01_Encode.j0] at h
  | k + 1 => by
    have ih0 := dossierref01_Encode.mono_l k
    · intro y0 y1
      unfold dossierref01_Encode.j0
      repeat' first
      | (with_reducible exact ih0 _ _)
      | (with_reducible exact LeO.refl _)
      | (with_reducible exact LeO.none _)
      | (with_reducible refine LeO.ite ?_ ?_)
      | (with_reducible refine LeO.bind ?_ (fun _ => ?_))
      | exact ih0 _ _
      | exact LeO.none _
      | refine LeO.ite ?_ ?_
      | refine LeO.bind ?_ (fun _ => ?_)
theorem dossierref01_Encode.mono : ∀ a0 k, LeO (dossierref01_Encode.f k a0) (dossierref01_Encode.f (k + 1) a0) := by
  intro a0 k
  have ih0 := dossierref01_Encode.mono_l k
  unfold dossierref01_Encode.f
  repeat' first
      | (with_reducible exact ih0 _ _)
      | (with_reducible exact LeO.refl _)
      | (with_reducible exact LeO.none _)
      | (with_reducible refine LeO.ite ?_ ?_)
      | (with_reducible refine LeO.bind ?_ (fun _ => ?_))
      | exact ih0 _ _
      | exact LeO.none _
      | refine LeO.ite ?_ ?_
      | refine LeO.bind ?_ (fun _ => ?_)
mutual
def dossierref01_Decode.j0 : Nat → List Int → Int → Int → Option (Int × Int)
  | 0, _, _, _ => none
  | k + 1, x0, x4, x5 => if x4 > (x0.length : Int) then (some (0, 0)) else (if 1 ≤ x4 then (if x4 ≤ (x0.length : Int) then (dossierref01_Decode.l0 k x0 x4 x5 ((x0.take (x4 : Int).toNat).drop 1) (((x0.take (x4 : Int).toNat).drop 1).length : Int) 0) else (none)) else (none))
def dossierref01_Decode.l0 : Nat → List Int → Int → Int → List Int → Int → Int → Option (Int × Int)
  | 0, _, _, _, _, _, _ => none
  | k + 1, x0, x4, x5, x51, x52, x53 => if x53 < x52 then (if 0 ≤ x53 then (if x53 < (x51.length : Int) then (if (rd x51 x53) < 128 then (some (0, 0)) else (if (rd x51 x53) > 191 then (some (0, 0)) else (dossierref01_Decode.l0 k x0 x4 (wrap64 ((wrap64 ((wrap64 (x5 * 64)) + (wrap64 (rd x51 x53)))) - 128)) x51 x52 (wrap64 (x53 + 1))))) else (none)) else (none)) else ((dossierref01_Encode.f k x5).bind fun t211 => (if 0 ≤ x4 then (if x4 ≤ (x0.length : Int) then (if (strOfNums t211).toList = (strOfNums (x0.take (x4 : Int).toNat)).toList then (some (x5, x4)) else (some (0, 0))) else (none)) else (none)))
end
def dossierref01_Decode.f (k : Nat) (l0 : List Int) : Option (Int × Int) := if (l0.length : Int) = 0 then (some (0, 0)) else (if 0 < (l0.length : Int) then (if (rd l0 0) ≥ 240 then (dossierref01_Decode.j0 k l0 4 (wrap64 ((wrap64 (rd l0 0)) - 240))) else (if (rd l0 0) ≥ 224 then (dossierref01_Decode.j0 k l0 3 (wrap64 ((wrap64 (rd l0 0)) - 224))) else (if (rd l0 0) ≥ 192 then (dossierref01_Decode.j0 k l0 2 (wrap64 ((wrap64 (rd l0 0)) - 192))) else (dossierref01_Decode.j0 k l0 1 (wrap64 (rd l0 0)))))) else (none))
theorem dossierref01_Decode.mono_l : ∀ k, (∀ y0 y1 y2, LeO (dossierref01_Decode.j0 k y0 y1 y2) (dossierref01_Decode.j0 (k + 1) y0 y1 y2)) ∧ (∀ y0 y1 y2 y3 y4 y5, LeO (dossierref01_Decode.l0 k y0 y1 y2 y3 y4 y5) (dossierref01_Decode.l0 (k + 1) y0 y1 y2 y3 y4 y5))
  | 0 => ⟨fun _ _ _ r h => by simp [dossierref01_Decode.j0] at h, fun _ _ _ _ _ _ r h => by simp [dossierref01_Decode.l0] at h⟩
  | k + 1 => by
    obtain ⟨ih0, ih1⟩ := dossierref01_Decode.mono_l k
    refine ⟨?_, ?_⟩
    · intro y0 y1 y2
      unfold dossierref01_Decode.j0
      repeat' first
      | (with_reducible exact ih0 _ _ _)
      | (with_reducible exact ih1 _ _ _ _ _ _)
      | (with_reducible exact dossierref01_Encode.mono _ _)
      | (with_reducible exact LeO.refl _)
      | (with_reducible exact LeO.none _)
      | (with_reducible refine LeO.ite ?_ ?_)
      | (with_reducible refine LeO.bind ?_ (fun _ => ?_))
      | exact ih0 _ _ _
      | exact ih1 _ _ _ _ _ _
      | exact dossierref01_Encode.mono _ _
      | exact LeO.none _
      | refine LeO.ite ?_ ?_
      | refine LeO.bind ?_ (fun _ => ?_)
    · intro y0 y1 y2 y3 y4 y5
      unfold dossierref01_Decode.l0
      repeat' first
      | (with_reducible exact ih0 _ _ _)
      | (with_reducible exact ih1 _ _ _ _ _ _)
      | (with_reducible exact dossierref01_Encode.mono _ _)
      | (with_reducible exact LeO.refl _)
      | (with_reducible exact LeO.none _)
      | (with_reducible refine LeO.ite ?_ ?_)
      | (with_reducible refine LeO.bind ?_ (fun _ => ?_))
      | exact ih0 _ _ _
      | exact ih1 _ _ _ _ _ _
      | exact dossierref01_Encode.mono _ _
      | exact LeO.none _
      | refine LeO.ite ?_ ?_
      | refine LeO.bind ?_ (fun _ => ?_)
theorem dossierref01_Decode.mono : ∀ a0 k, LeO (dossierref01_Decode.f k a0) (dossierref01_Decode.f (k + 1) a0) := by
  intro a0 k
  obtain ⟨ih0, ih1⟩ := dossierref01_Decode.mono_l k
  unfold dossierref01_Decode.f
  repeat' first
      | (with_reducible exact ih0 _ _ _)
      | (with_reducible exact ih1 _ _ _ _ _ _)
      | (with_reducible exact dossierref01_Encode.mono _ _)
      | (with_reducible exact LeO.refl _)
      | (with_reducible exact LeO.none _)
      | (with_reducible refine LeO.ite ?_ ?_)
      | (with_reducible refine LeO.bind ?_ (fun _ => ?_))
      | exact ih0 _ _ _
      | exact ih1 _ _ _ _ _ _
      | exact dossierref01_Encode.mono _ _
      | exact LeO.none _
      | refine LeO.ite ?_ ?_
      | refine LeO.bind ?_ (fun _ => ?_)
def dossierref01_within.l0 : Nat → Int → List Int → Int → Option (Bool)
  | 0, _, _, _ => none
  | k + 1, x0, x1, x5 => if (wrap64 (x5 + 1)) < (x1.length : Int) then (if 0 ≤ x5 then (if x5 < (x1.length : Int) then (if x0 ≥ (rd x1 x5) then (if 0 ≤ (wrap64 (x5 + 1)) then (if x0 ≤ (rd x1 (wrap64 (x5 + 1))) then (some true) else (dossierref01_within.l0 k x0 x1 (wrap64 (x5 + 2)))) else (none)) else (dossierref01_within.l0 k x0 x1 (wrap64 (x5 + 2)))) else (none)) else (none)) else (some false)
def dossierref01_within.f (k : Nat) (a0 : Int) (l1 : List Int) : Option (Bool) := dossierref01_within.l0 k a0 l1 0
theorem dossierref01_within.mono_l : ∀ k, (∀ y0 y1 y2, LeO (dossierref01_within.l0 k y0 y1 y2) (dossierref01_within.l0 (k + 1) y0 y1 y2))
  | 0 => fun _ _ _ r h => by simp [dossierref01_within.l0] at h
  | k + 1 => by
    have ih0 := dossierref01_within.mono_l k
    · intro y0 y1 y2
      unfold dossierref01_within.l0
      repeat' first
      | (with_reducible exact ih0 _ _ _)
      | (with_reducible exact LeO.refl _)
      | (with_reducible exact LeO.none _)
      | (with_reducible refine LeO.ite ?_ ?_)
      | (with_reducible refine LeO.bind ?_ (fun _ => ?_))
      | exact ih0 _ _ _
      | exact LeO.none _
      | refine LeO.ite ?_ ?_
      | refine LeO.bind ?_ (fun _ => ?_)
theorem dossierref01_within.mono : ∀ a0 a1 k, LeO (dossierref01_within.f k a0 a1) (dossierref01_within.f (k + 1) a0 a1) := by
  intro a0 a1 k
  have ih0 := dossierref01_within.mono_l k
  unfold dossierref01_within.f
  repeat' first
      | (with_reducible exact ih0 _ _ _)
      | (with_reducible exact LeO.refl _)
      | (with_reducible exact LeO.none _)
      | (with_reducible refine LeO.ite ?_ ?_)
      | (with_reducible refine LeO.bind ?_ (fun _ => ?_))
      | exact ih0 _ _ _
      | exact LeO.none _
      | refine LeO.ite ?_ ?_
      | refine LeO.bind ?_ (fun _ => ?_)
def dossierref01_OfXML.f (k : Nat) (a0 : Int) : Option (Bool) := (dossierref01_within.f k a0 (([9, 10, 13, 13, 32, 55295, 57344, 65533, 65536, 1114111] : List Int))).bind fun t220 => (some t220)
theorem dossierref01_OfXML.mono : ∀ a0 k, LeO (dossierref01_OfXML.f k a0) (dossierref01_OfXML.f (k + 1) a0) := by
  intro a0 k
  unfold dossierref01_OfXML.f
  repeat' first
      | (with_reducible exact dossierref01_within.mono _ _ _)
      | (with_reducible exact LeO.refl _)
      | (with_reducible exact LeO.none _)
      | (with_reducible refine LeO.ite ?_ ?_)
      | (with_reducible refine LeO.bind ?_ (fun _ => ?_))
      | exact dossierref01_within.mono _ _ _
      | exact LeO.none _
      | refine LeO.ite ?_ ?_
      | refine LeO.bind ?_ (fun _ => ?_)
def dossierref08_text.l0 : Nat → ByteArray → ByteArray → Int → Option (Int × ByteArray × Int × Int × Bool)
  | 0, _, _, _ => none
  | k + 1, x0, x5, x6 => if x6 < (x0.size : Int) then (if 0 ≤ x6 then (if (bt x0 x6) = 34 then (some (3, x5, 0, wrap64 (x6 + 1), decide ((x5.size : Int) ≤ 256))) else (if (bt x0 x6) = 92 then (if (wrap64 (x6 + 1)) ≥ (x0.size : Int) then (some (0, (⟨#[]⟩ : ByteArray), 0, 0, false)) else (if 0 ≤ (wrap64 (x6 + 1)) then (if (wrap64 (x6 + 1)) < (x0.size : Int) then (if (bt x0 (wrap64 (x6 + 1))) = 34 then (if (wrap64 (x6 + 1)) ≤ (wrap64 (x6 + 2)) then (if (wrap64 (x6 + 2)) ≤ (x0.size : Int) then (if x5.size + (x0.extract ((wrap64 (x6 + 1)) : Int).toNat ((wrap64 (x6 + 2)) : Int).toNat).size ≤ 9223372036854775807 then (dossierref08_text.l0 k x0 (x5 ++ (x0.extract ((wrap64 (x6 + 1)) : Int).toNat ((wrap64 (x6 + 2)) : Int).toNat)) (wrap64 (x6 + 2))) else (none)) else (none)) else (none)) else (if (bt x0 (wrap64 (x6 + 1))) = 92 then (if (wrap64 (x6 + 1)) ≤ (wrap64 (x6 + 2)) then (if (wrap64 (x6 + 2)) ≤ (x0.size : Int) then (if x5.size + (x0.extract ((wrap64 (x6 + 1)) : Int).toNat ((wrap64 (x6 + 2)) : Int).toNat).size ≤ 9223372036854775807 then (dossierref08_text.l0 k x0 (x5 ++ (x0.extract ((wrap64 (x6 + 1)) : Int).toNat ((wrap64 (x6 + 2)) : Int).toNat)) (wrap64 (x6 + 2))) else (none)) else (none)) else (none)) else (some (0, (⟨#[]⟩ : ByteArray), 0, 0, false)))) else (none)) else (none))) else (if x6 ≤ (x0.size : Int) then (if (x0.extract (x6 : Int).toNat x0.size).size < 140737488355328 then ((dossierref01_Decode.f k (bytesOf (x0.extract (x6 : Int).toNat x0.size))).bind fun bt222 => (if bt222.2 = 0 then (some (0, (⟨#[]⟩ : ByteArray), 0, 0, false)) else ((dossierref01_OfXML.f k bt222.1).bind fun t224 => (if t224 = true then (if x6 ≤ (wrap64 (x6 + bt222.2)) then (if (wrap64 (x6 + bt222.2)) ≤ (x0.size : Int) then (if x5.size + (x0.extract (x6 : Int).toNat ((wrap64 (x6 + bt222.2)) : Int).toNat).size ≤ 9223372036854775807 then (dossierref08_text.l0 k x0 (x5 ++ (x0.extract (x6 : Int).toNat ((wrap64 (x6 + bt222.2)) : Int).toNat)) (wrap64 (x6 + bt222.2))) else (none)) else (none)) else (none)) else (some (0, (⟨#[]⟩ : ByteArray), 0, 0, false)))))) else (none)) else (none)))) else (none)) else (some (0, (⟨#[]⟩ : ByteArray), 0, 0, false))
def dossierref08_text.f (k : Nat) (a0 : ByteArray) : Option (Int × ByteArray × Int × Int × Bool) := dossierref08_text.l0 k a0 (⟨#[]⟩ : ByteArray) 1
theorem dossierref08_text.mono_l : ∀ k, (∀ y0 y1 y2, LeO (dossierref08_text.l0 k y0 y1 y2) (dossierref08_text.l0 (k + 1) y0 y1 y2))
  | 0 => fun _ _ _ r h => by simp [dossierref08_text.l0] at h
  | k + 1 => by
    have ih0 := dossierref08_text.mono_l k
    · intro y0 y1 y2
      unfold dossierref08_text.l0
      repeat' first
      | (with_reducible exact ih0 _ _ _)
      | (with_reducible exact dossierref01_Decode.mono _ _)
      | (with_reducible exact dossierref01_OfXML.mono _ _)
      | (with_reducible exact LeO.refl _)
      | (with_reducible exact LeO.none _)
      | (with_reducible refine LeO.ite ?_ ?_)
      | (with_reducible refine LeO.bind ?_ (fun _ => ?_))
      | exact ih0 _ _ _
      | exact dossierref01_Decode.mono _ _
      | exact dossierref01_OfXML.mono _ _
      | exact LeO.none _
      | refine LeO.ite ?_ ?_
      | refine LeO.bind ?_ (fun _ => ?_)
theorem dossierref08_text.mono : ∀ a0 k, LeO (dossierref08_text.f k a0) (dossierref08_text.f (k + 1) a0) := by
  intro a0 k
  have ih0 := dossierref08_text.mono_l k
  unfold dossierref08_text.f
  repeat' first
      | (with_reducible exact ih0 _ _ _)
      | (with_reducible exact dossierref01_Decode.mono _ _)
      | (with_reducible exact dossierref01_OfXML.mono _ _)
      | (with_reducible exact LeO.refl _)
      | (with_reducible exact LeO.none _)
      | (with_reducible refine LeO.ite ?_ ?_)
      | (with_reducible refine LeO.bind ?_ (fun _ => ?_))
      | exact ih0 _ _ _
      | exact dossierref01_Decode.mono _ _
      | exact dossierref01_OfXML.mono _ _
      | exact LeO.none _
      | refine LeO.ite ?_ ?_
      | refine LeO.bind ?_ (fun _ => ?_)
def dossierref08_letter.f (a0 : Int) : Option (Bool) := if a0 ≥ 65 then (if a0 ≤ 90 then (some true) else (if a0 ≥ 97 then (if a0 ≤ 122 then (some true) else (some (a0 == 95))) else (some (a0 == 95)))) else (if a0 ≥ 97 then (if a0 ≤ 122 then (some true) else (some (a0 == 95))) else (some (a0 == 95)))
mutual
def dossierref08_sign.j0 : Nat → ByteArray → Bool → Option (Int × ByteArray × Int × Int × Bool)
  | 0, _, _ => none
  | k + 1, x0, x24 => if x24 = true then (if 0 ≤ 2 then (if 2 ≤ (x0.size : Int) then (some (4, x0.extract 0 2, 0, 2, true)) else (none)) else (none)) else ((some (([(⟨#[40]⟩ : ByteArray), (⟨#[41]⟩ : ByteArray), (⟨#[46]⟩ : ByteArray), (⟨#[44]⟩ : ByteArray), (⟨#[43]⟩ : ByteArray), (⟨#[45]⟩ : ByteArray), (⟨#[42]⟩ : ByteArray), (⟨#[47]⟩ : ByteArray), (⟨#[37]⟩ : ByteArray), (⟨#[60]⟩ : ByteArray), (⟨#[62]⟩ : ByteArray), (⟨#[61]⟩ : ByteArray)] : List ByteArray) : List ByteArray)).bind fun y226 => (dossierref08_sign.l0 k x0 y226 (y226.length : Int) 0))
def dossierref08_sign.l0 : Nat → ByteArray → List ByteArray → Int → Int → Option (Int × ByteArray × Int × Int × Bool)
  | 0, _, _, _, _ => none
  | k + 1, x0, x28, x29, x30 => if x30 < x29 then (if 0 ≤ x30 then (if x30 < (x28.length : Int) then (if 0 ≤ 1 then (if 1 ≤ (x0.size : Int) then (if (x0.extract 0 1).toList = (rdOf ByteArray.empty x28 x30).toList then (some (4, rdOf ByteArray.empty x28 x30, 0, 1, true)) else (dossierref08_sign.l0 k x0 x28 x29 (wrap64 (x30 + 1)))) else (none)) else (none)) else (none)) else (none)) else (some (0, (⟨#[]⟩ : ByteArray), 0, 0, false))
end
def dossierref08_sign.f (k : Nat) (a0 : ByteArray) : Option (Int × ByteArray × Int × Int × Bool) := if (a0.size : Int) ≥ 2 then (if 0 ≤ 2 then (if 2 ≤ (a0.size : Int) then (if (a0.extract 0 2).toList = ([60, 61] : List UInt8) then (dossierref08_sign.j0 k a0 true) else (if (a0.extract 0 2).toList = ([62, 61] : List UInt8) then (dossierref08_sign.j0 k a0 true) else (dossierref08_sign.j0 k a0 ((a0.extract 0 2).toList == ([33, 61] : List UInt8))))) else (none)) else (none)) else (dossierref08_sign.j0 k a0 false)
theorem dossierref08_sign.mono_l : ∀ k, (∀ y0 y1, LeO (dossierref08_sign.j0 k y0 y1) (dossierref08_sign.j0 (k + 1) y0 y1)) ∧ (∀ y0 y1 y2 y3, LeO (dossierref08_sign.l0 k y0 y1 y2 y3) (dossierref08_sign.l0 (k + 1) y0 y1 y2 y3))
  | 0 => ⟨fun _ _ r h => by simp [dossierref08_sign.j0] at h, fun _ _ _ _ r h => by simp [dossierref08_sign.l0] at h⟩
  | k + 1 => by
    obtain ⟨ih0, ih1⟩ := dossierref08_sign.mono_l k
    refine ⟨?_, ?_⟩
    · intro y0 y1
      unfold dossierref08_sign.j0
      repeat' first
      | (with_reducible exact ih0 _ _)
      | (with_reducible exact ih1 _ _ _ _)
      | (with_reducible exact LeO.refl _)
      | (with_reducible exact LeO.none _)
      | (with_reducible refine LeO.ite ?_ ?_)
      | (with_reducible refine LeO.bind ?_ (fun _ => ?_))
      | exact ih0 _ _
      | exact ih1 _ _ _ _
      | exact LeO.none _
      | refine LeO.ite ?_ ?_
      | refine LeO.bind ?_ (fun _ => ?_)
    · intro y0 y1 y2 y3
      unfold dossierref08_sign.l0
      repeat' first
      | (with_reducible exact ih0 _ _)
      | (with_reducible exact ih1 _ _ _ _)
      | (with_reducible exact LeO.refl _)
      | (with_reducible exact LeO.none _)
      | (with_reducible refine LeO.ite ?_ ?_)
      | (with_reducible refine LeO.bind ?_ (fun _ => ?_))
      | exact ih0 _ _
      | exact ih1 _ _ _ _
      | exact LeO.none _
      | refine LeO.ite ?_ ?_
      | refine LeO.bind ?_ (fun _ => ?_)
theorem dossierref08_sign.mono : ∀ a0 k, LeO (dossierref08_sign.f k a0) (dossierref08_sign.f (k + 1) a0) := by
  intro a0 k
  obtain ⟨ih0, ih1⟩ := dossierref08_sign.mono_l k
  unfold dossierref08_sign.f
  repeat' first
      | (with_reducible exact ih0 _ _)
      | (with_reducible exact ih1 _ _ _ _)
      | (with_reducible exact LeO.refl _)
      | (with_reducible exact LeO.none _)
      | (with_reducible refine LeO.ite ?_ ?_)
      | (with_reducible refine LeO.bind ?_ (fun _ => ?_))
      | exact ih0 _ _
      | exact ih1 _ _ _ _
      | exact LeO.none _
      | refine LeO.ite ?_ ?_
      | refine LeO.bind ?_ (fun _ => ?_)
def dossierref08_word.l0 : Nat → ByteArray → Int → Option (Int × ByteArray × Int × Int × Bool)
  | 0, _, _ => none
  | k + 1, x0, x5 => if x5 < (x0.size : Int) then (if 0 ≤ x5 then ((dossierref08_letter.f (bt x0 x5)).bind fun t248 => (if t248 = true then (dossierref08_word.l0 k x0 (wrap64 (x5 + 1))) else ((dossierref08_digit.f (bt x0 x5)).bind fun t249 => (if t249 = true then (dossierref08_word.l0 k x0 (wrap64 (x5 + 1))) else (if x5 ≤ (x0.size : Int) then (some (1, x0.extract 0 (x5 : Int).toNat, 0, x5, true)) else (none)))))) else (none)) else (if 0 ≤ x5 then (if x5 ≤ (x0.size : Int) then (some (1, x0.extract 0 (x5 : Int).toNat, 0, x5, true)) else (none)) else (none))
def dossierref08_word.f (k : Nat) (a0 : ByteArray) : Option (Int × ByteArray × Int × Int × Bool) := if 0 < (a0.size : Int) then ((dossierref08_digit.f (bt a0 0)).bind fun t231 => (if t231 = true then ((dossierref08_integer.f k a0).bind fun bt232 => (some (bt232.1, bt232.2.1, bt232.2.2.1, bt232.2.2.2.1, bt232.2.2.2.2))) else (if (bt a0 0) = 34 then ((dossierref08_text.f k a0).bind fun bt237 => (some (bt237.1, bt237.2.1, bt237.2.2.1, bt237.2.2.2.1, bt237.2.2.2.2))) else ((dossierref08_letter.f (bt a0 0)).bind fun t242 => (if t242 = true then (dossierref08_word.l0 k a0 1) else ((dossierref08_sign.f k a0).bind fun bt243 => (some (bt243.1, bt243.2.1, bt243.2.2.1, bt243.2.2.2.1, bt243.2.2.2.2)))))))) else (none)
theorem dossierref08_word.mono_l : ∀ k, (∀ y0 y1, LeO (dossierref08_word.l0 k y0 y1) (dossierref08_word.l0 (k + 1) y0 y1))
  | 0 => fun _ _ r h => by simp [dossierref08_word.l0] at h
  | k + 1 => by
    have ih0 := dossierref08_word.mono_l k
    · intro y0 y1
      unfold dossierref08_word.l0
      repeat' first
      | (with_reducible exact ih0 _ _)
      | (with_reducible exact dossierref08_integer.mono _ _)
      | (with_reducible exact dossierref08_sign.mono _ _)
      | (with_reducible exact dossierref08_text.mono _ _)
      | (with_reducible exact LeO.refl _)
      | (with_reducible exact LeO.none _)
      | (with_reducible refine LeO.ite ?_ ?_)
      | (with_reducible refine LeO.bind ?_ (fun _ => ?_))
      | exact ih0 _ _
      | exact dossierref08_integer.mono _ _
      | exact dossierref08_sign.mono _ _
      | exact dossierref08_text.mono _ _
      | exact LeO.none _
      | refine LeO.ite ?_ ?_
      | refine LeO.bind ?_ (fun _ => ?_)
theorem dossierref08_word.mono : ∀ a0 k, LeO (dossierref08_word.f k a0) (dossierref08_word.f (k + 1) a0) := by
  intro a0 k
  have ih0 := dossierref08_word.mono_l k
  unfold dossierref08_word.f
  repeat' first
      | (with_reducible exact ih0 _ _)
      | (with_reducible exact dossierref08_integer.mono _ _)
      | (with_reducible exact dossierref08_sign.mono _ _)
      | (with_reducible exact dossierref08_text.mono _ _)
      | (with_reducible exact LeO.refl _)
      | (with_reducible exact LeO.none _)
      | (with_reducible refine LeO.ite ?_ ?_)
      | (with_reducible refine LeO.bind ?_ (fun _ => ?_))
      | exact ih0 _ _
      | exact dossierref08_integer.mono _ _
      | exact dossierref08_sign.mono _ _
      | exact dossierref08_text.mono _ _
      | exact LeO.none _
      | refine LeO.ite ?_ ?_
      | refine LeO.bind ?_ (fun _ => ?_)
def dossierref08_Words.l0 : Nat → ByteArray → List (S50) → Int → Option ((List (S50)) × Int × Int)
  | 0, _, _, _ => none
  | k + 1, x0, x5, x6 => if x6 < (x0.size : Int) then (if 0 ≤ x6 then ((dossierref01_Space.f (wrap64 (bt x0 x6))).bind fun t253 => (if t253 = true then (dossierref08_Words.l0 k x0 x5 (wrap64 (x6 + 1))) else (if x6 ≤ (x0.size : Int) then ((dossierref08_word.f k (x0.extract (x6 : Int).toNat x0.size)).bind fun bt254 => (if bt254.2.2.2.2 = true then (if x5.length < 4398046511104 then (dossierref08_Words.l0 k x0 (x5 ++ [(⟨bt254.1, bt254.2.1, bt254.2.2.1⟩ : S50)]) (wrap64 (x6 + bt254.2.2.2.1))) else (none)) else (some (([] : List (S50)), x6, 20)))) else (none)))) else (none)) else (if x5.length < 4398046511104 then (some ((x5 ++ [(⟨0, (⟨#[]⟩ : ByteArray), 0⟩ : S50)]), 0, 0)) else (none))
def dossierref08_Words.f (k : Nat) (a0 : ByteArray) : Option ((List (S50)) × Int × Int) := if (a0.size : Int) > 400 then (some (([] : List (S50)), 0, 4)) else (dossierref08_Words.l0 k a0 ([] : List (S50)) 0)
theorem dossierref08_Words.mono_l : ∀ k, (∀ y0 y1 y2, LeO (dossierref08_Words.l0 k y0 y1 y2) (dossierref08_Words.l0 (k + 1) y0 y1 y2))
  | 0 => fun _ _ _ r h => by simp [dossierref08_Words.l0] at h
  | k + 1 => by
    have ih0 := dossierref08_Words.mono_l k
    · intro y0 y1 y2
      unfold dossierref08_Words.l0
      repeat' first
      | (with_reducible exact ih0 _ _ _)
      | (with_reducible exact dossierref08_word.mono _ _)
      | (with_reducible exact LeO.refl _)
      | (with_reducible exact LeO.none _)
      | (with_reducible refine LeO.ite ?_ ?_)
      | (with_reducible refine LeO.bind ?_ (fun _ => ?_))
      | exact ih0 _ _ _
      | exact dossierref08_word.mono _ _
      | exact LeO.none _
      | refine LeO.ite ?_ ?_
      | refine LeO.bind ?_ (fun _ => ?_)
theorem dossierref08_Words.mono : ∀ a0 k, LeO (dossierref08_Words.f k a0) (dossierref08_Words.f (k + 1) a0) := by
  intro a0 k
  have ih0 := dossierref08_Words.mono_l k
  unfold dossierref08_Words.f
  repeat' first
      | (with_reducible exact ih0 _ _ _)
      | (with_reducible exact dossierref08_word.mono _ _)
      | (with_reducible exact LeO.refl _)
      | (with_reducible exact LeO.none _)
      | (with_reducible refine LeO.ite ?_ ?_)
      | (with_reducible refine LeO.bind ?_ (fun _ => ?_))
      | exact ih0 _ _ _
      | exact dossierref08_word.mono _ _
      | exact LeO.none _
      | refine LeO.ite ?_ ?_
      | refine LeO.bind ?_ (fun _ => ?_)
def dossierref09_Keyword.l0 : Nat → ByteArray → List ByteArray → Int → Int → Option (Bool)
  | 0, _, _, _, _ => none
  | k + 1, x0, x5, x6, x7 => if x7 < x6 then (if 0 ≤ x7 then (if x7 < (x5.length : Int) then (if x0.toList = (rdOf ByteArray.empty x5 x7).toList then (some true) else (dossierref09_Keyword.l0 k x0 x5 x6 (wrap64 (x7 + 1)))) else (none)) else (none)) else (some false)
def dossierref09_Keyword.f (k : Nat) (a0 : ByteArray) : Option (Bool) := (some (([(⟨#[97, 110, 100]⟩ : ByteArray), (⟨#[111, 114]⟩ : ByteArray), (⟨#[110, 111, 116]⟩ : ByteArray), (⟨#[116, 114, 117, 101]⟩ : ByteArray), (⟨#[102, 97, 108, 115, 101]⟩ : ByteArray), (⟨#[99, 111, 117, 110, 116]⟩ : ByteArray), (⟨#[110, 117, 109, 98, 101, 114]⟩ : ByteArray)] : List ByteArray) : List ByteArray)).bind fun y263 => (dossierref09_Keyword.l0 k a0 y263 (y263.length : Int) 0)
theorem dossierref09_Keyword.mono_l : ∀ k, (∀ y0 y1 y2 y3, LeO (dossierref09_Keyword.l0 k y0 y1 y2 y3) (dossierref09_Keyword.l0 (k + 1) y0 y1 y2 y3))
  | 0 => fun _ _ _ _ r h => by simp [dossierref09_Keyword.l0] at h
  | k + 1 => by
    have ih0 := dossierref09_Keyword.mono_l k
    · intro y0 y1 y2 y3
      unfold dossierref09_Keyword.l0
      repeat' first
      | (with_reducible exact ih0 _ _ _ _)
      | (with_reducible exact LeO.refl _)
      | (with_reducible exact LeO.none _)
      | (with_reducible refine LeO.ite ?_ ?_)
      | (with_reducible refine LeO.bind ?_ (fun _ => ?_))
      | exact ih0 _ _ _ _
      | exact LeO.none _
      | refine LeO.ite ?_ ?_
      | refine LeO.bind ?_ (fun _ => ?_)
theorem dossierref09_Keyword.mono : ∀ a0 k, LeO (dossierref09_Keyword.f k a0) (dossierref09_Keyword.f (k + 1) a0) := by
  intro a0 k
  have ih0 := dossierref09_Keyword.mono_l k
  unfold dossierref09_Keyword.f
  repeat' first
      | (with_reducible exact ih0 _ _ _ _)
      | (with_reducible exact LeO.refl _)
      | (with_reducible exact LeO.none _)
      | (with_reducible refine LeO.ite ?_ ?_)
      | (with_reducible refine LeO.bind ?_ (fun _ => ?_))
      | exact ih0 _ _ _ _
      | exact LeO.none _
      | refine LeO.ite ?_ ?_
      | refine LeO.bind ?_ (fun _ => ?_)
def dossierref09_parser_is.f (k : Nat) (s0_0 : List (S50)) (s0_1 : Bool) (a1 : ByteArray) : Option (Bool × Bool) := if 0 < (s0_0.length : Int) then (if ((rd_T50 s0_0 0).f1).toList = a1.toList then (if ((rd_T50 s0_0 0).f0) = 4 then (some (true, s0_1)) else (if ((rd_T50 s0_0 0).f0) = 1 then ((dossierref09_Keyword.f k a1).bind fun t269 => (some (t269, s0_1))) else (some (false, s0_1)))) else (some (false, s0_1))) else (none)
theorem dossierref09_parser_is.mono : ∀ a0 a1 a2 k, LeO (dossierref09_parser_is.f k a0 a1 a2) (dossierref09_parser_is.f (k + 1) a0 a1 a2) := by
  intro a0 a1 a2 k
  unfold dossierref09_parser_is.f
  repeat' first
      | (with_reducible exact dossierref09_Keyword.mono _ _)
      | (with_reducible exact LeO.refl _)
      | (with_reducible exact LeO.none _)
      | (with_reducible refine LeO.ite ?_ ?_)
      | (with_reducible refine LeO.bind ?_ (fun _ => ?_))
      | exact dossierref09_Keyword.mono _ _
      | exact LeO.none _
      | refine LeO.ite ?_ ?_
      | refine LeO.bind ?_ (fun _ => ?_)
def dossierref09_states.f  : Option (List ByteArray) := some (([(⟨#[]⟩ : ByteArray), (⟨#[97, 118, 97, 105, 108, 97, 98, 108, 101]⟩ : ByteArray), (⟨#[101, 110, 97, 98, 108, 101, 100]⟩ : ByteArray), (⟨#[100, 105, 115, 97, 98, 108, 101, 100]⟩ : ByteArray), (⟨#[97, 99, 116, 105, 118, 101]⟩ : ByteArray), (⟨#[102, 97, 105, 108, 101, 100]⟩ : ByteArray), (⟨#[115, 117, 115, 112, 101, 110, 100, 101, 100]⟩ : ByteArray), (⟨#[99, 111, 109, 112, 108, 101, 116, 101, 100]⟩ : ByteArray), (⟨#[116, 101, 114, 109, 105, 110, 97, 116, 101, 100]⟩ : ByteArray)] : List ByteArray))
def dossierref09_State.l0 : Nat → ByteArray → List ByteArray → Int → Int → Option (Int × Bool)
  | 0, _, _, _, _ => none
  | k + 1, x0, x6, x7, x8 => if x8 < x7 then (if 0 ≤ x8 then (if x8 < (x6.length : Int) then (if x8 > 0 then (if (rdOf ByteArray.empty x6 x8).toList = x0.toList then (some (x8, true)) else (dossierref09_State.l0 k x0 x6 x7 (wrap64 (x8 + 1)))) else (dossierref09_State.l0 k x0 x6 x7 (wrap64 (x8 + 1)))) else (none)) else (none)) else (some (0, false))
def dossierref09_State.f (k : Nat) (a0 : ByteArray) : Option (Int × Bool) := (dossierref09_states.f).bind fun t275 => (dossierref09_State.l0 k a0 t275 (t275.length : Int) 0)
theorem dossierref09_State.mono_l : ∀ k, (∀ y0 y1 y2 y3, LeO (dossierref09_State.l0 k y0 y1 y2 y3) (dossierref09_State.l0 (k + 1) y0 y1 y2 y3))
  | 0 => fun _ _ _ _ r h => by simp [dossierref09_State.l0] at h
  | k + 1 => by
    have ih0 := dossierref09_State.mono_l k
    · intro y0 y1 y2 y3
      unfold dossierref09_State.l0
      repeat' first
      | (with_reducible exact ih0 _ _ _ _)
      | (with_reducible exact LeO.refl _)
      | (with_reducible exact LeO.none _)
      | (with_reducible refine LeO.ite ?_ ?_)
      | (with_reducible refine LeO.bind ?_ (fun _ => ?_))
      | exact ih0 _ _ _ _
      | exact LeO.none _
      | refine LeO.ite ?_ ?_
      | refine LeO.bind ?_ (fun _ => ?_)
theorem dossierref09_State.mono : ∀ a0 k, LeO (dossierref09_State.f k a0) (dossierref09_State.f (k + 1) a0) := by
  intro a0 k
  have ih0 := dossierref09_State.mono_l k
  unfold dossierref09_State.f
  repeat' first
      | (with_reducible exact ih0 _ _ _ _)
      | (with_reducible exact LeO.refl _)
      | (with_reducible exact LeO.none _)
      | (with_reducible refine LeO.ite ?_ ?_)
      | (with_reducible refine LeO.bind ?_ (fun _ => ?_))
      | exact ih0 _ _ _ _
      | exact LeO.none _
      | refine LeO.ite ?_ ?_
      | refine LeO.bind ?_ (fun _ => ?_)
def dossierref07_Int.f (a0 : Int) : Option (Int × Int × Bool × ByteArray) := some (1, a0, false, (⟨#[]⟩ : ByteArray))
def dossierref07_Text.f (a0 : ByteArray) : Option (Int × Int × Bool × ByteArray) := some (3, 0, false, a0)
def dossierref07_Bool.f (a0 : Bool) : Option (Int × Int × Bool × ByteArray) := some (2, 0, a0, (⟨#[]⟩ : ByteArray))
mutual
def dossierref09_tight.j0 : Nat → Int → Bool → Option (Int)
  | 0, _, _ => none
  | k + 1, x3, x10 => if x10 = true then (some 4) else (if x3 = 10 then (dossierref09_tight.j1 k x3 (x3 == 10)) else (dossierref09_tight.j1 k x3 (x3 == 11)))
def dossierref09_tight.j1 : Nat → Int → Bool → Option (Int)
  | 0, _, _ => none
  | k + 1, x3, x17 => if x17 = true then (some 5) else (if x3 = 7 then (dossierref09_tight.j2 k x3 (x3 == 7)) else (if x3 = 8 then (dossierref09_tight.j2 k x3 (x3 == 8)) else (dossierref09_tight.j2 k x3 (x3 == 9))))
def dossierref09_tight.j2 : Nat → Int → Bool → Option (Int)
  | 0, _, _ => none
  | k + 1, x3, x20 => if x20 = true then (some 6) else (if x3 = 6 then (some 7) else (some 8))
end
def dossierref09_tight.f (k : Nat) (a0 : Int) : Option (Int) := if a0 = 19 then (some 1) else (if a0 = 18 then (some 2) else (if a0 = 5 then (some 3) else (if a0 = 12 then (dossierref09_tight.j0 k a0 (a0 == 12)) else (if a0 = 13 then (dossierref09_tight.j0 k a0 (a0 == 13)) else (if a0 = 14 then (dossierref09_tight.j0 k a0 (a0 == 14)) else (if a0 = 15 then (dossierref09_tight.j0 k a0 (a0 == 15)) else (if a0 = 16 then (dossierref09_tight.j0 k a0 (a0 == 16)) else (dossierref09_tight.j0 k a0 (a0 == 17)))))))))
theorem dossierref09_tight.mono_l : ∀ k, (∀ y0 y1, LeO (dossierref09_tight.j0 k y0 y1) (dossierref09_tight.j0 (k + 1) y0 y1)) ∧ (∀ y0 y1, LeO (dossierref09_tight.j1 k y0 y1) (dossierref09_tight.j1 (k + 1) y0 y1)) ∧ (∀ y0 y1, LeO (dossierref09_tight.j2 k y0 y1) (dossierref09_tight.j2 (k + 1) y0 y1))
  | 0 => ⟨fun _ _ r h => by simp [dossierref09_tight.j0] at h, fun _ _ r h => by simp [dossierref09_tight.j1] at h, fun _ _ r h => by simp [dossierref09_tight.j2] at h⟩
  | k + 1 => by
    obtain ⟨ih0, ih1, ih2⟩ := dossierref09_tight.mono_l k
    refine ⟨?_, ?_, ?_⟩
    · intro y0 y1
      unfold dossierref09_tight.j0
      repeat' first
      | (with_reducible exact ih0 _ _)
      | (with_reducible exact ih1 _ _)
      | (with_reducible exact ih2 _ _)
      | (with_reducible exact LeO.refl _)
      | (with_reducible exact LeO.none _)
      | (with_reducible refine LeO.ite ?_ ?_)
      | (with_reducible refine LeO.bind ?_ (fun _ => ?_))
      | exact ih0 _ _
      | exact ih1 _ _
      | exact ih2 _ _
      | exact LeO.none _
      | refine LeO.ite ?_ ?_
      | refine LeO.bind ?_ (fun _ => ?_)
    · intro y0 y1
      unfold dossierref09_tight.j1
      repeat' first
      | (with_reducible exact ih0 _ _)
      | (with_reducible exact ih1 _ _)
      | (with_reducible exact ih2 _ _)
      | (with_reducible exact LeO.refl _)
      | (with_reducible exact LeO.none _)
      | (with_reducible refine LeO.ite ?_ ?_)
      | (with_reducible refine LeO.bind ?_ (fun _ => ?_))
      | exact ih0 _ _
      | exact ih1 _ _
      | exact ih2 _ _
      | exact LeO.none _
      | refine LeO.ite ?_ ?_
      | refine LeO.bind ?_ (fun _ => ?_)
    · intro y0 y1
      unfold dossierref09_tight.j2
      repeat' first
      | (with_reducible exact ih0 _ _)
      | (with_reducible exact ih1 _ _)
      | (with_reducible exact ih2 _ _)
      | (with_reducible exact LeO.refl _)
      | (with_reducible exact LeO.none _)
      | (with_reducible refine LeO.ite ?_ ?_)
      | (with_reducible refine LeO.bind ?_ (fun _ => ?_))
      | exact ih0 _ _
      | exact ih1 _ _
      | exact ih2 _ _
      | exact LeO.none _
      | refine LeO.ite ?_ ?_
      | refine LeO.bind ?_ (fun _ => ?_)
theorem dossierref09_tight.mono : ∀ a0 k, LeO (dossierref09_tight.f k a0) (dossierref09_tight.f (k + 1) a0) := by
  intro a0 k
  obtain ⟨ih0, ih1, ih2⟩ := dossierref09_tight.mono_l k
  unfold dossierref09_tight.f
  repeat' first
      | (with_reducible exact ih0 _ _)
      | (with_reducible exact ih1 _ _)
      | (with_reducible exact ih2 _ _)
      | (with_reducible exact LeO.refl _)
      | (with_reducible exact LeO.none _)
      | (with_reducible refine LeO.ite ?_ ?_)
      | (with_reducible refine LeO.bind ?_ (fun _ => ?_))
      | exact ih0 _ _
      | exact ih1 _ _
      | exact ih2 _ _
      | exact LeO.none _
      | refine LeO.ite ?_ ?_
      | refine LeO.bind ?_ (fun _ => ?_)
def dossierref09_sign.f (a0 : Int) : Option (ByteArray) := if a0 = 19 then (some (⟨#[111, 114]⟩ : ByteArray)) else (if a0 = 18 then (some (⟨#[97, 110, 100]⟩ : ByteArray)) else (if a0 = 12 then (some (⟨#[60]⟩ : ByteArray)) else (if a0 = 13 then (some (⟨#[60, 61]⟩ : ByteArray)) else (if a0 = 14 then (some (⟨#[62]⟩ : ByteArray)) else (if a0 = 15 then (some (⟨#[62, 61]⟩ : ByteArray)) else (if a0 = 16 then (some (⟨#[61]⟩ : ByteArray)) else (if a0 = 17 then (some (⟨#[33, 61]⟩ : ByteArray)) else (if a0 = 10 then (some (⟨#[43]⟩ : ByteArray)) else (if a0 = 11 then (some (⟨#[45]⟩ : ByteArray)) else (if a0 = 7 then (some (⟨#[42]⟩ : ByteArray)) else (if a0 = 8 then (some (⟨#[47]⟩ : ByteArray)) else (if a0 = 9 then (some (⟨#[37]⟩ : ByteArray)) else (some (⟨#[]⟩ : ByteArray))))))))))))))
def dossierref09_parser_operator.l0 : Nat → Int → Int → List (S50) → Bool → Option (Int × Bool)
  | 0, _, _, _, _ => none
  | k + 1, x1, x5, x1000, x1001 => if x5 ≤ 19 then ((dossierref09_tight.f k x5).bind fun t289 => (if t289 = x1 then ((dossierref09_sign.f x5).bind fun t290 => ((dossierref09_parser_is.f k x1000 x1001 t290).bind fun bt291 => (if bt291.1 = true then (some (x5, bt291.2)) else (dossierref09_parser_operator.l0 k x1 (wrap64 (x5 + 1)) x1000 bt291.2)))) else (dossierref09_parser_operator.l0 k x1 (wrap64 (x5 + 1)) x1000 x1001))) else (some (0, x1001))
def dossierref09_parser_operator.f (k : Nat) (s0_0 : List (S50)) (s0_1 : Bool) (a1 : Int) : Option (Int × Bool) := dossierref09_parser_operator.l0 k a1 7 s0_0 s0_1
theorem dossierref09_parser_operator.mono_l : ∀ k, (∀ y0 y1 y2 y3, LeO (dossierref09_parser_operator.l0 k y0 y1 y2 y3) (dossierref09_parser_operator.l0 (k + 1) y0 y1 y2 y3))
  | 0 => fun _ _ _ _ r h => by simp [dossierref09_parser_operator.l0] at h
  | k + 1 => by
    have ih0 := dossierref09_parser_operator.mono_l k
    · intro y0 y1 y2 y3
      unfold dossierref09_parser_operator.l0
      repeat' first
      | (with_reducible exact ih0 _ _ _ _)
      | (with_reducible exact dossierref09_parser_is.mono _ _ _ _)
      | (with_reducible exact dossierref09_tight.mono _ _)
      | (with_reducible exact LeO.refl _)
      | (with_reducible exact LeO.none _)
      | (with_reducible refine LeO.ite ?_ ?_)
      | (with_reducible refine LeO.bind ?_ (fun _ => ?_))
      | exact ih0 _ _ _ _
      | exact dossierref09_parser_is.mono _ _ _ _
      | exact dossierref09_tight.mono _ _
      | exact LeO.none _
      | refine LeO.ite ?_ ?_
      | refine LeO.bind ?_ (fun _ => ?_)
theorem dossierref09_parser_operator.mono : ∀ a0 a1 a2 k, LeO (dossierref09_parser_operator.f k a0 a1 a2) (dossierref09_parser_operator.f (k + 1) a0 a1 a2) := by
  intro a0 a1 a2 k
  have ih0 := dossierref09_parser_operator.mono_l k
  unfold dossierref09_parser_operator.f
  repeat' first
      | (with_reducible exact ih0 _ _ _ _)
      | (with_reducible exact dossierref09_parser_is.mono _ _ _ _)
      | (with_reducible exact dossierref09_tight.mono _ _)
      | (with_reducible exact LeO.refl _)
      | (with_reducible exact LeO.none _)
      | (with_reducible refine LeO.ite ?_ ?_)
      | (with_reducible refine LeO.bind ?_ (fun _ => ?_))
      | exact ih0 _ _ _ _
      | exact dossierref09_parser_is.mono _ _ _ _
      | exact dossierref09_tight.mono _ _
      | exact LeO.none _
      | refine LeO.ite ?_ ?_
      | refine LeO.bind ?_ (fun _ => ?_)
mutual
def dossierref09_Depth.l0 : Nat → Int → List (S26) → Int → Int → Option (Int)
  | 0, _, _, _, _ => none
  | k + 1, x3, x7, x8, x9 => if x9 < x8 then (if 0 ≤ x9 then (if x9 < (x7.length : Int) then ((dossierref09_Depth.f k ((rd_T26 x7 x9).f0) ((rd_T26 x7 x9).f1.f0) ((rd_T26 x7 x9).f1.f1) ((rd_T26 x7 x9).f1.f2) ((rd_T26 x7 x9).f1.f3) ((rd_T26 x7 x9).f2) ((rd_T26 x7 x9).f3) ((rd_T26 x7 x9).f4)).bind fun t297 => (dossierref09_Depth.l0 k (mx x3 t297) x7 x8 (wrap64 (x9 + 1)))) else (none)) else (none)) else (some (wrap64 (x3 + 1)))
def dossierref09_Depth.f : Nat → Int → Int → Int → Bool → ByteArray → ByteArray → Int → List (S26) → Option (Int)
  | 0, _, _, _, _, _, _, _, _ => none
  | k + 1, a0_0, a0_1, a0_2, a0_3, a0_4, a0_5, a0_6, l0_7 => dossierref09_Depth.l0 k 0 l0_7 (l0_7.length : Int) 0
end
theorem dossierref09_Depth.mono_l : ∀ k, (∀ y0 y1 y2 y3 y4 y5 y6 y7, LeO (dossierref09_Depth.f k y0 y1 y2 y3 y4 y5 y6 y7) (dossierref09_Depth.f (k + 1) y0 y1 y2 y3 y4 y5 y6 y7)) ∧ (∀ y0 y1 y2 y3, LeO (dossierref09_Depth.l0 k y0 y1 y2 y3) (dossierref09_Depth.l0 (k + 1) y0 y1 y2 y3))
  | 0 => ⟨fun _ _ _ _ _ _ _ _ r h => by simp [dossierref09_Depth.f] at h, fun _ _ _ _ r h => by simp [dossierref09_Depth.l0] at h⟩
  | k + 1 => by
    obtain ⟨ih0, ih1⟩ := dossierref09_Depth.mono_l k
    refine ⟨?_, ?_⟩
    · intro y0 y1 y2 y3 y4 y5 y6 y7
      unfold dossierref09_Depth.f
      repeat' first
      | (with_reducible exact ih0 _ _ _ _ _ _ _ _)
      | (with_reducible exact ih1 _ _ _ _)
      | (with_reducible exact LeO.refl _)
      | (with_reducible exact LeO.none _)
      | (with_reducible refine LeO.ite ?_ ?_)
      | (with_reducible refine LeO.bind ?_ (fun _ => ?_))
      | exact ih0 _ _ _ _ _ _ _ _
      | exact ih1 _ _ _ _
      | exact LeO.none _
      | refine LeO.ite ?_ ?_
      | refine LeO.bind ?_ (fun _ => ?_)
    · intro y0 y1 y2 y3
      unfold dossierref09_Depth.l0
      repeat' first
      | (with_reducible exact ih0 _ _ _ _ _ _ _ _)
      | (with_reducible exact ih1 _ _ _ _)
      | (with_reducible exact LeO.refl _)
      | (with_reducible exact LeO.none _)
      | (with_reducible refine LeO.ite ?_ ?_)
      | (with_reducible refine LeO.bind ?_ (fun _ => ?_))
      | exact ih0 _ _ _ _ _ _ _ _
      | exact ih1 _ _ _ _
      | exact LeO.none _
      | refine LeO.ite ?_ ?_
      | refine LeO.bind ?_ (fun _ => ?_)
theorem dossierref09_Depth.mono : ∀ a0 a1 a2 a3 a4 a5 a6 a7 k, LeO (dossierref09_Depth.f k a0 a1 a2 a3 a4 a5 a6 a7) (dossierref09_Depth.f (k + 1) a0 a1 a2 a3 a4 a5 a6 a7) := by
  intro a0 a1 a2 a3 a4 a5 a6 a7 k
  obtain ⟨ih0, ih1⟩ := dossierref09_Depth.mono_l k
  exact ih0 a0 a1 a2 a3 a4 a5 a6 a7
mutual
def dossierref09_Same.j0 : Nat → Bool → Int → Int → Int → Bool → ByteArray → ByteArray → Int → List (S26) → Int → Int → Int → Bool → ByteArray → ByteArray → Int → List (S26) → Option (Bool)
  | 0, _, _, _, _, _, _, _, _, _, _, _, _, _, _, _, _, _ => none
  | k + 1, x40, x306000, x306001, x306002, x306003, x306004, x306005, x306006, x306007, x307000, x307001, x307002, x307003, x307004, x307005, x307006, x307007 => if x40 = true then (some false) else (dossierref09_Same.l0 k (x306007.length : Int) 0 x306000 x306001 x306002 x306003 x306004 x306005 x306006 x306007 x307000 x307001 x307002 x307003 x307004 x307005 x307006 x307007)
def dossierref09_Same.l0 : Nat → Int → Int → Int → Int → Int → Bool → ByteArray → ByteArray → Int → List (S26) → Int → Int → Int → Bool → ByteArray → ByteArray → Int → List (S26) → Option (Bool)
  | 0, _, _, _, _, _, _, _, _, _, _, _, _, _, _, _, _, _, _ => none
  | k + 1, x43, x44, x306000, x306001, x306002, x306003, x306004, x306005, x306006, x306007, x307000, x307001, x307002, x307003, x307004, x307005, x307006, x307007 => if x44 < x43 then (if 0 ≤ x44 then (if x44 < (x306007.length : Int) then (if x44 < (x307007.length : Int) then ((dossierref09_Same.f k ((rd_T26 x306007 x44).f0) ((rd_T26 x306007 x44).f1.f0) ((rd_T26 x306007 x44).f1.f1) ((rd_T26 x306007 x44).f1.f2) ((rd_T26 x306007 x44).f1.f3) ((rd_T26 x306007 x44).f2) ((rd_T26 x306007 x44).f3) ((rd_T26 x306007 x44).f4) ((rd_T26 x307007 x44).f0) ((rd_T26 x307007 x44).f1.f0) ((rd_T26 x307007 x44).f1.f1) ((rd_T26 x307007 x44).f1.f2) ((rd_T26 x307007 x44).f1.f3) ((rd_T26 x307007 x44).f2) ((rd_T26 x307007 x44).f3) ((rd_T26 x307007 x44).f4)).bind fun t309 => (if t309 = true then (dossierref09_Same.l0 k x43 (wrap64 (x44 + 1)) x306000 x306001 x306002 x306003 x306004 x306005 x306006 x306007 x307000 x307001 x307002 x307003 x307004 x307005 x307006 x307007) else (some false))) else (none)) else (none)) else (none)) else (some true)
def dossierref09_Same.f : Nat → Int → Int → Int → Bool → ByteArray → ByteArray → Int → List (S26) → Int → Int → Int → Bool → ByteArray → ByteArray → Int → List (S26) → Option (Bool)
  | 0, _, _, _, _, _, _, _, _, _, _, _, _, _, _, _, _ => none
  | k + 1, a0_0, a0_1, a0_2, a0_3, a0_4, a0_5, a0_6, l0_7, a1_0, a1_1, a1_2, a1_3, a1_4, a1_5, a1_6, l1_7 => if a0_0 = a1_0 then (if (!(a0_1 == a1_1) || (!(a0_2 == a1_2) || (!(a0_3 == a1_3) || (!(a0_4.toList == a1_4.toList))))) = true then (dossierref09_Same.j0 k true a0_0 a0_1 a0_2 a0_3 a0_4 a0_5 a0_6 l0_7 a1_0 a1_1 a1_2 a1_3 a1_4 a1_5 a1_6 l1_7) else (if a0_5.toList = a1_5.toList then (if a0_6 = a1_6 then (dossierref09_Same.j0 k ((l0_7.length : Int) != (l1_7.length : Int)) a0_0 a0_1 a0_2 a0_3 a0_4 a0_5 a0_6 l0_7 a1_0 a1_1 a1_2 a1_3 a1_4 a1_5 a1_6 l1_7) else (dossierref09_Same.j0 k true a0_0 a0_1 a0_2 a0_3 a0_4 a0_5 a0_6 l0_7 a1_0 a1_1 a1_2 a1_3 a1_4 a1_5 a1_6 l1_7)) else (dossierref09_Same.j0 k true a0_0 a0_1 a0_2 a0_3 a0_4 a0_5 a0_6 l0_7 a1_0 a1_1 a1_2 a1_3 a1_4 a1_5 a1_6 l1_7))) else (dossierref09_Same.j0 k true a0_0 a0_1 a0_2 a0_3 a0_4 a0_5 a0_6 l0_7 a1_0 a1_1 a1_2 a1_3 a1_4 a1_5 a1_6 l1_7)
end
theorem dossierref09_Same.mono_l : ∀ k, (∀ y0 y1 y2 y3 y4 y5 y6 y7 y8 y9 y10 y11 y12 y13 y14 y15, LeO (dossierref09_Same.f k y0 y1 y2 y3 y4 y5 y6 y7 y8 y9 y10 y11 y12 y13 y14 y15) (dossierref09_Same.f (k + 1) y0 y1 y2 y3 y4 y5 y6 y7 y8 y9 y10 y11 y12 y13 y14 y15)) ∧ (∀ y0 y1 y2 y3 y4 y5 y6 y7 y8 y9 y10 y11 y12 y13 y14 y15 y16, LeO (dossierref09_Same.j0 k y0 y1 y2 y3 y4 y5 y6 y7 y8 y9 y10 y11 y12 y13 y14 y15 y16) (dossierref09_Same.j0 (k + 1) y0 y1 y2 y3 y4 y5 y6 y7 y8 y9 y10 y11 y12 y13 y14 y15 y16)) ∧ (∀ y0 y1 y2 y3 y4 y5 y6 y7 y8 y9 y10 y11 y12 y13 y14 y15 y16 y17, LeO (dossierref09_Same.l0 k y0 y1 y2 y3 y4 y5 y6 y7 y8 y9 y10 y11 y12 y13 y14 y15 y16 y17) (dossierref09_Same.l0 (k + 1) y0 y1 y2 y3 y4 y5 y6 y7 y8 y9 y10 y11 y12 y13 y14 y15 y16 y17))
  | 0 => ⟨fun _ _ _ _ _ _ _ _ _ _ _ _ _ _ _ _ r h => by simp [dossierref09_Same.f] at h, fun _ _ _ _ _ _ _ _ _ _ _ _ _ _ _ _ _ r h => by simp [dossierref09_Same.j0] at h, fun _ _ _ _ _ _ _ _ _ _ _ _ _ _ _ _ _ _ r h => by simp [dossierref09_Same.l0] at h⟩
  | k + 1 => by
    obtain ⟨ih0, ih1, ih2⟩ := dossierref09_Same.mono_l k
    refine ⟨?_, ?_, ?_⟩
    · intro y0 y1 y2 y3 y4 y5 y6 y7 y8 y9 y10 y11 y12 y13 y14 y15
      unfold dossierref09_Same.f
      repeat' first
      | (with_reducible exact ih0 _ _ _ _ _ _ _ _ _ _ _ _ _ _ _ _)
      | (with_reducible exact ih1 _ _ _ _ _ _ _ _ _ _ _ _ _ _ _ _ _)
      | (with_reducible exact ih2 _ _ _ _ _ _ _ _ _ _ _ _ _ _ _ _ _ _)
      | (with_reducible exact LeO.refl _)
      | (with_reducible exact LeO.none _)
      | (with_reducible refine LeO.ite ?_ ?_)
      | (with_reducible refine LeO.bind ?_ (fun _ => ?_))
      | exact ih0 _ _ _ _ _ _ _ _ _ _ _ _ _ _ _ _
      | exact ih1 _ _ _ _ _ _ _ _ _ _ _ _ _ _ _ _ _
      | exact ih2 _ _ _ _ _ _ _ _ _ _ _ _ _ _ _ _ _ _
      | exact LeO.none _
      | refine LeO.ite ?_ ?_
      | refine LeO.bind ?_ (fun _ => ?_)
    · intro y0 y1 y2 y3 y4 y5 y6 y7 y8 y9 y10 y11 y12 y13 y14 y15 y16
      unfold dossierref09_Same.j0
      repeat' first
      | (with_reducible exact ih0 _ _ _ _ _ _ _ _ _ _ _ _ _ _ _ _)
      | (with_reducible exact ih1 _ _ _ _ _ _ _ _ _ _ _ _ _ _ _ _ _)
      | (with_reducible exact ih2 _ _ _ _ _ _ _ _ _ _ _ _ _ _ _ _ _ _)
      | (with_reducible exact LeO.refl _)
      | (with_reducible exact LeO.none _)
      | (with_reducible refine LeO.ite ?_ ?_)
      | (with_reducible refine LeO.bind ?_ (fun _ => ?_))
      | exact ih0 _ _ _ _ _ _ _ _ _ _ _ _ _ _ _ _
      | exact ih1 _ _ _ _ _ _ _ _ _ _ _ _ _ _ _ _ _
      | exact ih2 _ _ _ _ _ _ _ _ _ _ _ _ _ _ _ _ _ _
      | exact LeO.none _
      | refine LeO.ite ?_ ?_
      | refine LeO.bind ?_ (fun _ => ?_)
    · intro y0 y1 y2 y3 y4 y5 y6 y7 y8 y9 y10 y11 y12 y13 y14 y15 y16 y17
      unfold dossierref09_Same.l0
      repeat' first
      | (with_reducible exact ih0 _ _ _ _ _ _ _ _ _ _ _ _ _ _ _ _)
      | (with_reducible exact ih1 _ _ _ _ _ _ _ _ _ _ _ _ _ _ _ _ _)
      | (with_reducible exact ih2 _ _ _ _ _ _ _ _ _ _ _ _ _ _ _ _ _ _)
      | (with_reducible exact LeO.refl _)
      | (with_reducible exact LeO.none _)
      | (with_reducible refine LeO.ite ?_ ?_)
      | (with_reducible refine LeO.bind ?_ (fun _ => ?_))
      | exact ih0 _ _ _ _ _ _ _ _ _ _ _ _ _ _ _ _
      | exact ih1 _ _ _ _ _ _ _ _ _ _ _ _ _ _ _ _ _
      | exact ih2 _ _ _ _ _ _ _ _ _ _ _ _ _ _ _ _ _ _
      | exact LeO.none _
      | refine LeO.ite ?_ ?_
      | refine LeO.bind ?_ (fun _ => ?_)
theorem dossierref09_Same.mono : ∀ a0 a1 a2 a3 a4 a5 a6 a7 a8 a9 a10 a11 a12 a13 a14 a15 k, LeO (dossierref09_Same.f k a0 a1 a2 a3 a4 a5 a6 a7 a8 a9 a10 a11 a12 a13 a14 a15) (dossierref09_Same.f (k + 1) a0 a1 a2 a3 a4 a5 a6 a7 a8 a9 a10 a11 a12 a13 a14 a15) := by
  intro a0 a1 a2 a3 a4 a5 a6 a7 a8 a9 a10 a11 a12 a13 a14 a15 k
  obtain ⟨ih0, ih1, ih2⟩ := dossierref09_Same.mono_l k
  exact ih0 a0 a1 a2 a3 a4 a5 a6 a7 a8 a9 a10 a11 a12 a13 a14 a15
def dossierref09_StateName.f (a0 : Int) : Option (ByteArray) := if a0 < 1 then (some (⟨#[]⟩ : ByteArray)) else (if a0 > 8 then (some (⟨#[]⟩ : ByteArray)) else ((dossierref09_states.f).bind fun t310 => (if 0 ≤ a0 then (if a0 < (t310.length : Int) then (some (rdOf ByteArray.empty t310 a0)) else (none)) else (none))))
end Go.Proofs.YtokphdplckcgfaaDoor.Q
end
section
/- What the program's library functions are, against the shelf's own bodies: a table of numbers and one theorem for each, by the kernel's comparison. Written by the kit's lay-plain.mjs for this seat. -/
namespace Go.Proofs
open Go.Shelf
def Tryd.layDecodeRune_ren : Go.Shelf.Ren := ⟨fun | 32 => 93 | 49 => 97 | n => n, fun | 30 => 98 | 21 => 21 | 3 => 3 | 0 => 0 | 5 => 5 | 4 => 4 | 33 => 93 | 66 => 116 | 25 => 117 | 69 => 120 | 68 => 119 | n => n, fun | 2 => 0 | 3 => 1 | n => n⟩
theorem Tryd.layDecodeRune : Go.Proofs.Lays7.n32 Tryd.prog Tryd.layDecodeRune_ren := {
  mixed := by kernel_rfl
  f32 := Tryd.func93.trans (congrArg some (by kernel_rfl))
  f49 := Tryd.func97.trans (congrArg some (by kernel_rfl))
  t0 := Tryd.underlying0
  a0 := Tryd.isAgg0
  z0 := Tryd.sizeOf0
  v0 := Tryd.zeroValue0
  i0 := by kernel_rfl
  t3 := Tryd.underlying3
  a3 := Tryd.isAgg3
  z3 := Tryd.sizeOf3
  v3 := Tryd.zeroValue3
  i3 := by kernel_rfl
  t4 := Tryd.underlying4
  a4 := Tryd.isAgg4
  z4 := Tryd.sizeOf4
  v4 := Tryd.zeroValue4
  i4 := by kernel_rfl
  t5 := Tryd.underlying5
  a5 := Tryd.isAgg5
  z5 := Tryd.sizeOf5
  v5 := Tryd.zeroValue5
  i5 := by kernel_rfl
  t21 := Tryd.underlying21
  a21 := Tryd.isAgg21
  z21 := Tryd.sizeOf21
  v21 := Tryd.zeroValue21
  i21 := by kernel_rfl
  t25 := Tryd.underlying117
  a25 := Tryd.isAgg117
  z25 := Tryd.sizeOf117
  v25 := Tryd.zeroValue117
  i25 := by kernel_rfl
  t30 := Tryd.underlying98
  a30 := Tryd.isAgg98
  z30 := Tryd.sizeOf98
  v30 := Tryd.zeroValue98
  i30 := by kernel_rfl
  t33 := Tryd.underlying93
  a33 := Tryd.isAgg93
  z33 := Tryd.sizeOf93
  v33 := Tryd.zeroValue93
  i33 := by kernel_rfl
  t66 := Tryd.underlying116
  a66 := Tryd.isAgg116
  z66 := Tryd.sizeOf116
  t68 := Tryd.underlying119
  a68 := Tryd.isAgg119
  z68 := Tryd.sizeOf119
  v68 := Tryd.zeroValue119
  i68 := by kernel_rfl
  t69 := Tryd.underlying120
  a69 := Tryd.isAgg120
  z69 := Tryd.sizeOf120
  v69 := Tryd.zeroValue120
  i69 := by kernel_rfl
  g2 := by kernel_rfl
  g3 := by kernel_rfl }
def Tryd.layIndexByte_ren : Go.Shelf.Ren := ⟨fun | 137 => 66 | 217 => 80 | 266 => 92 | n => n, fun | 9 => 9 | 5 => 5 | 3 => 3 | n => n, fun | n => n⟩
theorem Tryd.layIndexByte : Go.Proofs.Lays.n137 Tryd.prog Tryd.layIndexByte_ren := {
  mixed := by kernel_rfl
  f137 := Tryd.func66.trans (congrArg some (by kernel_rfl))
  f217 := Tryd.func80.trans (congrArg some (by kernel_rfl))
  f266 := Tryd.func92.trans (congrArg some (by kernel_rfl))
  t3 := Tryd.underlying3
  a3 := Tryd.isAgg3
  z3 := Tryd.sizeOf3
  v3 := Tryd.zeroValue3
  t5 := Tryd.underlying5
  a5 := Tryd.isAgg5
  z5 := Tryd.sizeOf5
  v5 := Tryd.zeroValue5
  t9 := Tryd.underlying9
  a9 := Tryd.isAgg9
  z9 := Tryd.sizeOf9
  v9 := Tryd.zeroValue9 }
def Tryd.layTrimLeft_ren : Go.Shelf.Ren := ⟨fun | 161 => 27 | 231 => 37 | 227 => 38 | 233 => 39 | 235 => 40 | 228 => 63 | 197 => 64 | 151 => 65 | 260 => 78 | 152 => 79 | 137 => 66 | 119 => 89 | 224 => 90 | 225 => 91 | 217 => 80 | 266 => 92 | n => n, fun | 9 => 9 | 4 => 4 | 3 => 3 | 5 => 5 | 117 => 74 | 116 => 73 | 0 => 0 | 124 => 77 | 105 => 93 | 21 => 21 | 119 => 116 | 46 => 117 | 139 => 120 | 138 => 119 | n => n, fun | 3 => 0 | 4 => 1 | n => n⟩
theorem Tryd.layTrimLeft : Go.Proofs.Lays.n161 Tryd.prog Tryd.layTrimLeft_ren := {
  mixed := by kernel_rfl
  f119 := Tryd.func89.trans (congrArg some (by kernel_rfl))
  f137 := Tryd.func66.trans (congrArg some (by kernel_rfl))
  f151 := Tryd.func65.trans (congrArg some (by kernel_rfl))
  f152 := Tryd.func79.trans (congrArg some (by kernel_rfl))
  f161 := Tryd.func27.trans (congrArg some (by kernel_rfl))
  f197 := Tryd.func64.trans (congrArg some (by kernel_rfl))
  f217 := Tryd.func80.trans (congrArg some (by kernel_rfl))
  f224 := Tryd.func90.trans (congrArg some (by kernel_rfl))
  f225 := Tryd.func91.trans (congrArg some (by kernel_rfl))
  f227 := Tryd.func38.trans (congrArg some (by kernel_rfl))
  f228 := Tryd.func63.trans (congrArg some (by kernel_rfl))
  f231 := Tryd.func37.trans (congrArg some (by kernel_rfl))
  f233 := Tryd.func39.trans (congrArg some (by kernel_rfl))
  f235 := Tryd.func40.trans (congrArg some (by kernel_rfl))
  f260 := Tryd.func78.trans (congrArg some (by kernel_rfl))
  f266 := Tryd.func92.trans (congrArg some (by kernel_rfl))
  t0 := Tryd.underlying0
  a0 := Tryd.isAgg0
  z0 := Tryd.sizeOf0
  v0 := Tryd.zeroValue0
  t3 := Tryd.underlying3
  a3 := Tryd.isAgg3
  z3 := Tryd.sizeOf3
  v3 := Tryd.zeroValue3
  t4 := Tryd.underlying4
  a4 := Tryd.isAgg4
  z4 := Tryd.sizeOf4
  v4 := Tryd.zeroValue4
  t5 := Tryd.underlying5
  a5 := Tryd.isAgg5
  z5 := Tryd.sizeOf5
  v5 := Tryd.zeroValue5
  t9 := Tryd.underlying9
  a9 := Tryd.isAgg9
  z9 := Tryd.sizeOf9
  v9 := Tryd.zeroValue9
  t21 := Tryd.underlying21
  a21 := Tryd.isAgg21
  z21 := Tryd.sizeOf21
  v21 := Tryd.zeroValue21
  t46 := Tryd.underlying117
  a46 := Tryd.isAgg117
  z46 := Tryd.sizeOf117
  v46 := Tryd.zeroValue117
  t105 := Tryd.underlying93
  a105 := Tryd.isAgg93
  z105 := Tryd.sizeOf93
  v105 := Tryd.zeroValue93
  t116 := Tryd.underlying73
  a116 := Tryd.isAgg73
  z116 := Tryd.sizeOf73
  t117 := Tryd.underlying74
  a117 := Tryd.isAgg74
  z117 := Tryd.sizeOf74
  v117 := Tryd.zeroValue74
  t119 := Tryd.underlying116
  a119 := Tryd.isAgg116
  z119 := Tryd.sizeOf116
  t124 := Tryd.underlying77
  a124 := Tryd.isAgg77
  z124 := Tryd.sizeOf77
  v124 := Tryd.zeroValue77
  t138 := Tryd.underlying119
  a138 := Tryd.isAgg119
  z138 := Tryd.sizeOf119
  v138 := Tryd.zeroValue119
  t139 := Tryd.underlying120
  a139 := Tryd.isAgg120
  z139 := Tryd.sizeOf120
  v139 := Tryd.zeroValue120
  g3 := by kernel_rfl
  g4 := by kernel_rfl }
end Go.Proofs
end
section
/- What the program's library functions are, against the shelf's own bodies: a table of numbers and one theorem for each, by the kernel's comparison. Written by the kit's lay-plain.mjs for this seat. -/
namespace Go.Proofs
open Go.Shelf
def Tryd.layJoin_ren : Go.Shelf.Ren := ⟨fun | 156 => 68 | 165 => 83 | 166 => 84 | 169 => 85 | 240 => 95 | 241 => 96 | 276 => 98 | 277 => 99 | n => n, fun | 31 => 60 | 9 => 9 | 3 => 3 | 4 => 4 | 0 => 0 | 20 => 20 | 72 => 107 | 76 => 111 | 70 => 105 | 37 => 98 | 75 => 110 | 127 => 128 | 164 => 129 | 5 => 5 | 80 => 87 | n => n, fun | n => n⟩
theorem Tryd.layJoin : Go.Proofs.Lays.n156 Tryd.prog Tryd.layJoin_ren := {
  mixed := by kernel_rfl
  f156 := Tryd.func68.trans (congrArg some (by kernel_rfl))
  f165 := Tryd.func83.trans (congrArg some (by kernel_rfl))
  f166 := Tryd.func84.trans (congrArg some (by kernel_rfl))
  f169 := Tryd.func85.trans (congrArg some (by kernel_rfl))
  f240 := Tryd.func95.trans (congrArg some (by kernel_rfl))
  f241 := Tryd.func96.trans (congrArg some (by kernel_rfl))
  f276 := Tryd.func98.trans (congrArg some (by kernel_rfl))
  f277 := Tryd.func99.trans (congrArg some (by kernel_rfl))
  t0 := Tryd.underlying0
  a0 := Tryd.isAgg0
  z0 := Tryd.sizeOf0
  v0 := Tryd.zeroValue0
  t3 := Tryd.underlying3
  a3 := Tryd.isAgg3
  z3 := Tryd.sizeOf3
  v3 := Tryd.zeroValue3
  t4 := Tryd.underlying4
  a4 := Tryd.isAgg4
  z4 := Tryd.sizeOf4
  v4 := Tryd.zeroValue4
  t9 := Tryd.underlying9
  a9 := Tryd.isAgg9
  z9 := Tryd.sizeOf9
  v9 := Tryd.zeroValue9
  t20 := Tryd.underlying20
  a20 := Tryd.isAgg20
  z20 := Tryd.sizeOf20
  v20 := Tryd.zeroValue20
  t31 := Tryd.underlying60
  a31 := Tryd.isAgg60
  z31 := Tryd.sizeOf60
  v31 := Tryd.zeroValue60
  t37 := Tryd.underlying98
  a37 := Tryd.isAgg98
  z37 := Tryd.sizeOf98
  v37 := Tryd.zeroValue98
  t70 := Tryd.underlying105
  a70 := Tryd.isAgg105
  z70 := Tryd.sizeOf105
  v70 := Tryd.zeroValue105
  t72 := Tryd.underlying107
  a72 := Tryd.isAgg107
  z72 := Tryd.sizeOf107
  v72 := Tryd.zeroValue107
  t75 := Tryd.underlying110
  a75 := Tryd.isAgg110
  z75 := Tryd.sizeOf110
  v75 := Tryd.zeroValue110
  t76 := Tryd.underlying111
  a76 := Tryd.isAgg111
  z76 := Tryd.sizeOf111
  v76 := Tryd.zeroValue111
  t127 := Tryd.underlying128
  a127 := Tryd.isAgg128
  z127 := Tryd.sizeOf128
  v127 := Tryd.zeroValue128
  t164 := Tryd.underlying129
  a164 := Tryd.isAgg129
  z164 := Tryd.sizeOf129
  v164 := Tryd.zeroValue129 }
end Go.Proofs
end
section
/- Go's library functions, as the evaluator asks for them: out of the shelf's contracts. -/
set_option linter.unusedVariables false
set_option linter.unusedSimpArgs false
namespace Go.Proofs.YtokphdplckcgfaaDoor.Ev
open Go Go.RowKit Go.Proofs.YtokphdplckcgfaaDoorH Go.Proofs.YtokphdplckcgfaaDoorW.PrintWords

section
variable {U : Nat → Type} {C : Codec U}

/-! ### strings -/
def trimF : List (AVal U) → Option (AVal U)
  | [.str s, .str t] => (Q.strings_TrimLeft.f s t).bind fun r => some (.str r)
  | _ => none
theorem trim_ok : CallOk (R := Rr U) Tryd.prog C 27 (asExt trimF) := by
  refine callOk_ext fun args v h g w cs ha hi hw => ?_
  unfold trimF at h
  split at h
  · rename_i s t
    obtain ⟨r, h1, h2⟩ := bind2 h
    obtain rfl := Option.some.inj h2
    obtain ⟨c, d, rfl, hc, hd⟩ := RelVs.two ha
    cases hc; cases hd
    unfold Q.strings_TrimLeft.f at h1
    by_cases hc : t.data.toList.all (fun b => decide (b.toNat < 128)) = true ∧ t.size < 4294967281
    · rw [if_pos hc] at h1
      obtain rfl := Option.some.inj h1
      refine (Any.strings_TrimLeft_laid Tryd.layTrimLeft (by kernel_rfl) s t w hc.2 fun j b hb => ?_).mono fun e w' ⟨h3, h4⟩ => ⟨_, h3, h4, .str _⟩
      have := List.all_eq_true.1 hc.1 b (List.mem_of_getElem? hb)
      simpa using this
    · rw [if_neg hc] at h1; cases h1
  · cases h

def indexByteF : List (AVal U) → Option (AVal U)
  | [.str s, .int .u8 x] => (Q.strings_IndexByte.f s x).bind fun r => some (.int .i64 r)
  | _ => none
theorem indexByte_ok : CallOk (R := Rr U) Tryd.prog C 66 (asExt indexByteF) := by
  refine callOk_ext fun args v h g w cs ha hi hw => ?_
  unfold indexByteF at h
  split at h
  · rename_i s x
    obtain ⟨r, h1, h2⟩ := bind2 h
    obtain rfl := Option.some.inj h2
    obtain ⟨c, d, rfl, hc, hd⟩ := RelVs.two ha
    cases hc; cases hd
    obtain rfl := Option.some.inj h1
    exact (Any.strings_IndexByte Tryd.layIndexByte s x w).mono fun e w' ⟨h3, h4⟩ => ⟨_, h3, h4 ▸ Below.refl _ _, .int _ _⟩
  · cases h

theorem join_extra : Builder.Extra Tryd.prog Tryd.layJoin_ren where
  sizeBuilder := by kernel_rfl
  liesBuilder := by kernel_rfl
  t5 := Tryd.underlying5
  a5 := Tryd.isAgg5
  z5 := Tryd.sizeOf5
  v5 := Tryd.zeroValue5
  infoByte := by kernel_rfl
  cellsByte := by kernel_rfl
  sizeByte := by kernel_rfl
  neB5 := by decide

theorem RelVs.strs {g : Gh} : ∀ {l : List ByteArray} {vs : List Value}, RelVs C g (cellsAll C .str l) vs → vs = l.map Value.string
  | [], vs, h => by cases h; rfl
  | s :: r, vs, h => by
    cases h with
    | cons hv hs => cases hv; rw [RelVs.strs hs]; rfl

def joinF : List (AVal U) → Option (AVal U)
  | [.sl .str l p, .str s] => (Q.strings_Join.f l s).bind fun r => some (.str r)
  | _ => none
theorem join_ok : CallOk (R := Rr U) Tryd.prog C 68 (asExt joinF) := by
  refine callOk_ext fun args v h g w cs ha hi hw => ?_
  unfold joinF at h
  split at h
  · rename_i l p s
    obtain ⟨r, h1, h2⟩ := bind2 h
    obtain rfl := Option.some.inj h2
    obtain ⟨c, d, rfl, hc, hd⟩ := RelVs.two ha
    cases hd
    unfold Q.strings_Join.f at h1
    by_cases hk : l.length ≤ 140737488355328 ∧ (Lib.join (l.map (·.data.toList)) s.data.toList).length ≤ 140737488355328
    · rw [if_pos hk] at h1
      obtain rfl := Option.some.inj h1
      cases hc with
      | sl0 => exact (Any.strings_Join_none Tryd.layJoin join_extra none 0 s w).mono fun e w' h3 => ⟨_, h3.1, h3.2 ▸ Below.refl _ _, .str _⟩
      | sl hs hm hl hp =>
        rename_i blk off cap vs
        obtain rfl := RelVs.strs hs
        cases l with
        | nil => exact (Any.strings_Join_none Tryd.layJoin join_extra (some ⟨blk, off, none⟩) cap s w).mono fun e w' h3 => ⟨_, h3.1, h3.2 ▸ Below.refl _ _, .str _⟩
        | cons x0 l0 =>
          have hcell : ∀ (j : Nat) (x : ByteArray), (x0 :: l0)[j]? = some x → w.cell? ⟨blk, off + j, none⟩ = some (.string x) := fun j x hx => hi _ _ _ (hm j (.string x) (by rw [List.getElem?_map, hx]; rfl))
          refine (Any.strings_Join Tryd.layJoin join_extra blk off cap (x0 :: l0) s w hcell ?_ hk.1 hl hk.2).mono fun e w' ⟨h3, h4⟩ => ⟨_, h3, h4, .str _⟩
          have h5 := hcell 0 x0 rfl
          have := World.block_lt_of_cell? w _ h5
          simpa using this
    · rw [if_neg hk] at h1; cases h1
  · cases h

/-! ### Go's decoder -/
set_option maxHeartbeats 2000000 in
set_option maxRecDepth 100000 in
theorem rune_slow_zero (A0 : Option Addr) (c0 : Nat) (w : World) :
    Calls Tryd.prog 97 #[.slice A0 0 c0] w fun e w' => e = .returned (.tuple #[.int .i32 65533, .int .i64 0]) ∧ w' = w := by
  go_enter Tryd.func97, Tryd.ntmps97
  go_wp2
  go_ret2
  exact ⟨rfl, rfl⟩
set_option maxHeartbeats 2000000 in
set_option maxRecDepth 100000 in
theorem rune_zero (A0 : Option Addr) (c0 : Nat) (w : World) :
    Calls Tryd.prog 93 #[.slice A0 0 c0] w fun e w' => e = .returned (.tuple #[.int .i32 65533, .int .i64 0]) ∧ w' = w := by
  go_enter Tryd.func93, Tryd.ntmps93
  go_wp2
  go_loop [8] (fun i => i = .int .i64 0) (fun _ => 0)
  case atStart => rfl
  case round =>
    subst hrel
    go_wp2_with (go_at_call 97; refine (rune_slow_zero _ _ _).mono ?_; rintro e w' ⟨rfl, rfl⟩)
    go_ret2
    exact ⟨rfl, rfl⟩

theorem RelVs.nums {g : Gh} {k : IntKind} : ∀ {l : List Int} {vs : List Value}, RelVs C g (cellsAll C (.int k) l) vs → vs = l.map (Value.int k)
  | [], vs, h => by cases h; rfl
  | s :: r, vs, h => by
    cases h with
    | cons hv hs => cases hv; rw [RelVs.nums hs]; rfl

def runeF : List (AVal U) → Option (AVal U)
  | [.sl (.int .u8) l p] => (Q.utf8_DecodeRune.f l).bind fun r => some (.tup [.int .i32 r.1, .int .i64 r.2])
  | _ => none
theorem rune_ok : CallOk (R := Rr U) Tryd.prog C 93 (asExt runeF) := by
  refine callOk_ext fun args v h g w cs ha hi hw => ?_
  unfold runeF at h
  split at h
  · rename_i l p
    obtain ⟨r, h1, h2⟩ := bind2 h
    obtain rfl := Option.some.inj h2
    obtain ⟨c, rfl, hc⟩ := RelVs.one ha
    obtain ⟨w0, hw1, hw2⟩ := hw
    have hL : Laid w := Laid_below hw2 hw1
    unfold Q.utf8_DecodeRune.f at h1
    by_cases hb : (l.all fun x => decide (0 ≤ x) && decide (x < 256)) = true
    · rw [if_pos hb] at h1
      obtain rfl := Option.some.inj h1
      have fin : ∀ {a b : Int} {g : Gh}, RelV C g (.tup [.int .i32 a, .int .i64 b]) (.tuple #[.int .i32 a, .int .i64 b]) := fun {a b g} => .tup (.cons (.int _ _) (.cons (.int _ _) .nil))
      cases hc with
      | sl0 => exact (rune_zero none 0 w).mono fun e w' ⟨h3, h4⟩ => ⟨_, h3, h4 ▸ Below.refl _ _, fin⟩
      | sl hs hm hl hp =>
        rename_i blk off cap vs
        obtain rfl := RelVs.nums hs
        have hsz : (strOfNums l).size = l.length := strOfNums_size l
        cases l with
        | nil => exact (rune_zero (some ⟨blk, off, none⟩) cap w).mono fun e w' ⟨h3, h4⟩ => ⟨_, h3, h4 ▸ Below.refl _ _, fin⟩
        | cons x0 l0 =>
          have hp : ∀ j, j < (strOfNums (x0 :: l0)).size → w.cell? ⟨blk, off + j, none⟩ = some (.int .u8 ((strOfNums (x0 :: l0)).get! j).toNat) := by
            intro j hj
            rw [hsz] at hj
            have hx : (x0 :: l0)[j]? = some (x0 :: l0)[j] := List.getElem?_eq_getElem hj
            rw [hi _ _ _ (hm j (.int .u8 (x0 :: l0)[j]) (by rw [List.getElem?_map, hx]; rfl))]
            have hq : 0 ≤ (x0 :: l0)[j] ∧ (x0 :: l0)[j] < 256 := by
              have := List.all_eq_true.1 hb _ (List.getElem_mem hj)
              simpa using this
            have key : ∀ z : Int, 0 ≤ z ∧ z < 256 → some (Value.int .u8 z) = some (Value.int .u8 ((UInt8.ofNat z.toNat).toNat : Int)) := by
              intro z hz
              simp
              omega
            rw [strOfNums_get! (x0 :: l0) j hj]
            exact key _ hq
          have C := Any7.utf8_DecodeRune Tryd.layDecodeRune (strOfNums (x0 :: l0)) blk off cap w hL hp
          rw [hsz] at C
          exact C.mono fun e w' ⟨h3, h4⟩ => ⟨_, h3, h4, fin⟩
    · rw [if_neg hb] at h1; cases h1
  · cases h

/-! ### their words -/
section
variable {R : Type}
def trimS : List (AVal U) → St U → (Res U → St U → Option R) → Option R := fun args st K => match args with
  | [.str s, .str t] => (Q.strings_TrimLeft.f s t).bind fun r => K (.ret (.str r)) st
  | _ => none
def indexByteS : List (AVal U) → St U → (Res U → St U → Option R) → Option R := fun args st K => match args with
  | [.str s, .int .u8 x] => (Q.strings_IndexByte.f s x).bind fun r => K (.ret (.int .i64 r)) st
  | _ => none
def joinS : List (AVal U) → St U → (Res U → St U → Option R) → Option R := fun args st K => match args with
  | [.sl .str l p, .str s] => (Q.strings_Join.f l s).bind fun r => K (.ret (.str r)) st
  | _ => none
def runeS : List (AVal U) → St U → (Res U → St U → Option R) → Option R := fun args st K => match args with
  | [.sl (.int .u8) l p] => (Q.utf8_DecodeRune.f l).bind fun r => K (.ret (.tup [.int .i32 r.1, .int .i64 r.2])) st
  | _ => none
end
theorem callOk_by {f : FuncId} {F : List (AVal U) → Option (AVal U)} {S : List (AVal U) → St U → (Res U → St U → Option (Rr U)) → Option (Rr U)} (h : CallOk (R := Rr U) Tryd.prog C f (asExt F)) (e : ∀ args st K r, S args st K = some r → asExt (R := Rr U) F args st K = some r) : CallOkL Tryd.prog C f S :=
  fun args cs n K r h1 => h args (lcSt cs n) K r (e _ _ _ _ h1)
theorem trimS_ok : CallOkL (R := Rr U) Tryd.prog C 27 trimS := callOk_by trim_ok fun args st K r h => by
  unfold trimS at h
  unfold asExt trimF
  split at h
  · obtain ⟨v, h1, h2⟩ := bind2 h
    simp [h1, h2]
  · cases h
theorem indexByteS_ok : CallOkL (R := Rr U) Tryd.prog C 66 indexByteS := callOk_by indexByte_ok fun args st K r h => by
  unfold indexByteS at h
  unfold asExt indexByteF
  split at h
  · obtain ⟨v, h1, h2⟩ := bind2 h
    simp [h1, h2]
  · cases h
theorem joinS_ok : CallOkL (R := Rr U) Tryd.prog C 68 joinS := callOk_by join_ok fun args st K r h => by
  unfold joinS at h
  unfold asExt joinF
  split at h
  · obtain ⟨v, h1, h2⟩ := bind2 h
    simp [h1, h2]
  · cases h
theorem runeS_ok : CallOkL (R := Rr U) Tryd.prog C 93 runeS := callOk_by rune_ok fun args st K r h => by
  unfold runeS at h
  unfold asExt runeF
  split at h
  · obtain ⟨v, h1, h2⟩ := bind2 h
    simp [h1, h2]
  · cases h
end
end Go.Proofs.YtokphdplckcgfaaDoor.Ev
end
