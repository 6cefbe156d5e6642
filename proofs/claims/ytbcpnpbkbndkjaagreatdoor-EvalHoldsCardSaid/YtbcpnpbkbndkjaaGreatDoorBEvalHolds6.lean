/- Several texts in one, in their order. -/
import Derived.Test.YtbcpnpbkbndkjaaGreatDoorBEvalHolds4
import Derived.Test.YtbcpnpbkbndkjaaGreatDoorBEvalHolds5
import Derived.Lib.LaidU8T
import Derived.Lib.Join
import Derived.Lib.SlTrimSet
import Derived.RowKit
import Derived.Shelf.Lays7
import Derived.Shelf.Spec.DecodeRune
import Derived.Shelf.Spec.NilArms
import Derived.Shelf.Small.Strs
import Derived.Shelf.Strings.SlTrimAscii
import Derived.Shelf.Bits.Mul64
import Derived.Shelf.Strings.SplitShaped
import Derived.Shelf.Strings.Shaped
import Derived.Test.YtbcpnpbkbndkjaaGreatDoorProg
import Derived.Shelf.Strings.OnBuilder
import Derived.Tactics
import Derived.WalkKit
import Derived.KernelRfl
import Derived.Laws.NewBlocks
section
set_option linter.unusedVariables false
namespace Go.Proofs.YtbcpnpbkbndkjaaGreatDoor.Q
open Go.RowKit Go.Proofs.YtbcpnpbkbndkjaaGreatDoorH Go.Proofs.YtbcpnpbkbndkjaaGreatDoorW.PrintWords Go.Proofs.YtbcpnpbkbndkjaaGreatDoorW.PrintLast Go.Proofs.YtbcpnpbkbndkjaaGreatDoorW.PrintMore
structure S182 where
 f0 : Int
 f1 : Int
def z182 : S182 := ⟨(0 : Int),(0 : Int)⟩
def rd_T182 (xs : List S182) (i : Int) : S182 := xs.getD i.toNat z182
structure S69 where
 f0 : Int
 f1 : ByteArray
 f2 : Int
def z69 : S69 := ⟨(0 : Int),(⟨#[]⟩ : ByteArray),(0 : Int)⟩
structure S40 where
 f0 : Int
 f1 : Int
 f2 : Bool
 f3 : ByteArray
structure S43 where
 f0 : Int
 f1 : S40
 f2 : ByteArray
 f3 : Int
 f4 : (List S43)
structure S38 where
 f0 : ByteArray
 f1 : Int
 f2 : Int
 f3 : (List S38)
 f4 : (List ByteArray)
structure S50 where
 f0 : ByteArray
 f1 : ByteArray
 f2 : Int
 f3 : Int
 f4 : (List Int)
 f5 : Int
structure S52 where
 f0 : ByteArray
 f1 : S40
 f2 : (List ByteArray)
def strings_TrimLeft.f (a0 : ByteArray) (a1 : ByteArray) : Option ByteArray := if a1.data.toList.all (fun b => decide (b.toNat < 128)) = true ∧ a1.size < 4294967281 then some ⟨(Lib.trimLeftS a0.data.toList a1.data.toList).toArray⟩ else none
def strings_IndexByte.f (a0 : ByteArray) (a1 : Int) : Option Int := some (Lib.indexByte a0.data.toList a1.toNat.toUInt8)
def lexer_is.f (a0 : Int) (a1 : ByteArray) : Option (Bool) := (strings_IndexByte.f a1 a0).bind fun t101 => (some (decide (t101 ≥ 0)))
def lexer_run.l0 : Nat → ByteArray → ByteArray → Int → Option (ByteArray)
 | 0,_,_,_ => none
 | k + 1,x0,x1,x5 => if x5 < (x0.size : Int) then (if 0 ≤ x5 then ((lexer_is.f (bt x0 x5) x1).bind fun t102 => (if t102 = true then (lexer_run.l0 k x0 x1 (wrap64 (x5 + 1))) else (if x5 ≤ (x0.size : Int) then (some (x0.extract 0 (x5 : Int).toNat)) else (none)))) else (none)) else (if 0 ≤ x5 then (if x5 ≤ (x0.size : Int) then (some (x0.extract 0 (x5 : Int).toNat)) else (none)) else (none))
def lexer_run.f (k : Nat) (a0 : ByteArray) (a1 : ByteArray) : Option (ByteArray) := lexer_run.l0 k a0 a1 0
theorem lexer_run.mono_l : ∀ k,(∀ y0 y1 y2,LeO (lexer_run.l0 k y0 y1 y2) (lexer_run.l0 (k + 1) y0 y1 y2))
 | 0 => fun _ _ _ r h => by simp [lexer_run.l0] at h
 | k + 1 => by
  have ih0 := lexer_run.mono_l k
  · intro y0 y1 y2
    unfold lexer_run.l0
    repeat' first
    | (with_reducible exact ih0 _ _ _)
    | (with_reducible exact LeO.refl _)
    | (with_reducible exact LeO.none _)
    | (with_reducible refine LeO.ite ?_ ?_)
    | (with_reducible refine LeO.bind ?_ (fun _ => ?_))
    | exact ih0 _ _ _
    | exact LeO.none _
    | refine LeO.ite ?_ ?_
    | refine LeO.bind ?_ (fun _ => ?_)
theorem lexer_run.mono : ∀ a0 a1 k,LeO (lexer_run.f k a0 a1) (lexer_run.f (k + 1) a0 a1) := by
 intro a0 a1 k
 have ih0 := lexer_run.mono_l k
 unfold lexer_run.f
 repeat' first
  | (with_reducible exact ih0 _ _ _)
  | (with_reducible exact LeO.refl _)
  | (with_reducible exact LeO.none _)
  | (with_reducible refine LeO.ite ?_ ?_)
  | (with_reducible refine LeO.bind ?_ (fun _ => ?_))
  | exact ih0 _ _ _
  | exact LeO.none _
  | refine LeO.ite ?_ ?_
  | refine LeO.bind ?_ (fun _ => ?_)
mutual
def chars_Number.j0 : Nat → ByteArray → Bool → Option (Int × Int)
 | 0,_,_ => none
 | k + 1,x0,x4 => if x4 = true then (if 1 ≤ (x0.size : Int) then (chars_Number.j1 k x0 x4 (x0.extract 1 x0.size)) else (none)) else (chars_Number.j1 k x0 x4 x0)
def chars_Number.j1 : Nat → ByteArray → Bool → ByteArray → Option (Int × Int)
 | 0,_,_,_ => none
 | k + 1,x0,x4,x5 => if x5.toList = ([] : List UInt8) then (chars_Number.j2 k x4 x5 true) else (if 0 < (x5.size : Int) then (if (bt x5 0) = 48 then (chars_Number.j2 k x4 x5 (decide ((x0.size : Int) > 1))) else (chars_Number.j2 k x4 x5 false)) else (none))
def chars_Number.j2 : Nat → Bool → ByteArray → Bool → Option (Int × Int)
 | 0,_,_,_ => none
 | k + 1,x4,x5,x34 => if x34 = true then (some (0,5)) else (if x5.size < 140737488355328 then (chars_Number.l0 k x4 0 (decide ((x5.size : Int) > 19)) x5 (x5.size : Int) 0) else none)
def chars_Number.l0 : Nat → Bool → Int → Bool → ByteArray → Int → Int → Option (Int × Int)
 | 0,_,_,_,_,_,_ => none
 | k + 1,x4,x6,x7,x39,x40,x41 => if x41 < x40 then (if 0 ≤ x41 then (if x41 < (x39.size : Int) then (if (bt x39 x41) < 48 then (chars_Number.j4 k x4 x6 x7 (bt x39 x41) x39 x40 x41 true) else (chars_Number.j4 k x4 x6 x7 (bt x39 x41) x39 x40 x41 (decide ((bt x39 x41) > 57)))) else (none)) else (none)) else (if x4 = true then (chars_Number.j5 k x4 x6 x7 9223372036854775808) else (chars_Number.j5 k x4 x6 x7 (9223372036854775808 - 1)))
def chars_Number.j4 : Nat → Bool → Int → Bool → Int → ByteArray → Int → Int → Bool → Option (Int × Int)
 | 0,_,_,_,_,_,_,_,_ => none
 | k + 1,x4,x6,x7,x9,x39,x40,x41,x50 => if x50 = true then (some (0,5)) else (if x7 = true then (chars_Number.l0 k x4 x6 x7 x39 x40 (wrap64 (x41 + 1))) else (chars_Number.l0 k x4 (IntKind.u64.wrap ((IntKind.u64.wrap (10 * x6)) + ((x9 - 48) % 256))) x7 x39 x40 (wrap64 (x41 + 1))))
def chars_Number.j5 : Nat → Bool → Int → Bool → Int → Option (Int × Int)
 | 0,_,_,_,_ => none
 | k + 1,x4,x6,x7,x10 => if x7 = true then (chars_Number.j6 k x4 x6 true) else (chars_Number.j6 k x4 x6 (decide (x6 > x10)))
def chars_Number.j6 : Nat → Bool → Int → Bool → Option (Int × Int)
 | 0,_,_,_ => none
 | k + 1,x4,x6,x64 => if x64 = true then (some (0,4)) else (if x4 = true then (some (wrap64 (-(wrap64 (x6))),0)) else (some (wrap64 (x6),0)))
end
def chars_Number.f (k : Nat) (a0 : ByteArray) : Option (Int × Int) := if (a0.size : Int) > 0 then (if 0 < (a0.size : Int) then (chars_Number.j0 k a0 ((bt a0 0) == 45)) else (none)) else (chars_Number.j0 k a0 false)
theorem chars_Number.mono_l : ∀ k,(∀ y0 y1,LeO (chars_Number.j0 k y0 y1) (chars_Number.j0 (k + 1) y0 y1)) ∧ (∀ y0 y1 y2,LeO (chars_Number.j1 k y0 y1 y2) (chars_Number.j1 (k + 1) y0 y1 y2)) ∧ (∀ y0 y1 y2,LeO (chars_Number.j2 k y0 y1 y2) (chars_Number.j2 (k + 1) y0 y1 y2)) ∧ (∀ y0 y1 y2 y3 y4 y5,LeO (chars_Number.l0 k y0 y1 y2 y3 y4 y5) (chars_Number.l0 (k + 1) y0 y1 y2 y3 y4 y5)) ∧ (∀ y0 y1 y2 y3 y4 y5 y6 y7,LeO (chars_Number.j4 k y0 y1 y2 y3 y4 y5 y6 y7) (chars_Number.j4 (k + 1) y0 y1 y2 y3 y4 y5 y6 y7)) ∧ (∀ y0 y1 y2 y3,LeO (chars_Number.j5 k y0 y1 y2 y3) (chars_Number.j5 (k + 1) y0 y1 y2 y3)) ∧ (∀ y0 y1 y2,LeO (chars_Number.j6 k y0 y1 y2) (chars_Number.j6 (k + 1) y0 y1 y2))
 | 0 => ⟨fun _ _ r h => by simp [chars_Number.j0] at h,fun _ _ _ r h => by simp [chars_Number.j1] at h,fun _ _ _ r h => by simp [chars_Number.j2] at h,fun _ _ _ _ _ _ r h => by simp [chars_Number.l0] at h,fun _ _ _ _ _ _ _ _ r h => by simp [chars_Number.j4] at h,fun _ _ _ _ r h => by simp [chars_Number.j5] at h,fun _ _ _ r h => by simp [chars_Number.j6] at h⟩
 | k + 1 => by
  obtain ⟨ih0,ih1,ih2,ih3,ih4,ih5,ih6⟩ := chars_Number.mono_l k
  refine ⟨?_,?_,?_,?_,?_,?_,?_⟩
  · intro y0 y1
    unfold chars_Number.j0
    repeat' first
    | (with_reducible exact ih0 _ _)
    | (with_reducible exact ih1 _ _ _)
    | (with_reducible exact ih2 _ _ _)
    | (with_reducible exact ih3 _ _ _ _ _ _)
    | (with_reducible exact ih4 _ _ _ _ _ _ _ _)
    | (with_reducible exact ih5 _ _ _ _)
    | (with_reducible exact ih6 _ _ _)
    | (with_reducible exact LeO.refl _)
    | (with_reducible exact LeO.none _)
    | (with_reducible refine LeO.ite ?_ ?_)
    | (with_reducible refine LeO.bind ?_ (fun _ => ?_))
    | exact ih0 _ _
    | exact ih1 _ _ _
    | exact ih2 _ _ _
    | exact ih3 _ _ _ _ _ _
    | exact ih4 _ _ _ _ _ _ _ _
    | exact ih5 _ _ _ _
    | exact ih6 _ _ _
    | exact LeO.none _
    | refine LeO.ite ?_ ?_
    | refine LeO.bind ?_ (fun _ => ?_)
  · intro y0 y1 y2
    unfold chars_Number.j1
    repeat' first
    | (with_reducible exact ih0 _ _)
    | (with_reducible exact ih1 _ _ _)
    | (with_reducible exact ih2 _ _ _)
    | (with_reducible exact ih3 _ _ _ _ _ _)
    | (with_reducible exact ih4 _ _ _ _ _ _ _ _)
    | (with_reducible exact ih5 _ _ _ _)
    | (with_reducible exact ih6 _ _ _)
    | (with_reducible exact LeO.refl _)
    | (with_reducible exact LeO.none _)
    | (with_reducible refine LeO.ite ?_ ?_)
    | (with_reducible refine LeO.bind ?_ (fun _ => ?_))
    | exact ih0 _ _
    | exact ih1 _ _ _
    | exact ih2 _ _ _
    | exact ih3 _ _ _ _ _ _
    | exact ih4 _ _ _ _ _ _ _ _
    | exact ih5 _ _ _ _
    | exact ih6 _ _ _
    | exact LeO.none _
    | refine LeO.ite ?_ ?_
    | refine LeO.bind ?_ (fun _ => ?_)
  · intro y0 y1 y2
    unfold chars_Number.j2
    repeat' first
    | (with_reducible exact ih0 _ _)
    | (with_reducible exact ih1 _ _ _)
    | (with_reducible exact ih2 _ _ _)
    | (with_reducible exact ih3 _ _ _ _ _ _)
    | (with_reducible exact ih4 _ _ _ _ _ _ _ _)
    | (with_reducible exact ih5 _ _ _ _)
    | (with_reducible exact ih6 _ _ _)
    | (with_reducible exact LeO.refl _)
    | (with_reducible exact LeO.none _)
    | (with_reducible refine LeO.ite ?_ ?_)
    | (with_reducible refine LeO.bind ?_ (fun _ => ?_))
    | exact ih0 _ _
    | exact ih1 _ _ _
    | exact ih2 _ _ _
    | exact ih3 _ _ _ _ _ _
    | exact ih4 _ _ _ _ _ _ _ _
    | exact ih5 _ _ _ _
    | exact ih6 _ _ _
    | exact LeO.none _
    | refine LeO.ite ?_ ?_
    | refine LeO.bind ?_ (fun _ => ?_)
  · intro y0 y1 y2 y3 y4 y5
    unfold chars_Number.l0
    repeat' first
    | (with_reducible exact ih0 _ _)
    | (with_reducible exact ih1 _ _ _)
    | (with_reducible exact ih2 _ _ _)
    | (with_reducible exact ih3 _ _ _ _ _ _)
    | (with_reducible exact ih4 _ _ _ _ _ _ _ _)
    | (with_reducible exact ih5 _ _ _ _)
    | (with_reducible exact ih6 _ _ _)
    | (with_reducible exact LeO.refl _)
    | (with_reducible exact LeO.none _)
    | (with_reducible refine LeO.ite ?_ ?_)
    | (with_reducible refine LeO.bind ?_ (fun _ => ?_))
    | exact ih0 _ _
    | exact ih1 _ _ _
    | exact ih2 _ _ _
    | exact ih3 _ _ _ _ _ _
    | exact ih4 _ _ _ _ _ _ _ _
    | exact ih5 _ _ _ _
    | exact ih6 _ _ _
    | exact LeO.none _
    | refine LeO.ite ?_ ?_
    | refine LeO.bind ?_ (fun _ => ?_)
  · intro y0 y1 y2 y3 y4 y5 y6 y7
    unfold chars_Number.j4
    repeat' first
    | (with_reducible exact ih0 _ _)
    | (with_reducible exact ih1 _ _ _)
    | (with_reducible exact ih2 _ _ _)
    | (with_reducible exact ih3 _ _ _ _ _ _)
    | (with_reducible exact ih4 _ _ _ _ _ _ _ _)
    | (with_reducible exact ih5 _ _ _ _)
    | (with_reducible exact ih6 _ _ _)
    | (with_reducible exact LeO.refl _)
    | (with_reducible exact LeO.none _)
    | (with_reducible refine LeO.ite ?_ ?_)
    | (with_reducible refine LeO.bind ?_ (fun _ => ?_))
    | exact ih0 _ _
    | exact ih1 _ _ _
    | exact ih2 _ _ _
    | exact ih3 _ _ _ _ _ _
    | exact ih4 _ _ _ _ _ _ _ _
    | exact ih5 _ _ _ _
    | exact ih6 _ _ _
    | exact LeO.none _
    | refine LeO.ite ?_ ?_
    | refine LeO.bind ?_ (fun _ => ?_)
  · intro y0 y1 y2 y3
    unfold chars_Number.j5
    repeat' first
    | (with_reducible exact ih0 _ _)
    | (with_reducible exact ih1 _ _ _)
    | (with_reducible exact ih2 _ _ _)
    | (with_reducible exact ih3 _ _ _ _ _ _)
    | (with_reducible exact ih4 _ _ _ _ _ _ _ _)
    | (with_reducible exact ih5 _ _ _ _)
    | (with_reducible exact ih6 _ _ _)
    | (with_reducible exact LeO.refl _)
    | (with_reducible exact LeO.none _)
    | (with_reducible refine LeO.ite ?_ ?_)
    | (with_reducible refine LeO.bind ?_ (fun _ => ?_))
    | exact ih0 _ _
    | exact ih1 _ _ _
    | exact ih2 _ _ _
    | exact ih3 _ _ _ _ _ _
    | exact ih4 _ _ _ _ _ _ _ _
    | exact ih5 _ _ _ _
    | exact ih6 _ _ _
    | exact LeO.none _
    | refine LeO.ite ?_ ?_
    | refine LeO.bind ?_ (fun _ => ?_)
  · intro y0 y1 y2
    unfold chars_Number.j6
    repeat' first
    | (with_reducible exact ih0 _ _)
    | (with_reducible exact ih1 _ _ _)
    | (with_reducible exact ih2 _ _ _)
    | (with_reducible exact ih3 _ _ _ _ _ _)
    | (with_reducible exact ih4 _ _ _ _ _ _ _ _)
    | (with_reducible exact ih5 _ _ _ _)
    | (with_reducible exact ih6 _ _ _)
    | (with_reducible exact LeO.refl _)
    | (with_reducible exact LeO.none _)
    | (with_reducible refine LeO.ite ?_ ?_)
    | (with_reducible refine LeO.bind ?_ (fun _ => ?_))
    | exact ih0 _ _
    | exact ih1 _ _ _
    | exact ih2 _ _ _
    | exact ih3 _ _ _ _ _ _
    | exact ih4 _ _ _ _ _ _ _ _
    | exact ih5 _ _ _ _
    | exact ih6 _ _ _
    | exact LeO.none _
    | refine LeO.ite ?_ ?_
    | refine LeO.bind ?_ (fun _ => ?_)
theorem chars_Number.mono : ∀ a0 k,LeO (chars_Number.f k a0) (chars_Number.f (k + 1) a0) := by
 intro a0 k
 obtain ⟨ih0,ih1,ih2,ih3,ih4,ih5,ih6⟩ := chars_Number.mono_l k
 unfold chars_Number.f
 repeat' first
  | (with_reducible exact ih0 _ _)
  | (with_reducible exact ih1 _ _ _)
  | (with_reducible exact ih2 _ _ _)
  | (with_reducible exact ih3 _ _ _ _ _ _)
  | (with_reducible exact ih4 _ _ _ _ _ _ _ _)
  | (with_reducible exact ih5 _ _ _ _)
  | (with_reducible exact ih6 _ _ _)
  | (with_reducible exact LeO.refl _)
  | (with_reducible exact LeO.none _)
  | (with_reducible refine LeO.ite ?_ ?_)
  | (with_reducible refine LeO.bind ?_ (fun _ => ?_))
  | exact ih0 _ _
  | exact ih1 _ _ _
  | exact ih2 _ _ _
  | exact ih3 _ _ _ _ _ _
  | exact ih4 _ _ _ _ _ _ _ _
  | exact ih5 _ _ _ _
  | exact ih6 _ _ _
  | exact LeO.none _
  | refine LeO.ite ?_ ?_
  | refine LeO.bind ?_ (fun _ => ?_)
def utf8_DecodeRune.f (l0 : List Int) : Option (Int × Int) := if (l0.all fun x => decide (0 ≤ x) && decide (x < 256)) = true then some (((Lib.decodeGo (strOfNums l0)).1 : Int),((Lib.decodeGo (strOfNums l0)).2 : Int)) else none
def chars_Decode.f (l0 : List Int) : Option (Int × Int) := (utf8_DecodeRune.f l0).bind fun bt103 => (if bt103.1 = 65533 then (if bt103.2 ≤ 1 then (some (0,0)) else (some (wrap64 (bt103.1),bt103.2))) else (some (wrap64 (bt103.1),bt103.2)))
def chars_in.l0 : Nat → Int → List (S182) → Int → Int → Option (Bool)
 | 0,_,_,_,_ => none
 | k + 1,x0,x7,x8,x9 => if x9 < x8 then (if 0 ≤ x9 then (if x9 < (x7.length : Int) then (if ((rd_T182 x7 x9).f0) ≤ x0 then (if x0 ≤ ((rd_T182 x7 x9).f1) then (some true) else (chars_in.l0 k x0 x7 x8 (wrap64 (x9 + 1)))) else (chars_in.l0 k x0 x7 x8 (wrap64 (x9 + 1)))) else (none)) else (none)) else (some false)
def chars_in.f (k : Nat) (a0 : Int) (l1 : List (S182)) : Option (Bool) := chars_in.l0 k a0 l1 (l1.length : Int) 0
theorem chars_in.mono_l : ∀ k,(∀ y0 y1 y2 y3,LeO (chars_in.l0 k y0 y1 y2 y3) (chars_in.l0 (k + 1) y0 y1 y2 y3))
 | 0 => fun _ _ _ _ r h => by simp [chars_in.l0] at h
 | k + 1 => by
  have ih0 := chars_in.mono_l k
  · intro y0 y1 y2 y3
    unfold chars_in.l0
    repeat' first
    | (with_reducible exact ih0 _ _ _ _)
    | (with_reducible exact LeO.refl _)
    | (with_reducible exact LeO.none _)
    | (with_reducible refine LeO.ite ?_ ?_)
    | (with_reducible refine LeO.bind ?_ (fun _ => ?_))
    | exact ih0 _ _ _ _
    | exact LeO.none _
    | refine LeO.ite ?_ ?_
    | refine LeO.bind ?_ (fun _ => ?_)
theorem chars_in.mono : ∀ a0 a1 k,LeO (chars_in.f k a0 a1) (chars_in.f (k + 1) a0 a1) := by
 intro a0 a1 k
 have ih0 := chars_in.mono_l k
 unfold chars_in.f
 repeat' first
  | (with_reducible exact ih0 _ _ _ _)
  | (with_reducible exact LeO.refl _)
  | (with_reducible exact LeO.none _)
  | (with_reducible refine LeO.ite ?_ ?_)
  | (with_reducible refine LeO.bind ?_ (fun _ => ?_))
  | exact ih0 _ _ _ _
  | exact LeO.none _
  | refine LeO.ite ?_ ?_
  | refine LeO.bind ?_ (fun _ => ?_)
def chars_ofXML.f (k : Nat) (a0 : Int) : Option (Bool) := (chars_in.f k a0 (([(⟨32,55295⟩ : S182),(⟨9,10⟩ : S182),(⟨13,13⟩ : S182),(⟨57344,65533⟩ : S182),(⟨65536,1114111⟩ : S182)] : List (S182)))).bind fun t110 => (some t110)
theorem chars_ofXML.mono : ∀ a0 k,LeO (chars_ofXML.f k a0) (chars_ofXML.f (k + 1) a0) := by
 intro a0 k
 unfold chars_ofXML.f
 repeat' first
  | (with_reducible exact chars_in.mono _ _ _)
  | (with_reducible exact LeO.refl _)
  | (with_reducible exact LeO.none _)
  | (with_reducible refine LeO.ite ?_ ?_)
  | (with_reducible refine LeO.bind ?_ (fun _ => ?_))
  | exact chars_in.mono _ _ _
  | exact LeO.none _
  | refine LeO.ite ?_ ?_
  | refine LeO.bind ?_ (fun _ => ?_)
def chars_Wrong.l0 : Nat → List Int → Int → Option (Int)
 | 0,_,_ => none
 | k + 1,x0,x3 => if x3 < (x0.length : Int) then (if 0 ≤ x3 then (if x3 ≤ (x0.length : Int) then ((chars_Decode.f (x0.drop (x3 : Int).toNat)).bind fun bt112 => (if bt112.2 = 0 then (some x3) else ((chars_ofXML.f k bt112.1).bind fun t114 => (if t114 = true then (chars_Wrong.l0 k x0 (wrap64 (x3 + bt112.2))) else (some x3))))) else (none)) else (none)) else (some (-1))
def chars_Wrong.f (k : Nat) (l0 : List Int) : Option (Int) := chars_Wrong.l0 k l0 0
theorem chars_Wrong.mono_l : ∀ k,(∀ y0 y1,LeO (chars_Wrong.l0 k y0 y1) (chars_Wrong.l0 (k + 1) y0 y1))
 | 0 => fun _ _ r h => by simp [chars_Wrong.l0] at h
 | k + 1 => by
  have ih0 := chars_Wrong.mono_l k
  · intro y0 y1
    unfold chars_Wrong.l0
    repeat' first
    | (with_reducible exact ih0 _ _)
    | (with_reducible exact chars_ofXML.mono _ _)
    | (with_reducible exact LeO.refl _)
    | (with_reducible exact LeO.none _)
    | (with_reducible refine LeO.ite ?_ ?_)
    | (with_reducible refine LeO.bind ?_ (fun _ => ?_))
    | exact ih0 _ _
    | exact chars_ofXML.mono _ _
    | exact LeO.none _
    | refine LeO.ite ?_ ?_
    | refine LeO.bind ?_ (fun _ => ?_)
theorem chars_Wrong.mono : ∀ a0 k,LeO (chars_Wrong.f k a0) (chars_Wrong.f (k + 1) a0) := by
 intro a0 k
 have ih0 := chars_Wrong.mono_l k
 unfold chars_Wrong.f
 repeat' first
  | (with_reducible exact ih0 _ _)
  | (with_reducible exact chars_ofXML.mono _ _)
  | (with_reducible exact LeO.refl _)
  | (with_reducible exact LeO.none _)
  | (with_reducible refine LeO.ite ?_ ?_)
  | (with_reducible refine LeO.bind ?_ (fun _ => ?_))
  | exact ih0 _ _
  | exact chars_ofXML.mono _ _
  | exact LeO.none _
  | refine LeO.ite ?_ ?_
  | refine LeO.bind ?_ (fun _ => ?_)
mutual
def lexer_quoted.l0 : Nat → ByteArray → List Int → Int → Option (ByteArray × Int)
 | 0,_,_,_ => none
 | k + 1,x0,x4,x5 => if x5 < (x0.size : Int) then (if 0 ≤ x5 then (if (bt x0 x5) = 34 then (if (x4.length : Int) > 256 then (lexer_quoted.j1 k x4 x5 true) else ((chars_Wrong.f k x4).bind fun t122 => (lexer_quoted.j1 k x4 x5 (decide (t122 ≥ 0))))) else (if (bt x0 x5) = 92 then (if (wrap64 (x5 + 1)) = (x0.size : Int) then (some ((⟨#[]⟩ : ByteArray),0)) else (if 0 ≤ (wrap64 (x5 + 1)) then (if (wrap64 (x5 + 1)) < (x0.size : Int) then ((lexer_is.f (bt x0 (wrap64 (x5 + 1))) (⟨#[34,92]⟩ : ByteArray)).bind fun t115 => (if t115 = true then (if x4.length < 140737488355328 then (lexer_quoted.l0 k x0 (x4 ++ [bt x0 (wrap64 (x5 + 1))]) (wrap64 ((wrap64 (x5 + 1)) + 1))) else (none)) else (some ((⟨#[]⟩ : ByteArray),0)))) else (none)) else (none))) else (if x4.length < 140737488355328 then (lexer_quoted.l0 k x0 (x4 ++ [bt x0 x5]) (wrap64 (x5 + 1))) else (none)))) else (none)) else (some ((⟨#[]⟩ : ByteArray),0))
def lexer_quoted.j1 : Nat → List Int → Int → Bool → Option (ByteArray × Int)
 | 0,_,_,_ => none
 | k + 1,x4,x5,x29 => if x29 = true then (some ((⟨#[]⟩ : ByteArray),0)) else (some (strOfNums x4,wrap64 (x5 + 1)))
end
def lexer_quoted.f (k : Nat) (a0 : ByteArray) : Option (ByteArray × Int) := lexer_quoted.l0 k a0 ([] : List Int) 1
theorem lexer_quoted.mono_l : ∀ k,(∀ y0 y1 y2,LeO (lexer_quoted.l0 k y0 y1 y2) (lexer_quoted.l0 (k + 1) y0 y1 y2)) ∧ (∀ y0 y1 y2,LeO (lexer_quoted.j1 k y0 y1 y2) (lexer_quoted.j1 (k + 1) y0 y1 y2))
 | 0 => ⟨fun _ _ _ r h => by simp [lexer_quoted.l0] at h,fun _ _ _ r h => by simp [lexer_quoted.j1] at h⟩
 | k + 1 => by
  obtain ⟨ih0,ih1⟩ := lexer_quoted.mono_l k
  refine ⟨?_,?_⟩
  · intro y0 y1 y2
    unfold lexer_quoted.l0
    repeat' first
    | (with_reducible exact ih0 _ _ _)
    | (with_reducible exact ih1 _ _ _)
    | (with_reducible exact chars_Wrong.mono _ _)
    | (with_reducible exact LeO.refl _)
    | (with_reducible exact LeO.none _)
    | (with_reducible refine LeO.ite ?_ ?_)
    | (with_reducible refine LeO.bind ?_ (fun _ => ?_))
    | exact ih0 _ _ _
    | exact ih1 _ _ _
    | exact chars_Wrong.mono _ _
    | exact LeO.none _
    | refine LeO.ite ?_ ?_
    | refine LeO.bind ?_ (fun _ => ?_)
  · intro y0 y1 y2
    unfold lexer_quoted.j1
    repeat' first
    | (with_reducible exact ih0 _ _ _)
    | (with_reducible exact ih1 _ _ _)
    | (with_reducible exact chars_Wrong.mono _ _)
    | (with_reducible exact LeO.refl _)
    | (with_reducible exact LeO.none _)
    | (with_reducible refine LeO.ite ?_ ?_)
    | (with_reducible refine LeO.bind ?_ (fun _ => ?_))
    | exact ih0 _ _ _
    | exact ih1 _ _ _
    | exact chars_Wrong.mono _ _
    | exact LeO.none _
    | refine LeO.ite ?_ ?_
    | refine LeO.bind ?_ (fun _ => ?_)
theorem lexer_quoted.mono : ∀ a0 k,LeO (lexer_quoted.f k a0) (lexer_quoted.f (k + 1) a0) := by
 intro a0 k
 obtain ⟨ih0,ih1⟩ := lexer_quoted.mono_l k
 unfold lexer_quoted.f
 repeat' first
  | (with_reducible exact ih0 _ _ _)
  | (with_reducible exact ih1 _ _ _)
  | (with_reducible exact chars_Wrong.mono _ _)
  | (with_reducible exact LeO.refl _)
  | (with_reducible exact LeO.none _)
  | (with_reducible refine LeO.ite ?_ ?_)
  | (with_reducible refine LeO.bind ?_ (fun _ => ?_))
  | exact ih0 _ _ _
  | exact ih1 _ _ _
  | exact chars_Wrong.mono _ _
  | exact LeO.none _
  | refine LeO.ite ?_ ?_
  | refine LeO.bind ?_ (fun _ => ?_)
def lexer_sign.l0 : Nat → ByteArray → Int → Option (ByteArray)
 | 0,_,_ => none
 | k + 1,x0,x3 => if x3 > 0 then (if 0 ≤ x3 then (if x3 ≤ (x0.size : Int) then (if (x0.extract 0 (x3 : Int).toNat).toList = ([60,61] : List UInt8) then (some (x0.extract 0 (x3 : Int).toNat)) else (if (x0.extract 0 (x3 : Int).toNat).toList = ([62,61] : List UInt8) then (some (x0.extract 0 (x3 : Int).toNat)) else (if (x0.extract 0 (x3 : Int).toNat).toList = ([33,61] : List UInt8) then (some (x0.extract 0 (x3 : Int).toNat)) else (if (x0.extract 0 (x3 : Int).toNat).toList = ([40] : List UInt8) then (some (x0.extract 0 (x3 : Int).toNat)) else (if (x0.extract 0 (x3 : Int).toNat).toList = ([41] : List UInt8) then (some (x0.extract 0 (x3 : Int).toNat)) else (if (x0.extract 0 (x3 : Int).toNat).toList = ([46] : List UInt8) then (some (x0.extract 0 (x3 : Int).toNat)) else (if (x0.extract 0 (x3 : Int).toNat).toList = ([44] : List UInt8) then (some (x0.extract 0 (x3 : Int).toNat)) else (if (x0.extract 0 (x3 : Int).toNat).toList = ([43] : List UInt8) then (some (x0.extract 0 (x3 : Int).toNat)) else (if (x0.extract 0 (x3 : Int).toNat).toList = ([45] : List UInt8) then (some (x0.extract 0 (x3 : Int).toNat)) else (if (x0.extract 0 (x3 : Int).toNat).toList = ([42] : List UInt8) then (some (x0.extract 0 (x3 : Int).toNat)) else (if (x0.extract 0 (x3 : Int).toNat).toList = ([47] : List UInt8) then (some (x0.extract 0 (x3 : Int).toNat)) else (if (x0.extract 0 (x3 : Int).toNat).toList = ([37] : List UInt8) then (some (x0.extract 0 (x3 : Int).toNat)) else (if (x0.extract 0 (x3 : Int).toNat).toList = ([60] : List UInt8) then (some (x0.extract 0 (x3 : Int).toNat)) else (if (x0.extract 0 (x3 : Int).toNat).toList = ([62] : List UInt8) then (some (x0.extract 0 (x3 : Int).toNat)) else (if (x0.extract 0 (x3 : Int).toNat).toList = ([61] : List UInt8) then (some (x0.extract 0 (x3 : Int).toNat)) else (lexer_sign.l0 k x0 (wrap64 (x3 - 1)))))))))))))))))) else (none)) else (none)) else (some (⟨#[]⟩ : ByteArray))
def lexer_sign.f (k : Nat) (a0 : ByteArray) : Option (ByteArray) := lexer_sign.l0 k a0 (mn 2 (a0.size : Int))
theorem lexer_sign.mono_l : ∀ k,(∀ y0 y1,LeO (lexer_sign.l0 k y0 y1) (lexer_sign.l0 (k + 1) y0 y1))
 | 0 => fun _ _ r h => by simp [lexer_sign.l0] at h
 | k + 1 => by
  have ih0 := lexer_sign.mono_l k
  · intro y0 y1
    unfold lexer_sign.l0
    repeat' first
    | (with_reducible exact ih0 _ _)
    | (with_reducible exact LeO.refl _)
    | (with_reducible exact LeO.none _)
    | (with_reducible refine LeO.ite ?_ ?_)
    | (with_reducible refine LeO.bind ?_ (fun _ => ?_))
    | exact ih0 _ _
    | exact LeO.none _
    | refine LeO.ite ?_ ?_
    | refine LeO.bind ?_ (fun _ => ?_)
theorem lexer_sign.mono : ∀ a0 k,LeO (lexer_sign.f k a0) (lexer_sign.f (k + 1) a0) := by
 intro a0 k
 have ih0 := lexer_sign.mono_l k
 unfold lexer_sign.f
 repeat' first
  | (with_reducible exact ih0 _ _)
  | (with_reducible exact LeO.refl _)
  | (with_reducible exact LeO.none _)
  | (with_reducible refine LeO.ite ?_ ?_)
  | (with_reducible refine LeO.bind ?_ (fun _ => ?_))
  | exact ih0 _ _
  | exact LeO.none _
  | refine LeO.ite ?_ ?_
  | refine LeO.bind ?_ (fun _ => ?_)
def lexer_word.f (k : Nat) (a0 : ByteArray) : Option (Int × ByteArray × Int × Int) := if 0 < (a0.size : Int) then ((lexer_is.f (bt a0 0) (⟨#[65,66,67,68,69,70,71,72,73,74,75,76,77,78,79,80,81,82,83,84,85,86,87,88,89,90,97,98,99,100,101,102,103,104,105,106,107,108,109,110,111,112,113,114,115,116,117,118,119,120,121,122,95]⟩ : ByteArray)).bind fun t124 => (if t124 = true then ((lexer_run.f k a0 (⟨#[65,66,67,68,69,70,71,72,73,74,75,76,77,78,79,80,81,82,83,84,85,86,87,88,89,90,97,98,99,100,101,102,103,104,105,106,107,108,109,110,111,112,113,114,115,116,117,118,119,120,121,122,95,48,49,50,51,52,53,54,55,56,57]⟩ : ByteArray)).bind fun t125 => (some (1,t125,0,(t125.size : Int)))) else ((lexer_is.f (bt a0 0) (⟨#[48,49,50,51,52,53,54,55,56,57]⟩ : ByteArray)).bind fun t126 => (if t126 = true then ((lexer_run.f k a0 (⟨#[48,49,50,51,52,53,54,55,56,57]⟩ : ByteArray)).bind fun t127 => ((chars_Number.f k t127).bind fun bt128 => (if bt128.2 = 0 then (some (2,(⟨#[]⟩ : ByteArray),bt128.1,(t127.size : Int))) else (some (0,(⟨#[]⟩ : ByteArray),0,0))))) else (if (bt a0 0) = 34 then ((lexer_quoted.f k a0).bind fun bt130 => (some (3,bt130.1,0,bt130.2))) else ((lexer_sign.f k a0).bind fun t132 => (some (4,t132,0,(t132.size : Int))))))))) else (none)
theorem lexer_word.mono : ∀ a0 k,LeO (lexer_word.f k a0) (lexer_word.f (k + 1) a0) := by
 intro a0 k
 unfold lexer_word.f
 repeat' first
  | (with_reducible exact chars_Number.mono _ _)
  | (with_reducible exact lexer_quoted.mono _ _)
  | (with_reducible exact lexer_run.mono _ _ _)
  | (with_reducible exact lexer_sign.mono _ _)
  | (with_reducible exact LeO.refl _)
  | (with_reducible exact LeO.none _)
  | (with_reducible refine LeO.ite ?_ ?_)
  | (with_reducible refine LeO.bind ?_ (fun _ => ?_))
  | exact chars_Number.mono _ _
  | exact lexer_quoted.mono _ _
  | exact lexer_run.mono _ _ _
  | exact lexer_sign.mono _ _
  | exact LeO.none _
  | refine LeO.ite ?_ ?_
  | refine LeO.bind ?_ (fun _ => ?_)
def lexer_Words.l0 : Nat → ByteArray → List (S69) → ByteArray → Option ((List (S69)) × Int × Int)
 | 0,_,_,_ => none
 | k + 1,x0,x5,x6 => if x6.toList = ([] : List UInt8) then (if x5.length < 4398046511104 then (some ((x5 ++ [(⟨0,(⟨#[]⟩ : ByteArray),0⟩ : S69)]),0,0)) else (none)) else ((lexer_word.f k x6).bind fun bt137 => (if bt137.2.2.2 = 0 then (some (([] : List (S69)),wrap64 ((x0.size : Int) - (x6.size : Int)),20)) else (if x5.length < 4398046511104 then (if 0 ≤ bt137.2.2.2 then (if bt137.2.2.2 ≤ (x6.size : Int) then ((strings_TrimLeft.f (x6.extract (bt137.2.2.2 : Int).toNat x6.size) (⟨#[32,9,10,13]⟩ : ByteArray)).bind fun t145 => (lexer_Words.l0 k x0 (x5 ++ [(⟨bt137.1,bt137.2.1,bt137.2.2.1⟩ : S69)]) t145)) else (none)) else (none)) else (none))))
def lexer_Words.f (k : Nat) (a0 : ByteArray) : Option ((List (S69)) × Int × Int) := if (a0.size : Int) > 400 then (some (([] : List (S69)),0,4)) else ((strings_TrimLeft.f a0 (⟨#[32,9,10,13]⟩ : ByteArray)).bind fun t133 => (lexer_Words.l0 k a0 ([] : List (S69)) t133))
theorem lexer_Words.mono_l : ∀ k,(∀ y0 y1 y2,LeO (lexer_Words.l0 k y0 y1 y2) (lexer_Words.l0 (k + 1) y0 y1 y2))
 | 0 => fun _ _ _ r h => by simp [lexer_Words.l0] at h
 | k + 1 => by
  have ih0 := lexer_Words.mono_l k
  · intro y0 y1 y2
    unfold lexer_Words.l0
    repeat' first
    | (with_reducible exact ih0 _ _ _)
    | (with_reducible exact lexer_word.mono _ _)
    | (with_reducible exact LeO.refl _)
    | (with_reducible exact LeO.none _)
    | (with_reducible refine LeO.ite ?_ ?_)
    | (with_reducible refine LeO.bind ?_ (fun _ => ?_))
    | exact ih0 _ _ _
    | exact lexer_word.mono _ _
    | exact LeO.none _
    | refine LeO.ite ?_ ?_
    | refine LeO.bind ?_ (fun _ => ?_)
theorem lexer_Words.mono : ∀ a0 k,LeO (lexer_Words.f k a0) (lexer_Words.f (k + 1) a0) := by
 intro a0 k
 have ih0 := lexer_Words.mono_l k
 unfold lexer_Words.f
 repeat' first
  | (with_reducible exact ih0 _ _ _)
  | (with_reducible exact lexer_word.mono _ _)
  | (with_reducible exact LeO.refl _)
  | (with_reducible exact LeO.none _)
  | (with_reducible refine LeO.ite ?_ ?_)
  | (with_reducible refine LeO.bind ?_ (fun _ => ?_))
  | exact ih0 _ _ _
  | exact lexer_word.mono _ _
  | exact LeO.none _
  | refine LeO.ite ?_ ?_
  | refine LeO.bind ?_ (fun _ => ?_)
def strings_Join.f (l0 : List ByteArray) (a1 : ByteArray) : Option ByteArray := if l0.length ≤ 140737488355328 ∧ (Lib.join (l0.map (·.data.toList)) a1.data.toList).length ≤ 140737488355328 then some ⟨(Lib.join (l0.map (·.data.toList)) a1.data.toList).toArray⟩ else none
def dossierref01_Space.f (a0 : Int) : Option (Bool) := if a0 = 9 then (some true) else (if a0 = 10 then (some true) else (if a0 = 13 then (some true) else (some (a0 == 32))))
def dossierref08_digit.f (a0 : Int) : Option (Bool) := if a0 ≥ 48 then (some (decide (a0 ≤ 57))) else (some false)
def dossierref01_Text.f : Nat → Int → Option (ByteArray)
 | 0,_ => none
 | k + 1,a0 => if a0 < 0 then (if a0 > (-10) then ((dossierref01_Text.f k (wrap64 (-a0))).bind fun t204 => (if 1 + t204.size ≤ 9223372036854775807 then (some ((⟨#[45]⟩ : ByteArray) ++ t204)) else (none))) else ((dossierref01_Text.f k (wrap64 (Int.tdiv a0 10))).bind fun t205 => ((dossierref01_Text.f k (wrap64 (-(Int.tmod a0 10)))).bind fun t206 => (if t205.size + t206.size ≤ 9223372036854775807 then (some (t205 ++ t206)) else (none))))) else (if a0 < 10 then (if 0 ≤ a0 then (if a0 ≤ (wrap64 (a0 + 1)) then (if (wrap64 (a0 + 1)) ≤ 10 then (some ((⟨#[48,49,50,51,52,53,54,55,56,57]⟩ : ByteArray).extract (a0 : Int).toNat ((wrap64 (a0 + 1)) : Int).toNat)) else (none)) else (none)) else (none)) else ((dossierref01_Text.f k (wrap64 (Int.tdiv a0 10))).bind fun t207 => ((dossierref01_Text.f k (Int.tmod a0 10)).bind fun t208 => (if t207.size + t208.size ≤ 9223372036854775807 then (some (t207 ++ t208)) else (none)))))
theorem dossierref01_Text.mono_l : ∀ k,(∀ y0,LeO (dossierref01_Text.f k y0) (dossierref01_Text.f (k + 1) y0))
 | 0 => fun _ r h => by simp [dossierref01_Text.f] at h
 | k + 1 => by
  have ih0 := dossierref01_Text.mono_l k
  · intro y0
    unfold dossierref01_Text.f
    repeat' first
    | (with_reducible exact ih0 _)
    | (with_reducible exact LeO.refl _)
    | (with_reducible exact LeO.none _)
    | (with_reducible refine LeO.ite ?_ ?_)
    | (with_reducible refine LeO.bind ?_ (fun _ => ?_))
    | exact ih0 _
    | exact LeO.none _
    | refine LeO.ite ?_ ?_
    | refine LeO.bind ?_ (fun _ => ?_)
theorem dossierref01_Text.mono : ∀ a0 k,LeO (dossierref01_Text.f k a0) (dossierref01_Text.f (k + 1) a0) := by
 intro a0 k
 have ih0 := dossierref01_Text.mono_l k
 exact ih0 a0
mutual
def dossierref01_Number.j0 : Nat → ByteArray → ByteArray → Bool → Option (Int × Int)
 | 0,_,_,_ => none
 | k + 1,x0,x4,x16 => if x16 = true then (if 1 ≤ (x0.size : Int) then (dossierref01_Number.j1 k x0 (x0.extract 1 x0.size)) else (none)) else (dossierref01_Number.j1 k x0 x4)
def dossierref01_Number.j1 : Nat → ByteArray → ByteArray → Option (Int × Int)
 | 0,_,_ => none
 | k + 1,x0,x4 => if (x4.size : Int) = 0 then (dossierref01_Number.j2 k x0 x4 true) else (if 0 < (x4.size : Int) then (if (bt x4 0) = 48 then (dossierref01_Number.j2 k x0 x4 (decide ((x0.size : Int) > 1))) else (dossierref01_Number.j2 k x0 x4 false)) else (none))
def dossierref01_Number.j2 : Nat → ByteArray → ByteArray → Bool → Option (Int × Int)
 | 0,_,_,_ => none
 | k + 1,x0,x4,x31 => if x31 = true then (some (0,5)) else (dossierref01_Number.l0 k x0 x4 (x4.size : Int) 0)
def dossierref01_Number.l0 : Nat → ByteArray → ByteArray → Int → Int → Option (Int × Int)
 | 0,_,_,_,_ => none
 | k + 1,x0,x4,x33,x34 => if x34 < x33 then (if 0 ≤ x34 then (if x34 < (x4.size : Int) then (if (bt x4 x34) < 48 then (some (0,5)) else (if (bt x4 x34) > 57 then (some (0,5)) else (dossierref01_Number.l0 k x0 x4 x33 (wrap64 (x34 + 1))))) else (none)) else (none)) else (if (x4.size : Int) > 19 then (some (0,4)) else (dossierref01_Number.l1 k x0 x4 0 (x4.size : Int) 0))
def dossierref01_Number.l1 : Nat → ByteArray → ByteArray → Int → Int → Int → Option (Int × Int)
 | 0,_,_,_,_,_ => none
 | k + 1,x0,x4,x6,x52,x53 => if x53 < x52 then (if 0 ≤ x53 then (if x53 < (x4.size : Int) then (dossierref01_Number.l1 k x0 x4 (wrap64 ((wrap64 (10 * x6)) - (((bt x4 x53) - 48) % 256))) x52 (wrap64 (x53 + 1))) else (none)) else (none)) else (if (x4.size : Int) = (x0.size : Int) then ((dossierref01_Text.f k (wrap64 (-x6))).bind fun t209 => (if t209.toList = x0.toList then (some (wrap64 (-x6),0)) else (some (0,4)))) else ((dossierref01_Text.f k x6).bind fun t210 => (if t210.toList = x0.toList then (some (x6,0)) else (some (0,4)))))
end
def dossierref01_Number.f (k : Nat) (a0 : ByteArray) : Option (Int × Int) := if (a0.size : Int) > 0 then (if 0 < (a0.size : Int) then (dossierref01_Number.j0 k a0 a0 ((bt a0 0) == 45)) else (none)) else (dossierref01_Number.j0 k a0 a0 false)
theorem dossierref01_Number.mono_l : ∀ k,(∀ y0 y1 y2,LeO (dossierref01_Number.j0 k y0 y1 y2) (dossierref01_Number.j0 (k + 1) y0 y1 y2)) ∧ (∀ y0 y1,LeO (dossierref01_Number.j1 k y0 y1) (dossierref01_Number.j1 (k + 1) y0 y1)) ∧ (∀ y0 y1 y2,LeO (dossierref01_Number.j2 k y0 y1 y2) (dossierref01_Number.j2 (k + 1) y0 y1 y2)) ∧ (∀ y0 y1 y2 y3,LeO (dossierref01_Number.l0 k y0 y1 y2 y3) (dossierref01_Number.l0 (k + 1) y0 y1 y2 y3)) ∧ (∀ y0 y1 y2 y3 y4,LeO (dossierref01_Number.l1 k y0 y1 y2 y3 y4) (dossierref01_Number.l1 (k + 1) y0 y1 y2 y3 y4))
 | 0 => ⟨fun _ _ _ r h => by simp [dossierref01_Number.j0] at h,fun _ _ r h => by simp [dossierref01_Number.j1] at h,fun _ _ _ r h => by simp [dossierref01_Number.j2] at h,fun _ _ _ _ r h => by simp [dossierref01_Number.l0] at h,fun _ _ _ _ _ r h => by simp [dossierref01_Number.l1] at h⟩
 | k + 1 => by
  obtain ⟨ih0,ih1,ih2,ih3,ih4⟩ := dossierref01_Number.mono_l k
  refine ⟨?_,?_,?_,?_,?_⟩
  · intro y0 y1 y2
    unfold dossierref01_Number.j0
    repeat' first
    | (with_reducible exact ih0 _ _ _)
    | (with_reducible exact ih1 _ _)
    | (with_reducible exact ih2 _ _ _)
    | (with_reducible exact ih3 _ _ _ _)
    | (with_reducible exact ih4 _ _ _ _ _)
    | (with_reducible exact dossierref01_Text.mono _ _)
    | (with_reducible exact LeO.refl _)
    | (with_reducible exact LeO.none _)
    | (with_reducible refine LeO.ite ?_ ?_)
    | (with_reducible refine LeO.bind ?_ (fun _ => ?_))
    | exact ih0 _ _ _
    | exact ih1 _ _
    | exact ih2 _ _ _
    | exact ih3 _ _ _ _
    | exact ih4 _ _ _ _ _
    | exact dossierref01_Text.mono _ _
    | exact LeO.none _
    | refine LeO.ite ?_ ?_
    | refine LeO.bind ?_ (fun _ => ?_)
  · intro y0 y1
    unfold dossierref01_Number.j1
    repeat' first
    | (with_reducible exact ih0 _ _ _)
    | (with_reducible exact ih1 _ _)
    | (with_reducible exact ih2 _ _ _)
    | (with_reducible exact ih3 _ _ _ _)
    | (with_reducible exact ih4 _ _ _ _ _)
    | (with_reducible exact dossierref01_Text.mono _ _)
    | (with_reducible exact LeO.refl _)
    | (with_reducible exact LeO.none _)
    | (with_reducible refine LeO.ite ?_ ?_)
    | (with_reducible refine LeO.bind ?_ (fun _ => ?_))
    | exact ih0 _ _ _
    | exact ih1 _ _
    | exact ih2 _ _ _
    | exact ih3 _ _ _ _
    | exact ih4 _ _ _ _ _
    | exact dossierref01_Text.mono _ _
    | exact LeO.none _
    | refine LeO.ite ?_ ?_
    | refine LeO.bind ?_ (fun _ => ?_)
  · intro y0 y1 y2
    unfold dossierref01_Number.j2
    repeat' first
    | (with_reducible exact ih0 _ _ _)
    | (with_reducible exact ih1 _ _)
    | (with_reducible exact ih2 _ _ _)
    | (with_reducible exact ih3 _ _ _ _)
    | (with_reducible exact ih4 _ _ _ _ _)
    | (with_reducible exact dossierref01_Text.mono _ _)
    | (with_reducible exact LeO.refl _)
    | (with_reducible exact LeO.none _)
    | (with_reducible refine LeO.ite ?_ ?_)
    | (with_reducible refine LeO.bind ?_ (fun _ => ?_))
    | exact ih0 _ _ _
    | exact ih1 _ _
    | exact ih2 _ _ _
    | exact ih3 _ _ _ _
    | exact ih4 _ _ _ _ _
    | exact dossierref01_Text.mono _ _
    | exact LeO.none _
    | refine LeO.ite ?_ ?_
    | refine LeO.bind ?_ (fun _ => ?_)
  · intro y0 y1 y2 y3
    unfold dossierref01_Number.l0
    repeat' first
    | (with_reducible exact ih0 _ _ _)
    | (with_reducible exact ih1 _ _)
    | (with_reducible exact ih2 _ _ _)
    | (with_reducible exact ih3 _ _ _ _)
    | (with_reducible exact ih4 _ _ _ _ _)
    | (with_reducible exact dossierref01_Text.mono _ _)
    | (with_reducible exact LeO.refl _)
    | (with_reducible exact LeO.none _)
    | (with_reducible refine LeO.ite ?_ ?_)
    | (with_reducible refine LeO.bind ?_ (fun _ => ?_))
    | exact ih0 _ _ _
    | exact ih1 _ _
    | exact ih2 _ _ _
    | exact ih3 _ _ _ _
    | exact ih4 _ _ _ _ _
    | exact dossierref01_Text.mono _ _
    | exact LeO.none _
    | refine LeO.ite ?_ ?_
    | refine LeO.bind ?_ (fun _ => ?_)
  · intro y0 y1 y2 y3 y4
    unfold dossierref01_Number.l1
    repeat' first
    | (with_reducible exact ih0 _ _ _)
    | (with_reducible exact ih1 _ _)
    | (with_reducible exact ih2 _ _ _)
    | (with_reducible exact ih3 _ _ _ _)
    | (with_reducible exact ih4 _ _ _ _ _)
    | (with_reducible exact dossierref01_Text.mono _ _)
    | (with_reducible exact LeO.refl _)
    | (with_reducible exact LeO.none _)
    | (with_reducible refine LeO.ite ?_ ?_)
    | (with_reducible refine LeO.bind ?_ (fun _ => ?_))
    | exact ih0 _ _ _
    | exact ih1 _ _
    | exact ih2 _ _ _
    | exact ih3 _ _ _ _
    | exact ih4 _ _ _ _ _
    | exact dossierref01_Text.mono _ _
    | exact LeO.none _
    | refine LeO.ite ?_ ?_
    | refine LeO.bind ?_ (fun _ => ?_)
theorem dossierref01_Number.mono : ∀ a0 k,LeO (dossierref01_Number.f k a0) (dossierref01_Number.f (k + 1) a0) := by
 intro a0 k
 obtain ⟨ih0,ih1,ih2,ih3,ih4⟩ := dossierref01_Number.mono_l k
 unfold dossierref01_Number.f
 repeat' first
  | (with_reducible exact ih0 _ _ _)
  | (with_reducible exact ih1 _ _)
  | (with_reducible exact ih2 _ _ _)
  | (with_reducible exact ih3 _ _ _ _)
  | (with_reducible exact ih4 _ _ _ _ _)
  | (with_reducible exact dossierref01_Text.mono _ _)
  | (with_reducible exact LeO.refl _)
  | (with_reducible exact LeO.none _)
  | (with_reducible refine LeO.ite ?_ ?_)
  | (with_reducible refine LeO.bind ?_ (fun _ => ?_))
  | exact ih0 _ _ _
  | exact ih1 _ _
  | exact ih2 _ _ _
  | exact ih3 _ _ _ _
  | exact ih4 _ _ _ _ _
  | exact dossierref01_Text.mono _ _
  | exact LeO.none _
  | refine LeO.ite ?_ ?_
  | refine LeO.bind ?_ (fun _ => ?_)
def dossierref08_integer.l0 : Nat → ByteArray → Int → Option (Int × ByteArray × Int × Int × Bool)
 | 0,_,_ => none
 | k + 1,x0,x5 => if x5 < (x0.size : Int) then (if 0 ≤ x5 then ((dossierref08_digit.f (bt x0 x5)).bind fun t212 => (if t212 = true then (dossierref08_integer.l0 k x0 (wrap64 (x5 + 1))) else (if x5 ≤ (x0.size : Int) then ((dossierref01_Number.f k (x0.extract 0 (x5 : Int).toNat)).bind fun bt213 => (some (2,(⟨#[]⟩ : ByteArray),bt213.1,x5,(bt213.2 == 0)))) else (none)))) else (none)) else (if 0 ≤ x5 then (if x5 ≤ (x0.size : Int) then ((dossierref01_Number.f k (x0.extract 0 (x5 : Int).toNat)).bind fun bt215 => (some (2,(⟨#[]⟩ : ByteArray),bt215.1,x5,(bt215.2 == 0)))) else (none)) else (none))
def dossierref08_integer.f (k : Nat) (a0 : ByteArray) : Option (Int × ByteArray × Int × Int × Bool) := dossierref08_integer.l0 k a0 0
theorem dossierref08_integer.mono_l : ∀ k,(∀ y0 y1,LeO (dossierref08_integer.l0 k y0 y1) (dossierref08_integer.l0 (k + 1) y0 y1))
 | 0 => fun _ _ r h => by simp [dossierref08_integer.l0] at h
 | k + 1 => by
  have ih0 := dossierref08_integer.mono_l k
  · intro y0 y1
    unfold dossierref08_integer.l0
    repeat' first
    | (with_reducible exact ih0 _ _)
    | (with_reducible exact dossierref01_Number.mono _ _)
    | (with_reducible exact LeO.refl _)
    | (with_reducible exact LeO.none _)
    | (with_reducible refine LeO.ite ?_ ?_)
    | (with_reducible refine LeO.bind ?_ (fun _ => ?_))
    | exact ih0 _ _
    | exact dossierref01_Number.mono _ _
    | exact LeO.none _
    | refine LeO.ite ?_ ?_
    | refine LeO.bind ?_ (fun _ => ?_)
theorem dossierref08_integer.mono : ∀ a0 k,LeO (dossierref08_integer.f k a0) (dossierref08_integer.f (k + 1) a0) := by
 intro a0 k
 have ih0 := dossierref08_integer.mono_l k
 unfold dossierref08_integer.f
 repeat' first
  | (with_reducible exact ih0 _ _)
  | (with_reducible exact dossierref01_Number.mono _ _)
  | (with_reducible exact LeO.refl _)
  | (with_reducible exact LeO.none _)
  | (with_reducible refine LeO.ite ?_ ?_)
  | (with_reducible refine LeO.bind ?_ (fun _ => ?_))
  | exact ih0 _ _
  | exact dossierref01_Number.mono _ _
  | exact LeO.none _
  | refine LeO.ite ?_ ?_
  | refine LeO.bind ?_ (fun _ => ?_)
def dossierref01_Encode.j0 : Nat → Int → Bool → Option (List Int)
 | 0,_,_ => none
 | k + 1,x0,x3 => if x3 = true then (some ([] : List Int)) else (if x0 < 128 then (some (([(x0) % 256] : List Int))) else (if x0 < 2048 then (some (([(wrap64 (192 + (x0 / 64))) % 256,(wrap64 (128 + (Int.tmod x0 64))) % 256] : List Int))) else (if x0 < 65536 then (some (([(wrap64 (224 + (x0 / 4096))) % 256,(wrap64 (128 + (Int.tmod (x0 / 64) 64))) % 256,(wrap64 (128 + (Int.tmod x0 64))) % 256] : List Int))) else (some (([(wrap64 (240 + (x0 / 262144))) % 256,(wrap64 (128 + (Int.tmod (x0 / 4096) 64))) % 256,(wrap64 (128 + (Int.tmod (x0 / 64) 64))) % 256,(wrap64 (128 + (Int.tmod x0 64))) % 256] : List Int))))))
def dossierref01_Encode.f (k : Nat) (a0 : Int) : Option (List Int) := if a0 < 0 then (dossierref01_Encode.j0 k a0 true) else (if a0 > 1114111 then (dossierref01_Encode.j0 k a0 true) else (if a0 ≥ 55296 then (dossierref01_Encode.j0 k a0 (decide (a0 ≤ 57343))) else (dossierref01_Encode.j0 k a0 false)))
theorem dossierref01_Encode.mono_l : ∀ k,(∀ y0 y1,LeO (dossierref01_Encode.j0 k y0 y1) (dossierref01_Encode.j0 (k + 1) y0 y1))
 | 0 => fun _ _ r h => by simp [dossierref01_Encode.j0] at h
 | k + 1 => by
  have ih0 := dossierref01_Encode.mono_l k
  · intro y0 y1
    unfold dossierref01_Encode.j0
    repeat' first
    | (with_reducible exact ih0 _ _)
    | (with_reducible exact LeO.refl _)
    | (with_reducible exact LeO.none _)
    | (with_reducible refine LeO.ite ?_ ?_)
    | (with_reducible refine LeO.bind ?_ (fun _ => ?_))
    | exact ih0 _ _
    | exact LeO.none _
    | refine LeO.ite ?_ ?_
    | refine LeO.bind ?_ (fun _ => ?_)
theorem dossierref01_Encode.mono : ∀ a0 k,LeO (dossierref01_Encode.f k a0) (dossierref01_Encode.f (k + 1) a0) := by
 intro a0 k
 have ih0 := dossierref01_Encode.mono_l k
 unfold dossierref01_Encode.f
 repeat' first
  | (with_reducible exact ih0 _ _)
  | (with_reducible exact LeO.refl _)
  | (with_reducible exact LeO.none _)
  | (with_reducible refine LeO.ite ?_ ?_)
  | (with_reducible refine LeO.bind ?_ (fun _ => ?_))
  | exact ih0 _ _
  | exact LeO.none _
  | refine LeO.ite ?_ ?_
  | refine LeO.bind ?_ (fun _ => ?_)
mutual
def dossierref01_Decode.j0 : Nat → List Int → Int → Int → Option (Int × Int)
 | 0,_,_,_ => none
 | k + 1,x0,x4,x5 => if x4 > (x0.length : Int) then (some (0,0)) else (if 1 ≤ x4 then (if x4 ≤ (x0.length : Int) then (dossierref01_Decode.l0 k x0 x4 x5 ((x0.take (x4 : Int).toNat).drop 1) (((x0.take (x4 : Int).toNat).drop 1).length : Int) 0) else (none)) else (none))
def dossierref01_Decode.l0 : Nat → List Int → Int → Int → List Int → Int → Int → Option (Int × Int)
 | 0,_,_,_,_,_,_ => none
 | k + 1,x0,x4,x5,x51,x52,x53 => if x53 < x52 then (if 0 ≤ x53 then (if x53 < (x51.length : Int) then (if (rd x51 x53) < 128 then (some (0,0)) else (if (rd x51 x53) > 191 then (some (0,0)) else (dossierref01_Decode.l0 k x0 x4 (wrap64 ((wrap64 ((wrap64 (x5 * 64)) + (wrap64 (rd x51 x53)))) - 128)) x51 x52 (wrap64 (x53 + 1))))) else (none)) else (none)) else ((dossierref01_Encode.f k x5).bind fun t238 => (if 0 ≤ x4 then (if x4 ≤ (x0.length : Int) then (if (strOfNums t238).toList = (strOfNums (x0.take (x4 : Int).toNat)).toList then (some (x5,x4)) else (some (0,0))) else (none)) else (none)))
end
def dossierref01_Decode.f (k : Nat) (l0 : List Int) : Option (Int × Int) := if (l0.length : Int) = 0 then (some (0,0)) else (if 0 < (l0.length : Int) then (if (rd l0 0) ≥ 240 then (dossierref01_Decode.j0 k l0 4 (wrap64 ((wrap64 (rd l0 0)) - 240))) else (if (rd l0 0) ≥ 224 then (dossierref01_Decode.j0 k l0 3 (wrap64 ((wrap64 (rd l0 0)) - 224))) else (if (rd l0 0) ≥ 192 then (dossierref01_Decode.j0 k l0 2 (wrap64 ((wrap64 (rd l0 0)) - 192))) else (dossierref01_Decode.j0 k l0 1 (wrap64 (rd l0 0)))))) else (none))
theorem dossierref01_Decode.mono_l : ∀ k,(∀ y0 y1 y2,LeO (dossierref01_Decode.j0 k y0 y1 y2) (dossierref01_Decode.j0 (k + 1) y0 y1 y2)) ∧ (∀ y0 y1 y2 y3 y4 y5,LeO (dossierref01_Decode.l0 k y0 y1 y2 y3 y4 y5) (dossierref01_Decode.l0 (k + 1) y0 y1 y2 y3 y4 y5))
 | 0 => ⟨fun _ _ _ r h => by simp [dossierref01_Decode.j0] at h,fun _ _ _ _ _ _ r h => by simp [dossierref01_Decode.l0] at h⟩
 | k + 1 => by
  obtain ⟨ih0,ih1⟩ := dossierref01_Decode.mono_l k
  refine ⟨?_,?_⟩
  · intro y0 y1 y2
    unfold dossierref01_Decode.j0
    repeat' first
    | (with_reducible exact ih0 _ _ _)
    | (with_reducible exact ih1 _ _ _ _ _ _)
    | (with_reducible exact dossierref01_Encode.mono _ _)
    | (with_reducible exact LeO.refl _)
    | (with_reducible exact LeO.none _)
    | (with_reducible refine LeO.ite ?_ ?_)
    | (with_reducible refine LeO.bind ?_ (fun _ => ?_))
    | exact ih0 _ _ _
    | exact ih1 _ _ _ _ _ _
    | exact dossierref01_Encode.mono _ _
    | exact LeO.none _
    | refine LeO.ite ?_ ?_
    | refine LeO.bind ?_ (fun _ => ?_)
  · intro y0 y1 y2 y3 y4 y5
    unfold dossierref01_Decode.l0
    repeat' first
    | (with_reducible exact ih0 _ _ _)
    | (with_reducible exact ih1 _ _ _ _ _ _)
    | (with_reducible exact dossierref01_Encode.mono _ _)
    | (with_reducible exact LeO.refl _)
    | (with_reducible exact LeO.none _)
    | (with_reducible refine LeO.ite ?_ ?_)
    | (with_reducible refine LeO.bind ?_ (fun _ => ?_))
    | exact ih0 _ _ _
    | exact ih1 _ _ _ _ _ _
    | exact dossierref01_Encode.mono _ _
    | exact LeO.none _
    | refine LeO.ite ?_ ?_
    | refine LeO.bind ?_ (fun _ => ?_)
theorem dossierref01_Decode.mono : ∀ a0 k,LeO (dossierref01_Decode.f k a0) (dossierref01_Decode.f (k + 1) a0) := by
 intro a0 k
 obtain ⟨ih0,ih1⟩ := dossierref01_Decode.mono_l k
 unfold dossierref01_Decode.f
 repeat' first
  | (with_reducible exact ih0 _ _ _)
  | (with_reducible exact ih1 _ _ _ _ _ _)
  | (with_reducible exact dossierref01_Encode.mono _ _)
  | (with_reducible exact LeO.refl _)
  | (with_reducible exact LeO.none _)
  | (with_reducible refine LeO.ite ?_ ?_)
  | (with_reducible refine LeO.bind ?_ (fun _ => ?_))
  | exact ih0 _ _ _
  | exact ih1 _ _ _ _ _ _
  | exact dossierref01_Encode.mono _ _
  | exact LeO.none _
  | refine LeO.ite ?_ ?_
  | refine LeO.bind ?_ (fun _ => ?_)
def dossierref01_within.l0 : Nat → Int → List Int → Int → Option (Bool)
 | 0,_,_,_ => none
 | k + 1,x0,x1,x5 => if (wrap64 (x5 + 1)) < (x1.length : Int) then (if 0 ≤ x5 then (if x5 < (x1.length : Int) then (if x0 ≥ (rd x1 x5) then (if 0 ≤ (wrap64 (x5 + 1)) then (if x0 ≤ (rd x1 (wrap64 (x5 + 1))) then (some true) else (dossierref01_within.l0 k x0 x1 (wrap64 (x5 + 2)))) else (none)) else (dossierref01_within.l0 k x0 x1 (wrap64 (x5 + 2)))) else (none)) else (none)) else (some false)
def dossierref01_within.f (k : Nat) (a0 : Int) (l1 : List Int) : Option (Bool) := dossierref01_within.l0 k a0 l1 0
theorem dossierref01_within.mono_l : ∀ k,(∀ y0 y1 y2,LeO (dossierref01_within.l0 k y0 y1 y2) (dossierref01_within.l0 (k + 1) y0 y1 y2))
 | 0 => fun _ _ _ r h => by simp [dossierref01_within.l0] at h
 | k + 1 => by
  have ih0 := dossierref01_within.mono_l k
  · intro y0 y1 y2
    unfold dossierref01_within.l0
    repeat' first
    | (with_reducible exact ih0 _ _ _)
    | (with_reducible exact LeO.refl _)
    | (with_reducible exact LeO.none _)
    | (with_reducible refine LeO.ite ?_ ?_)
    | (with_reducible refine LeO.bind ?_ (fun _ => ?_))
    | exact ih0 _ _ _
    | exact LeO.none _
    | refine LeO.ite ?_ ?_
    | refine LeO.bind ?_ (fun _ => ?_)
theorem dossierref01_within.mono : ∀ a0 a1 k,LeO (dossierref01_within.f k a0 a1) (dossierref01_within.f (k + 1) a0 a1) := by
 intro a0 a1 k
 have ih0 := dossierref01_within.mono_l k
 unfold dossierref01_within.f
 repeat' first
  | (with_reducible exact ih0 _ _ _)
  | (with_reducible exact LeO.refl _)
  | (with_reducible exact LeO.none _)
  | (with_reducible refine LeO.ite ?_ ?_)
  | (with_reducible refine LeO.bind ?_ (fun _ => ?_))
  | exact ih0 _ _ _
  | exact LeO.none _
  | refine LeO.ite ?_ ?_
  | refine LeO.bind ?_ (fun _ => ?_)
def dossierref01_OfXML.f (k : Nat) (a0 : Int) : Option (Bool) := (dossierref01_within.f k a0 (([9,10,13,13,32,55295,57344,65533,65536,1114111] : List Int))).bind fun t247 => (some t247)
theorem dossierref01_OfXML.mono : ∀ a0 k,LeO (dossierref01_OfXML.f k a0) (dossierref01_OfXML.f (k + 1) a0) := by
 intro a0 k
 unfold dossierref01_OfXML.f
 repeat' first
  | (with_reducible exact dossierref01_within.mono _ _ _)
  | (with_reducible exact LeO.refl _)
  | (with_reducible exact LeO.none _)
  | (with_reducible refine LeO.ite ?_ ?_)
  | (with_reducible refine LeO.bind ?_ (fun _ => ?_))
  | exact dossierref01_within.mono _ _ _
  | exact LeO.none _
  | refine LeO.ite ?_ ?_
  | refine LeO.bind ?_ (fun _ => ?_)
def dossierref08_text.l0 : Nat → ByteArray → ByteArray → Int → Option (Int × ByteArray × Int × Int × Bool)
 | 0,_,_,_ => none
 | k + 1,x0,x5,x6 => if x6 < (x0.size : Int) then (if 0 ≤ x6 then (if (bt x0 x6) = 34 then (some (3,x5,0,wrap64 (x6 + 1),decide ((x5.size : Int) ≤ 256))) else (if (bt x0 x6) = 92 then (if (wrap64 (x6 + 1)) ≥ (x0.size : Int) then (some (0,(⟨#[]⟩ : ByteArray),0,0,false)) else (if 0 ≤ (wrap64 (x6 + 1)) then (if (wrap64 (x6 + 1)) < (x0.size : Int) then (if (bt x0 (wrap64 (x6 + 1))) = 34 then (if (wrap64 (x6 + 1)) ≤ (wrap64 (x6 + 2)) then (if (wrap64 (x6 + 2)) ≤ (x0.size : Int) then (if x5.size + (x0.extract ((wrap64 (x6 + 1)) : Int).toNat ((wrap64 (x6 + 2)) : Int).toNat).size ≤ 9223372036854775807 then (dossierref08_text.l0 k x0 (x5 ++ (x0.extract ((wrap64 (x6 + 1)) : Int).toNat ((wrap64 (x6 + 2)) : Int).toNat)) (wrap64 (x6 + 2))) else (none)) else (none)) else (none)) else (if (bt x0 (wrap64 (x6 + 1))) = 92 then (if (wrap64 (x6 + 1)) ≤ (wrap64 (x6 + 2)) then (if (wrap64 (x6 + 2)) ≤ (x0.size : Int) then (if x5.size + (x0.extract ((wrap64 (x6 + 1)) : Int).toNat ((wrap64 (x6 + 2)) : Int).toNat).size ≤ 9223372036854775807 then (dossierref08_text.l0 k x0 (x5 ++ (x0.extract ((wrap64 (x6 + 1)) : Int).toNat ((wrap64 (x6 + 2)) : Int).toNat)) (wrap64 (x6 + 2))) else (none)) else (none)) else (none)) else (some (0,(⟨#[]⟩ : ByteArray),0,0,false)))) else (none)) else (none))) else (if x6 ≤ (x0.size : Int) then (if (x0.extract (x6 : Int).toNat x0.size).size < 140737488355328 then ((dossierref01_Decode.f k (bytesOf (x0.extract (x6 : Int).toNat x0.size))).bind fun bt249 => (if bt249.2 = 0 then (some (0,(⟨#[]⟩ : ByteArray),0,0,false)) else ((dossierref01_OfXML.f k bt249.1).bind fun t251 => (if t251 = true then (if x6 ≤ (wrap64 (x6 + bt249.2)) then (if (wrap64 (x6 + bt249.2)) ≤ (x0.size : Int) then (if x5.size + (x0.extract (x6 : Int).toNat ((wrap64 (x6 + bt249.2)) : Int).toNat).size ≤ 9223372036854775807 then (dossierref08_text.l0 k x0 (x5 ++ (x0.extract (x6 : Int).toNat ((wrap64 (x6 + bt249.2)) : Int).toNat)) (wrap64 (x6 + bt249.2))) else (none)) else (none)) else (none)) else (some (0,(⟨#[]⟩ : ByteArray),0,0,false)))))) else (none)) else (none)))) else (none)) else (some (0,(⟨#[]⟩ : ByteArray),0,0,false))
def dossierref08_text.f (k : Nat) (a0 : ByteArray) : Option (Int × ByteArray × Int × Int × Bool) := dossierref08_text.l0 k a0 (⟨#[]⟩ : ByteArray) 1
theorem dossierref08_text.mono_l : ∀ k,(∀ y0 y1 y2,LeO (dossierref08_text.l0 k y0 y1 y2) (dossierref08_text.l0 (k + 1) y0 y1 y2))
 | 0 => fun _ _ _ r h => by simp [dossierref08_text.l0] at h
 | k + 1 => by
  have ih0 := dossierref08_text.mono_l k
  · intro y0 y1 y2
    unfold dossierref08_text.l0
    repeat' first
    | (with_reducible exact ih0 _ _ _)
    | (with_reducible exact dossierref01_Decode.mono _ _)
    | (with_reducible exact dossierref01_OfXML.mono _ _)
    | (with_reducible exact LeO.refl _)
    | (with_reducible exact LeO.none _)
    | (with_reducible refine LeO.ite ?_ ?_)
    | (with_reducible refine LeO.bind ?_ (fun _ => ?_))
    | exact ih0 _ _ _
    | exact dossierref01_Decode.mono _ _
    | exact dossierref01_OfXML.mono _ _
    | exact LeO.none _
    | refine LeO.ite ?_ ?_
    | refine LeO.bind ?_ (fun _ => ?_)
theorem dossierref08_text.mono : ∀ a0 k,LeO (dossierref08_text.f k a0) (dossierref08_text.f (k + 1) a0) := by
 intro a0 k
 have ih0 := dossierref08_text.mono_l k
 unfold dossierref08_text.f
 repeat' first
  | (with_reducible exact ih0 _ _ _)
  | (with_reducible exact dossierref01_Decode.mono _ _)
  | (with_reducible exact dossierref01_OfXML.mono _ _)
  | (with_reducible exact LeO.refl _)
  | (with_reducible exact LeO.none _)
  | (with_reducible refine LeO.ite ?_ ?_)
  | (with_reducible refine LeO.bind ?_ (fun _ => ?_))
  | exact ih0 _ _ _
  | exact dossierref01_Decode.mono _ _
  | exact dossierref01_OfXML.mono _ _
  | exact LeO.none _
  | refine LeO.ite ?_ ?_
  | refine LeO.bind ?_ (fun _ => ?_)
def dossierref08_letter.f (a0 : Int) : Option (Bool) := if a0 ≥ 65 then (if a0 ≤ 90 then (some true) else (if a0 ≥ 97 then (if a0 ≤ 122 then (some true) else (some (a0 == 95))) else (some (a0 == 95)))) else (if a0 ≥ 97 then (if a0 ≤ 122 then (some true) else (some (a0 == 95))) else (some (a0 == 95)))
mutual
def dossierref08_sign.j0 : Nat → ByteArray → Bool → Option (Int × ByteArray × Int × Int × Bool)
 | 0,_,_ => none
 | k + 1,x0,x24 => if x24 = true then (if 0 ≤ 2 then (if 2 ≤ (x0.size : Int) then (some (4,x0.extract 0 2,0,2,true)) else (none)) else (none)) else ((some (([(⟨#[40]⟩ : ByteArray),(⟨#[41]⟩ : ByteArray),(⟨#[46]⟩ : ByteArray),(⟨#[44]⟩ : ByteArray),(⟨#[43]⟩ : ByteArray),(⟨#[45]⟩ : ByteArray),(⟨#[42]⟩ : ByteArray),(⟨#[47]⟩ : ByteArray),(⟨#[37]⟩ : ByteArray),(⟨#[60]⟩ : ByteArray),(⟨#[62]⟩ : ByteArray),(⟨#[61]⟩ : ByteArray)] : List ByteArray) : List ByteArray)).bind fun y253 => (dossierref08_sign.l0 k x0 y253 (y253.length : Int) 0))
def dossierref08_sign.l0 : Nat → ByteArray → List ByteArray → Int → Int → Option (Int × ByteArray × Int × Int × Bool)
 | 0,_,_,_,_ => none
 | k + 1,x0,x28,x29,x30 => if x30 < x29 then (if 0 ≤ x30 then (if x30 < (x28.length : Int) then (if 0 ≤ 1 then (if 1 ≤ (x0.size : Int) then (if (x0.extract 0 1).toList = (rdOf ByteArray.empty x28 x30).toList then (some (4,rdOf ByteArray.empty x28 x30,0,1,true)) else (dossierref08_sign.l0 k x0 x28 x29 (wrap64 (x30 + 1)))) else (none)) else (none)) else (none)) else (none)) else (some (0,(⟨#[]⟩ : ByteArray),0,0,false))
end
def dossierref08_sign.f (k : Nat) (a0 : ByteArray) : Option (Int × ByteArray × Int × Int × Bool) := if (a0.size : Int) ≥ 2 then (if 0 ≤ 2 then (if 2 ≤ (a0.size : Int) then (if (a0.extract 0 2).toList = ([60,61] : List UInt8) then (dossierref08_sign.j0 k a0 true) else (if (a0.extract 0 2).toList = ([62,61] : List UInt8) then (dossierref08_sign.j0 k a0 true) else (dossierref08_sign.j0 k a0 ((a0.extract 0 2).toList == ([33,61] : List UInt8))))) else (none)) else (none)) else (dossierref08_sign.j0 k a0 false)
theorem dossierref08_sign.mono_l : ∀ k,(∀ y0 y1,LeO (dossierref08_sign.j0 k y0 y1) (dossierref08_sign.j0 (k + 1) y0 y1)) ∧ (∀ y0 y1 y2 y3,LeO (dossierref08_sign.l0 k y0 y1 y2 y3) (dossierref08_sign.l0 (k + 1) y0 y1 y2 y3))
 | 0 => ⟨fun _ _ r h => by simp [dossierref08_sign.j0] at h,fun _ _ _ _ r h => by simp [dossierref08_sign.l0] at h⟩
 | k + 1 => by
  obtain ⟨ih0,ih1⟩ := dossierref08_sign.mono_l k
  refine ⟨?_,?_⟩
  · intro y0 y1
    unfold dossierref08_sign.j0
    repeat' first
    | (with_reducible exact ih0 _ _)
    | (with_reducible exact ih1 _ _ _ _)
    | (with_reducible exact LeO.refl _)
    | (with_reducible exact LeO.none _)
    | (with_reducible refine LeO.ite ?_ ?_)
    | (with_reducible refine LeO.bind ?_ (fun _ => ?_))
    | exact ih0 _ _
    | exact ih1 _ _ _ _
    | exact LeO.none _
    | refine LeO.ite ?_ ?_
    | refine LeO.bind ?_ (fun _ => ?_)
  · intro y0 y1 y2 y3
    unfold dossierref08_sign.l0
    repeat' first
    | (with_reducible exact ih0 _ _)
    | (with_reducible exact ih1 _ _ _ _)
    | (with_reducible exact LeO.refl _)
    | (with_reducible exact LeO.none _)
    | (with_reducible refine LeO.ite ?_ ?_)
    | (with_reducible refine LeO.bind ?_ (fun _ => ?_))
    | exact ih0 _ _
    | exact ih1 _ _ _ _
    | exact LeO.none _
    | refine LeO.ite ?_ ?_
    | refine LeO.bind ?_ (fun _ => ?_)
theorem dossierref08_sign.mono : ∀ a0 k,LeO (dossierref08_sign.f k a0) (dossierref08_sign.f (k + 1) a0) := by
 intro a0 k
 obtain ⟨ih0,ih1⟩ := dossierref08_sign.mono_l k
 unfold dossierref08_sign.f
 repeat' first
  | (with_reducible exact ih0 _ _)
  | (with_reducible exact ih1 _ _ _ _)
  | (with_reducible exact LeO.refl _)
  | (with_reducible exact LeO.none _)
  | (with_reducible refine LeO.ite ?_ ?_)
  | (with_reducible refine LeO.bind ?_ (fun _ => ?_))
  | exact ih0 _ _
  | exact ih1 _ _ _ _
  | exact LeO.none _
  | refine LeO.ite ?_ ?_
  | refine LeO.bind ?_ (fun _ => ?_)
def dossierref08_word.l0 : Nat → ByteArray → Int → Option (Int × ByteArray × Int × Int × Bool)
 | 0,_,_ => none
 | k + 1,x0,x5 => if x5 < (x0.size : Int) then (if 0 ≤ x5 then ((dossierref08_letter.f (bt x0 x5)).bind fun t275 => (if t275 = true then (dossierref08_word.l0 k x0 (wrap64 (x5 + 1))) else ((dossierref08_digit.f (bt x0 x5)).bind fun t276 => (if t276 = true then (dossierref08_word.l0 k x0 (wrap64 (x5 + 1))) else (if x5 ≤ (x0.size : Int) then (some (1,x0.extract 0 (x5 : Int).toNat,0,x5,true)) else (none)))))) else (none)) else (if 0 ≤ x5 then (if x5 ≤ (x0.size : Int) then (some (1,x0.extract 0 (x5 : Int).toNat,0,x5,true)) else (none)) else (none))
def dossierref08_word.f (k : Nat) (a0 : ByteArray) : Option (Int × ByteArray × Int × Int × Bool) := if 0 < (a0.size : Int) then ((dossierref08_digit.f (bt a0 0)).bind fun t258 => (if t258 = true then ((dossierref08_integer.f k a0).bind fun bt259 => (some (bt259.1,bt259.2.1,bt259.2.2.1,bt259.2.2.2.1,bt259.2.2.2.2))) else (if (bt a0 0) = 34 then ((dossierref08_text.f k a0).bind fun bt264 => (some (bt264.1,bt264.2.1,bt264.2.2.1,bt264.2.2.2.1,bt264.2.2.2.2))) else ((dossierref08_letter.f (bt a0 0)).bind fun t269 => (if t269 = true then (dossierref08_word.l0 k a0 1) else ((dossierref08_sign.f k a0).bind fun bt270 => (some (bt270.1,bt270.2.1,bt270.2.2.1,bt270.2.2.2.1,bt270.2.2.2.2)))))))) else (none)
theorem dossierref08_word.mono_l : ∀ k,(∀ y0 y1,LeO (dossierref08_word.l0 k y0 y1) (dossierref08_word.l0 (k + 1) y0 y1))
 | 0 => fun _ _ r h => by simp [dossierref08_word.l0] at h
 | k + 1 => by
  have ih0 := dossierref08_word.mono_l k
  · intro y0 y1
    unfold dossierref08_word.l0
    repeat' first
    | (with_reducible exact ih0 _ _)
    | (with_reducible exact dossierref08_integer.mono _ _)
    | (with_reducible exact dossierref08_sign.mono _ _)
    | (with_reducible exact dossierref08_text.mono _ _)
    | (with_reducible exact LeO.refl _)
    | (with_reducible exact LeO.none _)
    | (with_reducible refine LeO.ite ?_ ?_)
    | (with_reducible refine LeO.bind ?_ (fun _ => ?_))
    | exact ih0 _ _
    | exact dossierref08_integer.mono _ _
    | exact dossierref08_sign.mono _ _
    | exact dossierref08_text.mono _ _
    | exact LeO.none _
    | refine LeO.ite ?_ ?_
    | refine LeO.bind ?_ (fun _ => ?_)
theorem dossierref08_word.mono : ∀ a0 k,LeO (dossierref08_word.f k a0) (dossierref08_word.f (k + 1) a0) := by
 intro a0 k
 have ih0 := dossierref08_word.mono_l k
 unfold dossierref08_word.f
 repeat' first
  | (with_reducible exact ih0 _ _)
  | (with_reducible exact dossierref08_integer.mono _ _)
  | (with_reducible exact dossierref08_sign.mono _ _)
  | (with_reducible exact dossierref08_text.mono _ _)
  | (with_reducible exact LeO.refl _)
  | (with_reducible exact LeO.none _)
  | (with_reducible refine LeO.ite ?_ ?_)
  | (with_reducible refine LeO.bind ?_ (fun _ => ?_))
  | exact ih0 _ _
  | exact dossierref08_integer.mono _ _
  | exact dossierref08_sign.mono _ _
  | exact dossierref08_text.mono _ _
  | exact LeO.none _
  | refine LeO.ite ?_ ?_
  | refine LeO.bind ?_ (fun _ => ?_)
def dossierref08_Words.l0 : Nat → ByteArray → List (S69) → Int → Option ((List (S69)) × Int × Int)
 | 0,_,_,_ => none
 | k + 1,x0,x5,x6 => if x6 < (x0.size : Int) then (if 0 ≤ x6 then ((dossierref01_Space.f (wrap64 (bt x0 x6))).bind fun t280 => (if t280 = true then (dossierref08_Words.l0 k x0 x5 (wrap64 (x6 + 1))) else (if x6 ≤ (x0.size : Int) then ((dossierref08_word.f k (x0.extract (x6 : Int).toNat x0.size)).bind fun bt281 => (if bt281.2.2.2.2 = true then (if x5.length < 4398046511104 then (dossierref08_Words.l0 k x0 (x5 ++ [(⟨bt281.1,bt281.2.1,bt281.2.2.1⟩ : S69)]) (wrap64 (x6 + bt281.2.2.2.1))) else (none)) else (some (([] : List (S69)),x6,20)))) else (none)))) else (none)) else (if x5.length < 4398046511104 then (some ((x5 ++ [(⟨0,(⟨#[]⟩ : ByteArray),0⟩ : S69)]),0,0)) else (none))
def dossierref08_Words.f (k : Nat) (a0 : ByteArray) : Option ((List (S69)) × Int × Int) := if (a0.size : Int) > 400 then (some (([] : List (S69)),0,4)) else (dossierref08_Words.l0 k a0 ([] : List (S69)) 0)
theorem dossierref08_Words.mono_l : ∀ k,(∀ y0 y1 y2,LeO (dossierref08_Words.l0 k y0 y1 y2) (dossierref08_Words.l0 (k + 1) y0 y1 y2))
 | 0 => fun _ _ _ r h => by simp [dossierref08_Words.l0] at h
 | k + 1 => by
  have ih0 := dossierref08_Words.mono_l k
  · intro y0 y1 y2
    unfold dossierref08_Words.l0
    repeat' first
    | (with_reducible exact ih0 _ _ _)
    | (with_reducible exact dossierref08_word.mono _ _)
    | (with_reducible exact LeO.refl _)
    | (with_reducible exact LeO.none _)
    | (with_reducible refine LeO.ite ?_ ?_)
    | (with_reducible refine LeO.bind ?_ (fun _ => ?_))
    | exact ih0 _ _ _
    | exact dossierref08_word.mono _ _
    | exact LeO.none _
    | refine LeO.ite ?_ ?_
    | refine LeO.bind ?_ (fun _ => ?_)
theorem dossierref08_Words.mono : ∀ a0 k,LeO (dossierref08_Words.f k a0) (dossierref08_Words.f (k + 1) a0) := by
 intro a0 k
 have ih0 := dossierref08_Words.mono_l k
 unfold dossierref08_Words.f
 repeat' first
  | (with_reducible exact ih0 _ _ _)
  | (with_reducible exact dossierref08_word.mono _ _)
  | (with_reducible exact LeO.refl _)
  | (with_reducible exact LeO.none _)
  | (with_reducible refine LeO.ite ?_ ?_)
  | (with_reducible refine LeO.bind ?_ (fun _ => ?_))
  | exact ih0 _ _ _
  | exact dossierref08_word.mono _ _
  | exact LeO.none _
  | refine LeO.ite ?_ ?_
  | refine LeO.bind ?_ (fun _ => ?_)
def dossierref01_Wrong.l0 : Nat → List Int → Int → Option (Int)
 | 0,_,_ => none
 | k + 1,x0,x3 => if x3 < (x0.length : Int) then (if 0 ≤ x3 then (if x3 ≤ (x0.length : Int) then ((dossierref01_Decode.f k (x0.drop (x3 : Int).toNat)).bind fun bt333 => (if bt333.2 = 0 then (some x3) else ((dossierref01_OfXML.f k bt333.1).bind fun t335 => (if t335 = true then (dossierref01_Wrong.l0 k x0 (wrap64 (x3 + bt333.2))) else (some x3))))) else (none)) else (none)) else (some (-1))
def dossierref01_Wrong.f (k : Nat) (l0 : List Int) : Option (Int) := dossierref01_Wrong.l0 k l0 0
theorem dossierref01_Wrong.mono_l : ∀ k,(∀ y0 y1,LeO (dossierref01_Wrong.l0 k y0 y1) (dossierref01_Wrong.l0 (k + 1) y0 y1))
 | 0 => fun _ _ r h => by simp [dossierref01_Wrong.l0] at h
 | k + 1 => by
  have ih0 := dossierref01_Wrong.mono_l k
  · intro y0 y1
    unfold dossierref01_Wrong.l0
    repeat' first
    | (with_reducible exact ih0 _ _)
    | (with_reducible exact dossierref01_Decode.mono _ _)
    | (with_reducible exact dossierref01_OfXML.mono _ _)
    | (with_reducible exact LeO.refl _)
    | (with_reducible exact LeO.none _)
    | (with_reducible refine LeO.ite ?_ ?_)
    | (with_reducible refine LeO.bind ?_ (fun _ => ?_))
    | exact ih0 _ _
    | exact dossierref01_Decode.mono _ _
    | exact dossierref01_OfXML.mono _ _
    | exact LeO.none _
    | refine LeO.ite ?_ ?_
    | refine LeO.bind ?_ (fun _ => ?_)
theorem dossierref01_Wrong.mono : ∀ a0 k,LeO (dossierref01_Wrong.f k a0) (dossierref01_Wrong.f (k + 1) a0) := by
 intro a0 k
 have ih0 := dossierref01_Wrong.mono_l k
 unfold dossierref01_Wrong.f
 repeat' first
  | (with_reducible exact ih0 _ _)
  | (with_reducible exact dossierref01_Decode.mono _ _)
  | (with_reducible exact dossierref01_OfXML.mono _ _)
  | (with_reducible exact LeO.refl _)
  | (with_reducible exact LeO.none _)
  | (with_reducible refine LeO.ite ?_ ?_)
  | (with_reducible refine LeO.bind ?_ (fun _ => ?_))
  | exact ih0 _ _
  | exact dossierref01_Decode.mono _ _
  | exact dossierref01_OfXML.mono _ _
  | exact LeO.none _
  | refine LeO.ite ?_ ?_
  | refine LeO.bind ?_ (fun _ => ?_)
end Go.Proofs.YtbcpnpbkbndkjaaGreatDoor.Q
end
section
/- What the program's library functions are, against the shelf's own bodies: a table of numbers and one theorem for each, by the kernel's comparison. Written by the kit's lay-plain.mjs for this seat. -/
namespace Go.Proofs
open Go.Shelf
def Tryz.layDecodeRune_ren : Go.Shelf.Ren := ⟨fun | 32 => 166 | 49 => 174 | n => n, fun | 30 => 139 | 21 => 21 | 3 => 3 | 0 => 0 | 5 => 5 | 4 => 4 | 33 => 134 | 66 => 173 | 25 => 174 | 69 => 177 | 68 => 176 | n => n, fun | 2 => 0 | 3 => 1 | n => n⟩
theorem Tryz.layDecodeRune : Go.Proofs.Lays7.n32 Tryz.prog Tryz.layDecodeRune_ren := {
  mixed := by kernel_rfl
  f32 := Tryz.func166.trans (congrArg some (by kernel_rfl))
  f49 := Tryz.func174.trans (congrArg some (by kernel_rfl))
  t0 := Tryz.underlying0
  a0 := Tryz.isAgg0
  z0 := Tryz.sizeOf0
  v0 := Tryz.zeroValue0
  i0 := by kernel_rfl
  t3 := Tryz.underlying3
  a3 := Tryz.isAgg3
  z3 := Tryz.sizeOf3
  v3 := Tryz.zeroValue3
  i3 := by kernel_rfl
  t4 := Tryz.underlying4
  a4 := Tryz.isAgg4
  z4 := Tryz.sizeOf4
  v4 := Tryz.zeroValue4
  i4 := by kernel_rfl
  t5 := Tryz.underlying5
  a5 := Tryz.isAgg5
  z5 := Tryz.sizeOf5
  v5 := Tryz.zeroValue5
  i5 := by kernel_rfl
  t21 := Tryz.underlying21
  a21 := Tryz.isAgg21
  z21 := Tryz.sizeOf21
  v21 := Tryz.zeroValue21
  i21 := by kernel_rfl
  t25 := Tryz.underlying174
  a25 := Tryz.isAgg174
  z25 := Tryz.sizeOf174
  v25 := Tryz.zeroValue174
  i25 := by kernel_rfl
  t30 := Tryz.underlying139
  a30 := Tryz.isAgg139
  z30 := Tryz.sizeOf139
  v30 := Tryz.zeroValue139
  i30 := by kernel_rfl
  t33 := Tryz.underlying134
  a33 := Tryz.isAgg134
  z33 := Tryz.sizeOf134
  v33 := Tryz.zeroValue134
  i33 := by kernel_rfl
  t66 := Tryz.underlying173
  a66 := Tryz.isAgg173
  z66 := Tryz.sizeOf173
  t68 := Tryz.underlying176
  a68 := Tryz.isAgg176
  z68 := Tryz.sizeOf176
  v68 := Tryz.zeroValue176
  i68 := by kernel_rfl
  t69 := Tryz.underlying177
  a69 := Tryz.isAgg177
  z69 := Tryz.sizeOf177
  v69 := Tryz.zeroValue177
  i69 := by kernel_rfl
  g2 := by kernel_rfl
  g3 := by kernel_rfl }
def Tryz.layCompare_ren : Go.Shelf.Ren := ⟨fun | 106 => 136 | 213 => 159 | 265 => 173 | n => n, fun | 9 => 9 | 3 => 3 | n => n, fun | n => n⟩
theorem Tryz.layCompare : Go.Proofs.Lays.n106 Tryz.prog Tryz.layCompare_ren := {
  mixed := by kernel_rfl
  f106 := Tryz.func136.trans (congrArg some (by kernel_rfl))
  f213 := Tryz.func159.trans (congrArg some (by kernel_rfl))
  f265 := Tryz.func173.trans (congrArg some (by kernel_rfl))
  t3 := Tryz.underlying3
  a3 := Tryz.isAgg3
  z3 := Tryz.sizeOf3
  v3 := Tryz.zeroValue3
  t9 := Tryz.underlying9
  a9 := Tryz.isAgg9
  z9 := Tryz.sizeOf9
  v9 := Tryz.zeroValue9 }
def Tryz.layIndexByte_ren : Go.Shelf.Ren := ⟨fun | 137 => 114 | 217 => 143 | 266 => 165 | n => n, fun | 9 => 9 | 5 => 5 | 3 => 3 | n => n, fun | n => n⟩
theorem Tryz.layIndexByte : Go.Proofs.Lays.n137 Tryz.prog Tryz.layIndexByte_ren := {
  mixed := by kernel_rfl
  f137 := Tryz.func114.trans (congrArg some (by kernel_rfl))
  f217 := Tryz.func143.trans (congrArg some (by kernel_rfl))
  f266 := Tryz.func165.trans (congrArg some (by kernel_rfl))
  t3 := Tryz.underlying3
  a3 := Tryz.isAgg3
  z3 := Tryz.sizeOf3
  v3 := Tryz.zeroValue3
  t5 := Tryz.underlying5
  a5 := Tryz.isAgg5
  z5 := Tryz.sizeOf5
  v5 := Tryz.zeroValue5
  t9 := Tryz.underlying9
  a9 := Tryz.isAgg9
  z9 := Tryz.sizeOf9
  v9 := Tryz.zeroValue9 }
def Tryz.layTrimLeft_ren : Go.Shelf.Ren := ⟨fun | 161 => 36 | 231 => 64 | 227 => 65 | 233 => 66 | 235 => 67 | 228 => 111 | 197 => 112 | 151 => 113 | 260 => 141 | 152 => 142 | 137 => 114 | 119 => 162 | 224 => 163 | 225 => 164 | 217 => 143 | 266 => 165 | n => n, fun | 9 => 9 | 4 => 4 | 3 => 3 | 5 => 5 | 117 => 106 | 116 => 105 | 0 => 0 | 124 => 109 | 105 => 134 | 21 => 21 | 119 => 173 | 46 => 174 | 139 => 177 | 138 => 176 | n => n, fun | 3 => 0 | 4 => 1 | n => n⟩
theorem Tryz.layTrimLeft : Go.Proofs.Lays.n161 Tryz.prog Tryz.layTrimLeft_ren := {
  mixed := by kernel_rfl
  f119 := Tryz.func162.trans (congrArg some (by kernel_rfl))
  f137 := Tryz.func114.trans (congrArg some (by kernel_rfl))
  f151 := Tryz.func113.trans (congrArg some (by kernel_rfl))
  f152 := Tryz.func142.trans (congrArg some (by kernel_rfl))
  f161 := Tryz.func36.trans (congrArg some (by kernel_rfl))
  f197 := Tryz.func112.trans (congrArg some (by kernel_rfl))
  f217 := Tryz.func143.trans (congrArg some (by kernel_rfl))
  f224 := Tryz.func163.trans (congrArg some (by kernel_rfl))
  f225 := Tryz.func164.trans (congrArg some (by kernel_rfl))
  f227 := Tryz.func65.trans (congrArg some (by kernel_rfl))
  f228 := Tryz.func111.trans (congrArg some (by kernel_rfl))
  f231 := Tryz.func64.trans (congrArg some (by kernel_rfl))
  f233 := Tryz.func66.trans (congrArg some (by kernel_rfl))
  f235 := Tryz.func67.trans (congrArg some (by kernel_rfl))
  f260 := Tryz.func141.trans (congrArg some (by kernel_rfl))
  f266 := Tryz.func165.trans (congrArg some (by kernel_rfl))
  t0 := Tryz.underlying0
  a0 := Tryz.isAgg0
  z0 := Tryz.sizeOf0
  v0 := Tryz.zeroValue0
  t3 := Tryz.underlying3
  a3 := Tryz.isAgg3
  z3 := Tryz.sizeOf3
  v3 := Tryz.zeroValue3
  t4 := Tryz.underlying4
  a4 := Tryz.isAgg4
  z4 := Tryz.sizeOf4
  v4 := Tryz.zeroValue4
  t5 := Tryz.underlying5
  a5 := Tryz.isAgg5
  z5 := Tryz.sizeOf5
  v5 := Tryz.zeroValue5
  t9 := Tryz.underlying9
  a9 := Tryz.isAgg9
  z9 := Tryz.sizeOf9
  v9 := Tryz.zeroValue9
  t21 := Tryz.underlying21
  a21 := Tryz.isAgg21
  z21 := Tryz.sizeOf21
  v21 := Tryz.zeroValue21
  t46 := Tryz.underlying174
  a46 := Tryz.isAgg174
  z46 := Tryz.sizeOf174
  v46 := Tryz.zeroValue174
  t105 := Tryz.underlying134
  a105 := Tryz.isAgg134
  z105 := Tryz.sizeOf134
  v105 := Tryz.zeroValue134
  t116 := Tryz.underlying105
  a116 := Tryz.isAgg105
  z116 := Tryz.sizeOf105
  t117 := Tryz.underlying106
  a117 := Tryz.isAgg106
  z117 := Tryz.sizeOf106
  v117 := Tryz.zeroValue106
  t119 := Tryz.underlying173
  a119 := Tryz.isAgg173
  z119 := Tryz.sizeOf173
  t124 := Tryz.underlying109
  a124 := Tryz.isAgg109
  z124 := Tryz.sizeOf109
  v124 := Tryz.zeroValue109
  t138 := Tryz.underlying176
  a138 := Tryz.isAgg176
  z138 := Tryz.sizeOf176
  v138 := Tryz.zeroValue176
  t139 := Tryz.underlying177
  a139 := Tryz.isAgg177
  z139 := Tryz.sizeOf177
  v139 := Tryz.zeroValue177
  g3 := by kernel_rfl
  g4 := by kernel_rfl }
def Tryz.layMul64_ren : Go.Shelf.Ren := ⟨fun | 264 => 161 | n => n, fun | 53 => 138 | 46 => 174 | n => n, fun | n => n⟩
theorem Tryz.layMul64 : Go.Proofs.Lays.n264 Tryz.prog Tryz.layMul64_ren := {
  mixed := by kernel_rfl
  f264 := Tryz.func161.trans (congrArg some (by kernel_rfl))
  t46 := Tryz.underlying174
  a46 := Tryz.isAgg174
  z46 := Tryz.sizeOf174
  v46 := Tryz.zeroValue174
  t53 := Tryz.underlying138
  a53 := Tryz.isAgg138
  z53 := Tryz.sizeOf138
  v53 := Tryz.zeroValue138 }
def Tryz.laySplit_ren : Go.Shelf.Ren := ⟨fun | 146 => 87 | 221 => 121 | 268 => 149 | 138 => 150 | 143 => 151 | 195 => 170 | 197 => 112 | 218 => 171 | 219 => 172 | 260 => 141 | 217 => 143 | 225 => 164 | 224 => 163 | 267 => 177 | 266 => 165 | 314 => 178 | n => n, fun | 9 => 9 | 31 => 23 | 3 => 3 | 4 => 4 | 0 => 0 | 105 => 134 | 21 => 21 | 5 => 5 | 46 => 174 | 119 => 173 | 139 => 177 | 138 => 176 | 146 => 189 | 51 => 188 | n => n, fun | 1 => 2 | 3 => 0 | 4 => 1 | n => n⟩
theorem Tryz.laySplit : Go.Proofs.LaysM.n146 Tryz.prog Tryz.laySplit_ren := {
  mixed := by kernel_rfl
  f138 := Tryz.func150.trans (congrArg some (by kernel_rfl))
  f143 := Tryz.func151.trans (congrArg some (by kernel_rfl))
  f146 := Tryz.func87.trans (congrArg some (by kernel_rfl))
  f195 := Tryz.func170.trans (congrArg some (by kernel_rfl))
  f197 := Tryz.func112.trans (congrArg some (by kernel_rfl))
  f217 := Tryz.func143.trans (congrArg some (by kernel_rfl))
  f218 := Tryz.func171.trans (congrArg some (by kernel_rfl))
  f219 := Tryz.func172.trans (congrArg some (by kernel_rfl))
  f221 := Tryz.func121.trans (congrArg some (by kernel_rfl))
  f224 := Tryz.func163.trans (congrArg some (by kernel_rfl))
  f225 := Tryz.func164.trans (congrArg some (by kernel_rfl))
  f260 := Tryz.func141.trans (congrArg some (by kernel_rfl))
  f266 := Tryz.func165.trans (congrArg some (by kernel_rfl))
  f267 := Tryz.func177.trans (congrArg some (by kernel_rfl))
  f268 := Tryz.func149.trans (congrArg some (by kernel_rfl))
  f314 := Tryz.func178.trans (congrArg some (by kernel_rfl))
  t0 := Tryz.underlying0
  a0 := Tryz.isAgg0
  z0 := Tryz.sizeOf0
  v0 := Tryz.zeroValue0
  t3 := Tryz.underlying3
  a3 := Tryz.isAgg3
  z3 := Tryz.sizeOf3
  v3 := Tryz.zeroValue3
  t4 := Tryz.underlying4
  a4 := Tryz.isAgg4
  z4 := Tryz.sizeOf4
  v4 := Tryz.zeroValue4
  t5 := Tryz.underlying5
  a5 := Tryz.isAgg5
  z5 := Tryz.sizeOf5
  v5 := Tryz.zeroValue5
  t9 := Tryz.underlying9
  a9 := Tryz.isAgg9
  z9 := Tryz.sizeOf9
  v9 := Tryz.zeroValue9
  t21 := Tryz.underlying21
  a21 := Tryz.isAgg21
  z21 := Tryz.sizeOf21
  v21 := Tryz.zeroValue21
  t31 := Tryz.underlying23
  a31 := Tryz.isAgg23
  z31 := Tryz.sizeOf23
  v31 := Tryz.zeroValue23
  t46 := Tryz.underlying174
  a46 := Tryz.isAgg174
  z46 := Tryz.sizeOf174
  v46 := Tryz.zeroValue174
  t51 := Tryz.underlying188
  a51 := Tryz.isAgg188
  z51 := Tryz.sizeOf188
  v51 := Tryz.zeroValue188
  t105 := Tryz.underlying134
  a105 := Tryz.isAgg134
  z105 := Tryz.sizeOf134
  v105 := Tryz.zeroValue134
  t119 := Tryz.underlying173
  a119 := Tryz.isAgg173
  z119 := Tryz.sizeOf173
  t138 := Tryz.underlying176
  a138 := Tryz.isAgg176
  z138 := Tryz.sizeOf176
  v138 := Tryz.zeroValue176
  t139 := Tryz.underlying177
  a139 := Tryz.isAgg177
  z139 := Tryz.sizeOf177
  v139 := Tryz.zeroValue177
  t146 := Tryz.underlying189
  a146 := Tryz.isAgg189
  z146 := Tryz.sizeOf189
  v146 := Tryz.zeroValue189
  g1 := by kernel_rfl
  g3 := by kernel_rfl
  g4 := by kernel_rfl
  i0 := by kernel_rfl
  i3 := by kernel_rfl
  i4 := by kernel_rfl
  i5 := by kernel_rfl
  i9 := by kernel_rfl
  i21 := by kernel_rfl
  i31 := by kernel_rfl
  i46 := by kernel_rfl
  i51 := by kernel_rfl
  i105 := by kernel_rfl
  i138 := by kernel_rfl
  i139 := by kernel_rfl
  i146 := by kernel_rfl
  m1 := by kernel_rfl
  s1_3 := fun w h => Go.Proofs.cell_of_shapedOpen_int (zero := #[.int .i64 0]) (t := 3) h (of_decide_eq_true (by kernel_rfl)) (by kernel_rfl) rfl (by kernel_rfl) (by kernel_rfl) Tryz.underlying3
  m3 := by kernel_rfl
  m4 := by kernel_rfl }
def Tryz.layCut_ren : Go.Shelf.Ren := ⟨fun | 145 => 133 | 220 => 157 | 219 => 172 | 217 => 143 | 225 => 164 | 224 => 163 | 267 => 177 | 266 => 165 | 314 => 178 | n => n, fun | 9 => 9 | 4 => 4 | 59 => 150 | 3 => 3 | 5 => 5 | 46 => 174 | 146 => 189 | 51 => 188 | n => n, fun | 1 => 2 | n => n⟩
theorem Tryz.layCut : Go.Proofs.LaysM.n145 Tryz.prog Tryz.layCut_ren := {
  mixed := by kernel_rfl
  f145 := Tryz.func133.trans (congrArg some (by kernel_rfl))
  f217 := Tryz.func143.trans (congrArg some (by kernel_rfl))
  f219 := Tryz.func172.trans (congrArg some (by kernel_rfl))
  f220 := Tryz.func157.trans (congrArg some (by kernel_rfl))
  f224 := Tryz.func163.trans (congrArg some (by kernel_rfl))
  f225 := Tryz.func164.trans (congrArg some (by kernel_rfl))
  f266 := Tryz.func165.trans (congrArg some (by kernel_rfl))
  f267 := Tryz.func177.trans (congrArg some (by kernel_rfl))
  f314 := Tryz.func178.trans (congrArg some (by kernel_rfl))
  t3 := Tryz.underlying3
  a3 := Tryz.isAgg3
  z3 := Tryz.sizeOf3
  v3 := Tryz.zeroValue3
  t4 := Tryz.underlying4
  a4 := Tryz.isAgg4
  z4 := Tryz.sizeOf4
  v4 := Tryz.zeroValue4
  t5 := Tryz.underlying5
  a5 := Tryz.isAgg5
  z5 := Tryz.sizeOf5
  v5 := Tryz.zeroValue5
  t9 := Tryz.underlying9
  a9 := Tryz.isAgg9
  z9 := Tryz.sizeOf9
  v9 := Tryz.zeroValue9
  t46 := Tryz.underlying174
  a46 := Tryz.isAgg174
  z46 := Tryz.sizeOf174
  v46 := Tryz.zeroValue174
  t51 := Tryz.underlying188
  a51 := Tryz.isAgg188
  z51 := Tryz.sizeOf188
  v51 := Tryz.zeroValue188
  t59 := Tryz.underlying150
  a59 := Tryz.isAgg150
  z59 := Tryz.sizeOf150
  v59 := Tryz.zeroValue150
  t146 := Tryz.underlying189
  a146 := Tryz.isAgg189
  z146 := Tryz.sizeOf189
  v146 := Tryz.zeroValue189
  g1 := by kernel_rfl
  i3 := by kernel_rfl
  i4 := by kernel_rfl
  i5 := by kernel_rfl
  i9 := by kernel_rfl
  i46 := by kernel_rfl
  i51 := by kernel_rfl
  i59 := by kernel_rfl
  i146 := by kernel_rfl
  m1 := by kernel_rfl
  s1_3 := fun w h => Go.Proofs.cell_of_shapedOpen_int (zero := #[.int .i64 0]) (t := 3) h (of_decide_eq_true (by kernel_rfl)) (by kernel_rfl) rfl (by kernel_rfl) (by kernel_rfl) Tryz.underlying3 }
end Go.Proofs
end
section
/- What the program's library functions are, against the shelf's own bodies: a table of numbers and one theorem for each, by the kernel's comparison. Written by the kit's lay-plain.mjs for this seat. -/
namespace Go.Proofs
open Go.Shelf
def Tryz.layJoin_ren : Go.Shelf.Ren := ⟨fun | 156 => 117 | 165 => 146 | 166 => 147 | 169 => 148 | 240 => 168 | 241 => 169 | 276 => 175 | 277 => 176 | n => n, fun | 31 => 23 | 9 => 9 | 3 => 3 | 4 => 4 | 0 => 0 | 20 => 20 | 72 => 160 | 76 => 164 | 70 => 158 | 37 => 139 | 75 => 163 | 127 => 184 | 164 => 186 | 5 => 5 | 80 => 116 | n => n, fun | n => n⟩
theorem Tryz.layJoin : Go.Proofs.Lays.n156 Tryz.prog Tryz.layJoin_ren := {
  mixed := by kernel_rfl
  f156 := Tryz.func117.trans (congrArg some (by kernel_rfl))
  f165 := Tryz.func146.trans (congrArg some (by kernel_rfl))
  f166 := Tryz.func147.trans (congrArg some (by kernel_rfl))
  f169 := Tryz.func148.trans (congrArg some (by kernel_rfl))
  f240 := Tryz.func168.trans (congrArg some (by kernel_rfl))
  f241 := Tryz.func169.trans (congrArg some (by kernel_rfl))
  f276 := Tryz.func175.trans (congrArg some (by kernel_rfl))
  f277 := Tryz.func176.trans (congrArg some (by kernel_rfl))
  t0 := Tryz.underlying0
  a0 := Tryz.isAgg0
  z0 := Tryz.sizeOf0
  v0 := Tryz.zeroValue0
  t3 := Tryz.underlying3
  a3 := Tryz.isAgg3
  z3 := Tryz.sizeOf3
  v3 := Tryz.zeroValue3
  t4 := Tryz.underlying4
  a4 := Tryz.isAgg4
  z4 := Tryz.sizeOf4
  v4 := Tryz.zeroValue4
  t9 := Tryz.underlying9
  a9 := Tryz.isAgg9
  z9 := Tryz.sizeOf9
  v9 := Tryz.zeroValue9
  t20 := Tryz.underlying20
  a20 := Tryz.isAgg20
  z20 := Tryz.sizeOf20
  v20 := Tryz.zeroValue20
  t31 := Tryz.underlying23
  a31 := Tryz.isAgg23
  z31 := Tryz.sizeOf23
  v31 := Tryz.zeroValue23
  t37 := Tryz.underlying139
  a37 := Tryz.isAgg139
  z37 := Tryz.sizeOf139
  v37 := Tryz.zeroValue139
  t70 := Tryz.underlying158
  a70 := Tryz.isAgg158
  z70 := Tryz.sizeOf158
  v70 := Tryz.zeroValue158
  t72 := Tryz.underlying160
  a72 := Tryz.isAgg160
  z72 := Tryz.sizeOf160
  v72 := Tryz.zeroValue160
  t75 := Tryz.underlying163
  a75 := Tryz.isAgg163
  z75 := Tryz.sizeOf163
  v75 := Tryz.zeroValue163
  t76 := Tryz.underlying164
  a76 := Tryz.isAgg164
  z76 := Tryz.sizeOf164
  v76 := Tryz.zeroValue164
  t127 := Tryz.underlying184
  a127 := Tryz.isAgg184
  z127 := Tryz.sizeOf184
  v127 := Tryz.zeroValue184
  t164 := Tryz.underlying186
  a164 := Tryz.isAgg186
  z164 := Tryz.sizeOf186
  v164 := Tryz.zeroValue186 }
end Go.Proofs
end
section
/- Go's library functions, as the evaluator asks for them: out of the shelf's contracts. -/
set_option linter.unusedVariables false
set_option linter.unusedSimpArgs false
namespace Go.Proofs.YtbcpnpbkbndkjaaGreatDoor.Ev
open Go Go.RowKit Go.Proofs.YtbcpnpbkbndkjaaGreatDoorH Go.Proofs.YtbcpnpbkbndkjaaGreatDoorW.PrintWords
section
variable {U : Nat → Type} {C : Codec U}
/-! ### strings -/
def trimF : List (AVal U) → Option (AVal U)
 | [.str s,.str t] => (Q.strings_TrimLeft.f s t).bind fun r => some (.str r)
 | _ => none
theorem trim_ok : CallOk (R := Rr U) Tryz.prog C 36 (asExt trimF) := by
 refine callOk_ext fun args v h g w cs ha hi hw => ?_
 unfold trimF at h
 split at h
 · rename_i s t
   obtain ⟨r,h1,h2⟩ := bind2 h
   obtain rfl := Option.some.inj h2
   obtain ⟨c,d,rfl,hc,hd⟩ := RelVs.two ha
   cases hc; cases hd
   unfold Q.strings_TrimLeft.f at h1
   by_cases hc : t.data.toList.all (fun b => decide (b.toNat < 128)) = true ∧ t.size < 4294967281
   · rw [if_pos hc] at h1
     obtain rfl := Option.some.inj h1
     refine (Any.strings_TrimLeft_laid Tryz.layTrimLeft (by kernel_rfl) s t w hc.2 fun j b hb => ?_).mono fun e w' ⟨h3,h4⟩ => ⟨_,h3,h4,.str _⟩
     have := List.all_eq_true.1 hc.1 b (List.mem_of_getElem? hb)
     simpa using this
   · rw [if_neg hc] at h1; cases h1
 · cases h
def indexByteF : List (AVal U) → Option (AVal U)
 | [.str s,.int .u8 x] => (Q.strings_IndexByte.f s x).bind fun r => some (.int .i64 r)
 | _ => none
theorem indexByte_ok : CallOk (R := Rr U) Tryz.prog C 114 (asExt indexByteF) := by
 refine callOk_ext fun args v h g w cs ha hi hw => ?_
 unfold indexByteF at h
 split at h
 · rename_i s x
   obtain ⟨r,h1,h2⟩ := bind2 h
   obtain rfl := Option.some.inj h2
   obtain ⟨c,d,rfl,hc,hd⟩ := RelVs.two ha
   cases hc; cases hd
   obtain rfl := Option.some.inj h1
   exact (Any.strings_IndexByte Tryz.layIndexByte s x w).mono fun e w' ⟨h3,h4⟩ => ⟨_,h3,h4 ▸ Below.refl _ _,.int _ _⟩
 · cases h
theorem join_extra : Builder.Extra Tryz.prog Tryz.layJoin_ren where
 sizeBuilder := by kernel_rfl
 liesBuilder := by kernel_rfl
 t5 := Tryz.underlying5
 a5 := Tryz.isAgg5
 z5 := Tryz.sizeOf5
 v5 := Tryz.zeroValue5
 infoByte := by kernel_rfl
 cellsByte := by kernel_rfl
 sizeByte := by kernel_rfl
 neB5 := by decide
theorem RelVs.strs {g : Gh} : ∀ {l : List ByteArray} {vs : List Value},RelVs C g (cellsAll C .str l) vs → vs = l.map Value.string
 | [],vs,h => by cases h; rfl
 | s :: r,vs,h => by
  cases h with
  | cons hv hs => cases hv; rw [RelVs.strs hs]; rfl
def joinF : List (AVal U) → Option (AVal U)
 | [.sl .str l p,.str s] => (Q.strings_Join.f l s).bind fun r => some (.str r)
 | _ => none
theorem join_ok : CallOk (R := Rr U) Tryz.prog C 117 (asExt joinF) := by
 refine callOk_ext fun args v h g w cs ha hi hw => ?_
 unfold joinF at h
 split at h
 · rename_i l p s
   obtain ⟨r,h1,h2⟩ := bind2 h
   obtain rfl := Option.some.inj h2
   obtain ⟨c,d,rfl,hc,hd⟩ := RelVs.two ha
   cases hd
   unfold Q.strings_Join.f at h1
   by_cases hk : l.length ≤ 140737488355328 ∧ (Lib.join (l.map (·.data.toList)) s.data.toList).length ≤ 140737488355328
   · rw [if_pos hk] at h1
     obtain rfl := Option.some.inj h1
     cases hc with
     | sle => exact (Any.strings_Join_none Tryz.layJoin join_extra (some _) 0 s w).mono fun e w' h3 => ⟨_,h3.1,h3.2 ▸ Below.refl _ _,.str _⟩
     | sl0 => exact (Any.strings_Join_none Tryz.layJoin join_extra none 0 s w).mono fun e w' h3 => ⟨_,h3.1,h3.2 ▸ Below.refl _ _,.str _⟩
     | sl hs hm hl hp =>
      rename_i blk off cap vs
      obtain rfl := RelVs.strs hs
      cases l with
      | nil => exact (Any.strings_Join_none Tryz.layJoin join_extra (some ⟨blk,off,none⟩) cap s w).mono fun e w' h3 => ⟨_,h3.1,h3.2 ▸ Below.refl _ _,.str _⟩
      | cons x0 l0 =>
       have hcell : ∀ (j : Nat) (x : ByteArray),(x0 :: l0)[j]? = some x → w.cell? ⟨blk,off + j,none⟩ = some (.string x) := fun j x hx => hi _ _ _ (hm j (.string x) (by rw [List.getElem?_map,hx]; rfl))
       refine (Any.strings_Join Tryz.layJoin join_extra blk off cap (x0 :: l0) s w hcell ?_ hk.1 hl hk.2).mono fun e w' ⟨h3,h4⟩ => ⟨_,h3,h4,.str _⟩
       have h5 := hcell 0 x0 rfl
       have := World.block_lt_of_cell? w _ h5
       simpa using this
   · rw [if_neg hk] at h1; cases h1
 · cases h
/-! ### Go's decoder -/
set_option maxHeartbeats 2000000 in
set_option maxRecDepth 100000 in
theorem rune_slow_zero (A0 : Option Addr) (c0 : Nat) (w : World) :
 Calls Tryz.prog 174 #[.slice A0 0 c0] w fun e w' => e = .returned (.tuple #[.int .i32 65533,.int .i64 0]) ∧ w' = w := by
 go_enter Tryz.func174,Tryz.ntmps174
 go_wp2
 go_ret2
 exact ⟨rfl,rfl⟩
set_option maxHeartbeats 2000000 in
set_option maxRecDepth 100000 in
theorem rune_zero (A0 : Option Addr) (c0 : Nat) (w : World) :
 Calls Tryz.prog 166 #[.slice A0 0 c0] w fun e w' => e = .returned (.tuple #[.int .i32 65533,.int .i64 0]) ∧ w' = w := by
 go_enter Tryz.func166,Tryz.ntmps166
 go_wp2
 go_loop [8] (fun i => i = .int .i64 0) (fun _ => 0)
 case atStart => rfl
 case round =>
  subst hrel
  go_wp2_with (go_at_call 174; refine (rune_slow_zero _ _ _).mono ?_; rintro e w' ⟨rfl,rfl⟩)
  go_ret2
  exact ⟨rfl,rfl⟩
theorem RelVs.nums {g : Gh} {k : IntKind} : ∀ {l : List Int} {vs : List Value},RelVs C g (cellsAll C (.int k) l) vs → vs = l.map (Value.int k)
 | [],vs,h => by cases h; rfl
 | s :: r,vs,h => by
  cases h with
  | cons hv hs => cases hv; rw [RelVs.nums hs]; rfl
def runeF : List (AVal U) → Option (AVal U)
 | [.sl (.int .u8) l p] => (Q.utf8_DecodeRune.f l).bind fun r => some (.tup [.int .i32 r.1,.int .i64 r.2])
 | _ => none
theorem rune_ok : CallOk (R := Rr U) Tryz.prog C 166 (asExt runeF) := by
 refine callOk_ext fun args v h g w cs ha hi hw => ?_
 unfold runeF at h
 split at h
 · rename_i l p
   obtain ⟨r,h1,h2⟩ := bind2 h
   obtain rfl := Option.some.inj h2
   obtain ⟨c,rfl,hc⟩ := RelVs.one ha
   obtain ⟨w0,hw1,hw2⟩ := hw
   have hL : Laid w := Laid_below hw2.1 hw1
   unfold Q.utf8_DecodeRune.f at h1
   by_cases hb : (l.all fun x => decide (0 ≤ x) && decide (x < 256)) = true
   · rw [if_pos hb] at h1
     obtain rfl := Option.some.inj h1
     have fin : ∀ {a b : Int} {g : Gh},RelV C g (.tup [.int .i32 a,.int .i64 b]) (.tuple #[.int .i32 a,.int .i64 b]) := fun {a b g} => .tup (.cons (.int _ _) (.cons (.int _ _) .nil))
     cases hc with
     | sle => exact (rune_zero (some _) 0 w).mono fun e w' ⟨h3,h4⟩ => ⟨_,h3,h4 ▸ Below.refl _ _,fin⟩
     | sl0 => exact (rune_zero none 0 w).mono fun e w' ⟨h3,h4⟩ => ⟨_,h3,h4 ▸ Below.refl _ _,fin⟩
     | sl hs hm hl hp =>
      rename_i blk off cap vs
      obtain rfl := RelVs.nums hs
      have hsz : (strOfNums l).size = l.length := strOfNums_size l
      cases l with
      | nil => exact (rune_zero (some ⟨blk,off,none⟩) cap w).mono fun e w' ⟨h3,h4⟩ => ⟨_,h3,h4 ▸ Below.refl _ _,fin⟩
      | cons x0 l0 =>
       have hp : ∀ j,j < (strOfNums (x0 :: l0)).size → w.cell? ⟨blk,off + j,none⟩ = some (.int .u8 ((strOfNums (x0 :: l0)).get! j).toNat) := by
        intro j hj
        rw [hsz] at hj
        have hx : (x0 :: l0)[j]? = some (x0 :: l0)[j] := List.getElem?_eq_getElem hj
        rw [hi _ _ _ (hm j (.int .u8 (x0 :: l0)[j]) (by rw [List.getElem?_map,hx]; rfl))]
        have hq : 0 ≤ (x0 :: l0)[j] ∧ (x0 :: l0)[j] < 256 := by
         have := List.all_eq_true.1 hb _ (List.getElem_mem hj)
         simpa using this
        have key : ∀ z : Int,0 ≤ z ∧ z < 256 → some (Value.int .u8 z) = some (Value.int .u8 ((UInt8.ofNat z.toNat).toNat : Int)) := by
         intro z hz
         simp
         omega
        rw [strOfNums_get! (x0 :: l0) j hj]
        exact key _ hq
       have C := Any7.utf8_DecodeRune Tryz.layDecodeRune (strOfNums (x0 :: l0)) blk off cap w hL hp
       rw [hsz] at C
       exact C.mono fun e w' ⟨h3,h4⟩ => ⟨_,h3,h4,fin⟩
   · rw [if_neg hb] at h1; cases h1
 · cases h
/-! ### their words -/
section
variable {R : Type}
def trimS : List (AVal U) → St U → (Res U → St U → Option R) → Option R := fun args st K => match args with
 | [.str s,.str t] => (Q.strings_TrimLeft.f s t).bind fun r => K (.ret (.str r)) st
 | _ => none
def indexByteS : List (AVal U) → St U → (Res U → St U → Option R) → Option R := fun args st K => match args with
 | [.str s,.int .u8 x] => (Q.strings_IndexByte.f s x).bind fun r => K (.ret (.int .i64 r)) st
 | _ => none
def joinS : List (AVal U) → St U → (Res U → St U → Option R) → Option R := fun args st K => match args with
 | [.sl .str l p,.str s] => (Q.strings_Join.f l s).bind fun r => K (.ret (.str r)) st
 | _ => none
def runeS : List (AVal U) → St U → (Res U → St U → Option R) → Option R := fun args st K => match args with
 | [.sl (.int .u8) l p] => (Q.utf8_DecodeRune.f l).bind fun r => K (.ret (.tup [.int .i32 r.1,.int .i64 r.2])) st
 | _ => none
end
theorem callOk_by {f : FuncId} {F : List (AVal U) → Option (AVal U)} {S : List (AVal U) → St U → (Res U → St U → Option (Rr U)) → Option (Rr U)} (h : CallOk (R := Rr U) Tryz.prog C f (asExt F)) (e : ∀ args st K r,S args st K = some r → asExt (R := Rr U) F args st K = some r) : CallOkL Tryz.prog C f S :=
 fun args cs n K r h1 => h args (lcSt cs n) K r (e _ _ _ _ h1)
theorem trimS_ok : CallOkL (R := Rr U) Tryz.prog C 36 trimS := callOk_by trim_ok fun args st K r h => by
 unfold trimS at h
 unfold asExt trimF
 split at h
 · obtain ⟨v,h1,h2⟩ := bind2 h
   simp [h1,h2]
 · cases h
theorem indexByteS_ok : CallOkL (R := Rr U) Tryz.prog C 114 indexByteS := callOk_by indexByte_ok fun args st K r h => by
 unfold indexByteS at h
 unfold asExt indexByteF
 split at h
 · obtain ⟨v,h1,h2⟩ := bind2 h
   simp [h1,h2]
 · cases h
theorem joinS_ok : CallOkL (R := Rr U) Tryz.prog C 117 joinS := callOk_by join_ok fun args st K r h => by
 unfold joinS at h
 unfold asExt joinF
 split at h
 · obtain ⟨v,h1,h2⟩ := bind2 h
   simp [h1,h2]
 · cases h
theorem runeS_ok : CallOkL (R := Rr U) Tryz.prog C 166 runeS := callOk_by rune_ok fun args st K r h => by
 unfold runeS at h
 unfold asExt runeF
 split at h
 · obtain ⟨v,h1,h2⟩ := bind2 h
   simp [h1,h2]
 · cases h
end
end Go.Proofs.YtbcpnpbkbndkjaaGreatDoor.Ev
end
section
/- What the lists of functions share: words of functions, contexts, rounds. -/
set_option linter.unusedVariables false
namespace Go.Proofs.YtbcpnpbkbndkjaaGreatDoor.Ev
open Go
abbrev W : Ty := .pair (.int .i64) (.pair .str (.int .i64))
abbrev Spec := List (AVal U0) → St U0 → (Res U0 → St U0 → Option (Rr U0)) → Option (Rr U0)
abbrev SpecL := List (FuncId × Bool × Spec)
def extL : List (FuncId × Bool × Spec) → FuncId → Option (Bool × Spec)
 | [],_ => none
 | s :: r,f => match Nat.beq s.1 f with
  | true => some s.2
  | false => extL r f
noncomputable def cxOf (l : List (FuncId × Bool × Spec)) : Cx U0 (Rr U0) := ⟨TT U0,FT,extL l,live0,C0,eqs0⟩
/-- Functions that call each other. -/
def recL : List (FuncId × Spec) → FuncId → Spec
 | [],_ => fun _ _ _ => none
 | s :: r,f => match Nat.beq s.1 f with
  | true => s.2
  | false => recL r f
open Classical in
/-- What a function with so many rounds at most comes to. -/
noncomputable def lim {α : Type} (X : Nat → Option α) : Option α := if h : ∃ k v,k ≤ 1000000 ∧ X k = some v then X h.choose else none
def specs_lib0 : List (FuncId × Bool × Spec) := [(36,false,trimS),(114,false,indexByteS),(117,false,joinS),(166,false,runeS)]
end Go.Proofs.YtbcpnpbkbndkjaaGreatDoor.Ev
end
section
/- How the evaluator's trees are the functions that were printed: what both proofs share. -/
set_option linter.unusedVariables false
namespace Go.Proofs.YtbcpnpbkbndkjaaGreatDoor.Ev
open Go Go.RowKit Go.Proofs.YtbcpnpbkbndkjaaGreatDoorW.PrintWords

theorem seq_list (x y : ByteArray) : (seq x y = true) = (x.toList = y.toList) := by
  rw [ByteArray.toList_eq, ByteArray.toList_eq]
  unfold seq
  simp
theorem seq_false (x y : ByteArray) : (seq x y = false) = ¬ (x.toList = y.toList) := by
  rw [← seq_list]
  cases seq x y <;> simp
theorem ba_list (l : List UInt8) : (ByteArray.mk ⟨l⟩).toList = l := by rw [ByteArray.toList_eq]
theorem ite_or (c : Prop) [Decidable c] (b : Bool) : ((if c then true else b) = true) = (c ∨ b = true) := by by_cases h : c <;> simp [h]
theorem ite_and (c : Prop) [Decidable c] (b : Bool) : ((if c then b else false) = true) = (c ∧ b = true) := by by_cases h : c <;> simp [h]
theorem wrap_64 (x : Int) : IntKind.i64.wrap x = wrap64 x := by
  unfold wrap64; exact IntKind.wrap_i64 x
theorem bt_eq (s : ByteArray) (i : Int) : Ev.bt s i = Go.Proofs.YtbcpnpbkbndkjaaGreatDoorW.PrintWords.bt s i := rfl
theorem nth_bind {β : Type} (l : List Int) (i : Int) (f : Int → Option β) (h0 : 0 ≤ i) (h1 : i < l.length) : (nth l i.toNat).bind f = f (rd l i) := by
  rw [nth_get]
  unfold rd
  rw [List.getD_eq_getElem?_getD]
  have : i.toNat < l.length := by omega
  rw [List.getElem?_eq_getElem this]
  rfl

theorem toBytes_len (s : ByteArray) : (toBytes s).length = s.size := by
  unfold toBytes
  rw [List.length_map, Array.length_toList]
  rfl
theorem nth_bytes (s : ByteArray) (i : Int) (h0 : 0 ≤ i) (h1 : i < (s.size : Int)) : nth (toBytes s) i.toNat = some (Go.Proofs.YtbcpnpbkbndkjaaGreatDoorW.PrintWords.bt s i) := by
  have hlt : i.toNat < s.size := by omega
  rw [nth_get]
  unfold toBytes Go.Proofs.YtbcpnpbkbndkjaaGreatDoorW.PrintWords.bt
  rw [List.getElem?_map, dif_pos hlt, Array.getElem?_toList]
  have : s.data[i.toNat]? = some (s[i.toNat]'hlt) := by
    rw [Array.getElem?_eq_getElem (by exact hlt)]
    rfl
  rw [this]
  rfl
theorem wrap_8 (x : Int) : IntKind.u8.wrap x = x % 256 := IntKind.wrap_u8 x
theorem wrap_u64_mod (x : Int) : IntKind.u64.wrap (x % 256) = x % 256 := by
  rw [IntKind.wrap_u64]; omega
theorem ofBytes_eq (l : List Int) : ofBytes l = strOfNums l := rfl
theorem false_or_b (b : Bool) : ((if false = true then true else b) = true) = (b = true) := by simp
theorem true_and_b (b : Bool) : ((if true = true then b else false) = true) = (b = true) := by simp
theorem shr_6 (r : Int) : r.fdiv ((2 : Int) ^ min (Int.toNat (6 : Int)) IntKind.i64.bits) = r / 64 := by
  rw [show ((2 : Int) ^ min (Int.toNat (6 : Int)) IntKind.i64.bits) = 64 from by decide]; exact Int.fdiv_eq_ediv_of_nonneg r (by decide)
theorem shr_12 (r : Int) : r.fdiv ((2 : Int) ^ min (Int.toNat (12 : Int)) IntKind.i64.bits) = r / 4096 := by
  rw [show ((2 : Int) ^ min (Int.toNat (12 : Int)) IntKind.i64.bits) = 4096 from by decide]; exact Int.fdiv_eq_ediv_of_nonneg r (by decide)
theorem shr_18 (r : Int) : r.fdiv ((2 : Int) ^ min (Int.toNat (18 : Int)) IntKind.i64.bits) = r / 262144 := by
  rw [show ((2 : Int) ^ min (Int.toNat (18 : Int)) IntKind.i64.bits) = 262144 from by decide]; exact Int.fdiv_eq_ediv_of_nonneg r (by decide)
theorem wrap64_mod (x : Int) : wrap64 (x % 256) = x % 256 := by unfold wrap64; omega
theorem nth_rd (l : List Int) (i : Int) (h0 : 0 ≤ i) (h1 : i < l.length) : nth l i.toNat = some (rd l i) := by
  have := nth_bind l i some h0 h1
  cases e : nth l i.toNat with
  | none => rw [e] at this; cases this
  | some x => rw [e] at this; exact this
theorem nth_strs (l : List ByteArray) (i : Int) (h0 : 0 ≤ i) (h1 : i < l.length) : nth l i.toNat = some (rdOf ByteArray.empty l i) := by
  have hlt : i.toNat < l.length := by omega
  rw [nth_get, List.getElem?_eq_getElem hlt]
  unfold rdOf
  rw [List.getD_eq_getElem?_getD, List.getElem?_eq_getElem hlt]
  rfl
theorem toBytes_eq (s : ByteArray) : toBytes s = Go.Proofs.YtbcpnpbkbndkjaaGreatDoorW.PrintWords.bytesOf s := rfl
theorem toNat0 : Int.toNat 0 = 0 := rfl
theorem toNat1 : Int.toNat 1 = 1 := rfl
theorem toNat2 : Int.toNat 2 = 2 := rfl
theorem nth_rd0 (l : List Int) (h1 : 0 < (l.length : Int)) : nth l 0 = some (rd l 0) := nth_rd l 0 (by omega) h1
theorem bindE {α β : Type} {o : Option α} {f : α → Option β} {v : β} (h : o.bind f = some v) : ∃ a, o = some a ∧ f a = some v := Option.bind_eq_some_iff.1 h
theorem lim_some {α : Type} {X : Nat → Option α} {v : α} (h : lim X = some v) : ∃ k, k ≤ 1000000 ∧ X k = some v := by
  unfold lim at h
  split at h
  · rename_i q
    obtain ⟨v', h1, h2⟩ := q.choose_spec
    exact ⟨_, h1, h⟩
  · cases h
theorem leO_le {α : Type} {X : Nat → Option α} (hm : ∀ k, LeO (X k) (X (k + 1))) {v : α} : ∀ {d k : Nat}, X k = some v → X (k + d) = some v
  | 0, _, h => h
  | d + 1, k, h => hm (k + d) _ (leO_le hm h)
theorem lim_of {α : Type} {X : Nat → Option α} (hm : ∀ k, LeO (X k) (X (k + 1))) {v : α} {k : Nat} (hk : k ≤ 1000000) (h : X k = some v) : lim X = some v := by
  unfold lim
  have q : ∃ k v, k ≤ 1000000 ∧ X k = some v := ⟨k, v, hk, h⟩
  rw [dif_pos q]
  obtain ⟨v', h1, h2⟩ := q.choose_spec
  generalize q.choose = k' at h1 h2
  have e1 := leO_le hm (d := k') h
  have e2 := leO_le hm (d := k) h2
  rw [Nat.add_comm, e1] at e2
  rw [h2, e2]

def AllOk (l : List (FuncId × Bool × Spec)) : Prop := ∀ x ∈ l, FnOk Tryz.prog x.1 ∧ CallOkL Tryz.prog C0 x.1 x.2.2
theorem extL_ok : ∀ {l : List (FuncId × Bool × Spec)}, AllOk l → ∀ f s, extL l f = some s → FnOk Tryz.prog f ∧ CallOkL Tryz.prog C0 f s.2
  | [], _, f, s, h => by cases h
  | x :: r, ha, f, s, h => by
    unfold extL at h
    cases e : Nat.beq x.1 f with
    | true =>
      rw [e] at h
      obtain rfl := Option.some.inj h
      rw [← Nat.eq_of_beq_eq_true e]
      exact ha x (List.mem_cons_self ..)
    | false =>
      rw [e] at h
      exact extL_ok (fun y hy => ha y (List.mem_cons_of_mem _ hy)) f s h

theorem funcs_find {f : FuncId} {fn : Func} (h : FT f = some fn) : Tryz.prog.funcs[f]? = some fn ∧ (fn.name == "runtime.NumGoroutine") = false := ft_ok ft_holds f fn h

theorem ok_ext (e : FuncId → Option (Bool × Spec)) : Ok Tryz.prog (⟨TT U0, FT, e, live0, C0, eqs0⟩ : Cx U0 (Rr U0)) where
  tt := tt_all tt_holds
  codec := codecOf_ok shapes
  eqs := eqs_ok eqs_holds
  ft := fun f fn h => funcs_find h
  mixed := by kernel_rfl

theorem cok_of {l : List (FuncId × Bool × Spec)} (h : AllOk l) : Calls.Ok Tryz.prog (cxOf l) noCalls := noCalls_ok fun f s hs => extL_ok h f s hs

theorem fnOk_of {f : FuncId} (h : ((FT f).bind (·.body)).isSome = true) : FnOk Tryz.prog f := by
  cases e : FT f with
  | none => rw [e] at h; cases h
  | some fn =>
    rw [e] at h
    obtain ⟨h1, h2⟩ := funcs_find e
    exact ⟨fn, h1, h2, h⟩

theorem lib_ok0 : AllOk specs_lib0 := by
  intro x hx
  unfold specs_lib0 at hx
  simp only [List.mem_cons, List.not_mem_nil, or_false] at hx
  rcases hx with rfl | rfl | rfl | rfl
  · exact ⟨fnOk_of (by kernel_rfl), trimS_ok⟩
  · exact ⟨fnOk_of (by kernel_rfl), indexByteS_ok⟩
  · exact ⟨fnOk_of (by kernel_rfl), joinS_ok⟩
  · exact ⟨fnOk_of (by kernel_rfl), runeS_ok⟩

theorem allOk_cons {f : FuncId} {kp : Bool} {S : Spec} {l : List (FuncId × Bool × Spec)} (h : AllOk l) (h1 : FnOk Tryz.prog f) (h2 : CallOkL Tryz.prog C0 f S) : AllOk ((f, kp, S) :: l) := by
  intro x hx
  rcases List.mem_cons.1 hx with rfl | hx
  · exact ⟨h1, h2⟩
  · exact h x hx
theorem recL_ok : ∀ {l : List (FuncId × Spec)} {f : FuncId}, (∀ x ∈ l, FnOk Tryz.prog x.1 ∧ CallOkL Tryz.prog C0 x.1 x.2) → CallOkL Tryz.prog C0 f (recL l f) ∧ ∀ args st K r, recL l f args st K = some r → FnOk Tryz.prog f
  | [], f, _ => ⟨fun args cs n K r h => (by cases h), fun args st K r h => (by cases h)⟩
  | s :: l, f, hl => by
    have ih := recL_ok (l := l) (f := f) fun x hx => hl x (List.mem_cons_of_mem _ hx)
    have e0 : recL (s :: l) f = (match Nat.beq s.1 f with | true => s.2 | false => recL l f) := rfl
    cases e : Nat.beq s.1 f with
    | true =>
      rw [e] at e0
      have h1 := hl s (List.mem_cons_self ..)
      rw [Nat.eq_of_beq_eq_true e] at h1
      rw [e0]
      exact ⟨h1.2, fun _ _ _ _ _ => h1.1⟩
    | false =>
      rw [e] at e0
      rw [e0]
      exact ih
theorem rec_cok {l : List (FuncId × Spec)} {L : List (FuncId × Bool × Spec)} (h : AllOk L) (hl : ∀ x ∈ l, FnOk Tryz.prog x.1 ∧ CallOkL Tryz.prog C0 x.1 x.2) : Calls.Ok Tryz.prog (cxOf L) (recL l) :=
  ⟨fun f s hs => extL_ok h f s hs, fun f => (recL_ok hl).1, fun f args st K r h => (recL_ok hl).2 args st K r h⟩
/-! ### a function's proof in few words -/
theorem okG {F : Nat → Option (Rr U0)} {K : Res U0 → St U0 → Option (Rr U0)} {a : Res U0} {b : St U0} {r : Rr U0} (h2 : K a b = some r) (e : ∃ m, F m = some (a, b)) : ∃ m res st', F m = some (res, st') ∧ K res st' = some r := e.elim fun m h => ⟨m, a, b, h, h2⟩
theorem okP {c : Prop} [Decidable c] {F : Nat → Option (Rr U0)} {K : Res U0 → St U0 → Option (Rr U0)} {a a' : Res U0} {b b' : St U0} {r : Rr U0} (h2 : (if c then K a b else K a' b') = some r) (e : ∃ m, F m = if c then some (a, b) else some (a', b')) : ∃ m res st', F m = some (res, st') ∧ K res st' = some r := by
  obtain ⟨m, e⟩ := e
  by_cases hc : c
  · rw [if_pos hc] at h2 e; exact ⟨m, _, _, e, h2⟩
  · rw [if_neg hc] at h2 e; exact ⟨m, _, _, e, h2⟩
theorem okR {L : List (FuncId × Bool × Spec)} {l : List (FuncId × Spec)} {R : FuncId → Spec} {cx : Cx U0 (Rr U0)} {f : FuncId} {s : Spec} (hc : cxOf L = cx) (hr : recL l = R) (p : AllOk L) (hl : ∀ x ∈ l, FnOk Tryz.prog x.1 ∧ CallOkL Tryz.prog C0 x.1 x.2)
    (h : ∀ args cs n K r, s args (lcSt cs n) K = some r → ∃ m res st', callX false (fnF cx R m f) args (lcSt cs n) out = some (res, st') ∧ K res st' = some r) : CallOkL Tryz.prog C0 f s := by
  subst hc hr
  exact sealed_of (kp := false) (ok_ext _) (rec_cok p hl) h
theorem okS {L : List (FuncId × Bool × Spec)} {cx : Cx U0 (Rr U0)} {f : FuncId} {s : Spec} (hc : cxOf L = cx) (p : AllOk L) (hf : ((FT f).bind (·.body)).isSome = true)
    (h : ∀ args cs n K r, s args (lcSt cs n) K = some r → ∃ m res st', callX false (fnF cx noCalls m f) args (lcSt cs n) out = some (res, st') ∧ K res st' = some r) : AllOk ((f, false, s) :: L) := by
  subst hc
  exact allOk_cons p (fnOk_of hf) (sealed_of (kp := false) (ok_ext _) (cok_of p) h)
end Go.Proofs.YtbcpnpbkbndkjaaGreatDoor.Ev
end
section
/- Go's library functions of texts that look for a text: Split, Cut. -/
set_option linter.unusedVariables false
namespace Go.Proofs.YtbcpnpbkbndkjaaGreatDoor.Ev
open Go Go.RowKit
section
variable {U : Nat → Type} {C : Codec U}
def splitW (s sep : ByteArray) : List ByteArray := Lib.splitB sep 0 (Lib.countB s sep) s
def splitF : List (AVal U) → Option (AVal U)
 | [.str s,.str sep] => if s.size < 4294967281 ∧ 1 ≤ sep.size then some (.sl .str (splitW s sep) .exact) else none
 | _ => none
theorem cellsAll_strs : ∀ l : List ByteArray,cellsAll C .str l = l.map fun s => AVal.str s
 | [] => rfl
 | s :: r => by
  have := cellsAll_strs r
  unfold cellsAll at this ⊢
  rw [List.flatMap_cons,this]; rfl
theorem RelVs.ofStrs {g : Gh} : ∀ l : List ByteArray,RelVs C g (l.map fun s => AVal.str s) (l.map Value.string)
 | [] => .nil
 | s :: r => .cons (.str s) (RelVs.ofStrs r)
theorem split_ok : CallOk (R := Rr U) Tryz.prog C 87 (asExt splitF) := by
 refine callOk_ext fun args v h g w cs ha hi hw => ?_
 unfold splitF at h
 split at h
 · rename_i s sep
   split at h
   · rename_i hs
     obtain rfl := Option.some.inj h
     obtain ⟨c,d,rfl,hc,hd⟩ := RelVs.two ha
     cases hc
     cases hd
     obtain ⟨w0,hw1,hw2⟩ := hw
     obtain ⟨m,hm⟩ := (Tryz.laySplit).s1_3 w0 hw2.2
     have hlt := World.block_lt_of_cell? _ _ hm
     have hm' : w.cell? _ = _ := (cell_below hw1 hlt).1.trans hm
     refine (Any.strings_Split { Tryz.laySplit with } (Tryz.laySplit).i9 s sep m w hs.1 hm' hs.2).mono fun e w' ⟨h3,h4⟩ => ?_
     subst h4
     have hb : RowKit.Below w.heap.size w (w.alloc (.cells ((Lib.splitB sep 0 (Lib.countB s sep) s).map Value.string).toArray (Tryz.laySplit_ren.t 9))) := Below.alloc (Below.refl _ _) (Nat.le_refl _) _
     refine ⟨_,h3,hb,?_⟩
     have hlen : (Lib.splitB sep 0 (Lib.countB s sep) s).length = Lib.countB s sep + 1 := Lib.splitB_all sep hs.2 0 _ s rfl
     have := RelV.sl (C := C) (g := g.grow w (w.alloc (.cells ((Lib.splitB sep 0 (Lib.countB s sep) s).map Value.string).toArray (Tryz.laySplit_ren.t 9)))) (t := .str) (l := splitW s sep) (p := .exact) (blk := w.heap.size) (off := 0) (cap := Lib.countB s sep + 1) (vs := (splitW s sep).map Value.string)
      (by rw [cellsAll_strs]; exact RelVs.ofStrs _) (fun j v hv => grow_new (Nat.le_refl _) (by
       rw [World.cell?_alloc_at _ _ _ _ rfl,Nat.zero_add,List.getElem?_toArray]; exact hv)) (by unfold splitW; omega) (show Lib.countB s sep + 1 = _ by unfold splitW; omega)
     unfold splitW at this ⊢
     rw [hlen] at this
     exact this
   · cases h
 · cases h
def cutF : List (AVal U) → Option (AVal U)
 | [.str s,.str sep] => if s.size < 4294967281 then some (.tup [.str ⟨(Lib.cut s.data.toList sep.data.toList).1.toArray⟩,.str ⟨(Lib.cut s.data.toList sep.data.toList).2.1.toArray⟩,.bool (Lib.cut s.data.toList sep.data.toList).2.2]) else none
 | _ => none
theorem cut_ok : CallOk (R := Rr U) Tryz.prog C 133 (asExt cutF) := by
 refine callOk_ext fun args v h g w cs ha hi hw => ?_
 unfold cutF at h
 split at h
 · rename_i s sep
   split at h
   · rename_i hs
     obtain rfl := Option.some.inj h
     obtain ⟨c,d,rfl,hc,hd⟩ := RelVs.two ha
     cases hc
     cases hd
     obtain ⟨w0,hw1,hw2⟩ := hw
     obtain ⟨m,hm⟩ := (Tryz.layCut).s1_3 w0 hw2.2
     have hlt := World.block_lt_of_cell? _ _ hm
     have hm' : w.cell? _ = _ := (cell_below hw1 hlt).1.trans hm
     refine (Any.strings_Cut { Tryz.layCut with } s sep m w hs hm').mono fun e w' ⟨h3,n,h4⟩ => ?_
     subst h4
     exact ⟨_,h3,⟨rfl,rfl,rfl,Nat.le_refl _,fun _ _ => rfl⟩,.tup (.cons (.str _) (.cons (.str _) (.cons (.bool _) .nil)))⟩
   · cases h
 · cases h
section
variable {R : Type}
def splitS : List (AVal U) → St U → (Res U → St U → Option R) → Option R := fun args st K => match args with
 | [.str s,.str sep] => if s.size < 4294967281 ∧ 1 ≤ sep.size then K (.ret (.sl .str (splitW s sep) .exact)) st else none
 | _ => none
def cutS : List (AVal U) → St U → (Res U → St U → Option R) → Option R := fun args st K => match args with
 | [.str s,.str sep] => if s.size < 4294967281 then K (.ret (.tup [.str ⟨(Lib.cut s.data.toList sep.data.toList).1.toArray⟩,.str ⟨(Lib.cut s.data.toList sep.data.toList).2.1.toArray⟩,.bool (Lib.cut s.data.toList sep.data.toList).2.2])) st else none
 | _ => none
end
theorem splitS_ok : CallOkL (R := Rr U) Tryz.prog C 87 splitS := callOk_by split_ok fun args st K r h => by
 unfold splitS at h
 unfold asExt splitF
 split at h
 · split at h
   · rename_i h1
     rw [if_pos h1]; exact h
   · cases h
 · cases h
theorem cutS_ok : CallOkL (R := Rr U) Tryz.prog C 133 cutS := callOk_by cut_ok fun args st K r h => by
 unfold cutS at h
 unfold asExt cutF
 split at h
 · split at h
   · rename_i h1
     rw [if_pos h1]; exact h
   · cases h
 · cases h
end
end Go.Proofs.YtbcpnpbkbndkjaaGreatDoor.Ev
end
section
/- slices.Clone, at each type; and the words that all lists begin with. -/
set_option linter.unusedVariables false
namespace Go.Proofs.YtbcpnpbkbndkjaaGreatDoor.Ev
open Go Go.RowKit
set_option maxRecDepth 100000
def specs_clone : List (FuncId × Bool × Spec) := []
def specs_lib1 : List (FuncId × Bool × Spec) := (87,true,splitS) :: (133,false,cutS) :: specs_lib0
theorem lib_ok1 : AllOk specs_lib1 := allOk_cons (allOk_cons lib_ok0 (fnOk_of (by kernel_rfl)) cutS_ok) (fnOk_of (by kernel_rfl)) splitS_ok
def specs_lib : List (FuncId × Bool × Spec) := specs_lib1 ++ specs_clone
theorem lib_ok : AllOk specs_lib := by
 intro x hx
 rcases List.mem_append.1 hx with hx | hx
 · exact lib_ok1 x hx
 · unfold specs_clone at hx
   cases hx
end Go.Proofs.YtbcpnpbkbndkjaaGreatDoor.Ev
end
