/- Several texts in one, in their order. -/
import Derived.Test.YtccfmfifnbnlmaaGreatDoorBXmllexBack5
import Derived.Test.YtccfmfifnbnlmaaGreatDoorBXmllexBack6
import Derived.Lib.LaidU8T
import Derived.Lib.Join
import Derived.Lib.SlTrimSet
import Derived.RowKit
import Derived.Shelf.Lays7
import Derived.Shelf.Spec.DecodeRune
import Derived.Shelf.Spec.NilArms
import Derived.Shelf.Small.Strs
import Derived.Shelf.Bytes.SlIndexWhole
import Derived.Shelf.Bytes.SlIndexAt
import Derived.Shelf.Bytes.SlTrim
import Derived.Shelf.Bytes.SlSplit
import Derived.Shelf.Bytes.WriteAny
import Derived.Shelf.Bytes.String
import Derived.Test.YtccfmfifnbnlmaaGreatDoorProg
import Derived.Tactics
import Derived.WalkKit
import Derived.Deep.LoopGhost
import Derived.LoopTactic
section
set_option linter.unusedVariables false
namespace Go.Proofs.YtccfmfifnbnlmaaGreatDoor.Q
open Go.RowKit Go.Proofs.YtccfmfifnbnlmaaGreatDoorH Go.Proofs.YtccfmfifnbnlmaaGreatDoorW.PrintWords Go.Proofs.YtccfmfifnbnlmaaGreatDoorW.PrintLast Go.Proofs.YtccfmfifnbnlmaaGreatDoorW.PrintMore
structure S121 where
 f0 : Int
 f1 : Int
def z121 : S121 := ⟨(0 : Int),(0 : Int)⟩
def rd_T121 (xs : List S121) (i : Int) : S121 := xs.getD i.toNat z121
structure S48 where
 f0 : ByteArray
 f1 : ByteArray
def bytes_Equal.f (l0 : List Int) (l1 : List Int) : Option (Bool) := some ((strOfNums l0).toList == (strOfNums l1).toList)
def bytes_HasPrefix.f (l0 : List Int) (l1 : List Int) : Option (Bool) := if (l0.length : Int) ≥ (l1.length : Int) then (if 0 ≤ (l1.length : Int) then (if (l1.length : Int) ≤ (l0.length : Int) then ((bytes_Equal.f (l0.take ((l1.length : Int) : Int).toNat) l1).bind fun t102 => (some t102)) else (none)) else (none)) else (some false)
def utf8_DecodeRune.f (l0 : List Int) : Option (Int × Int) := if (l0.all fun x => decide (0 ≤ x) && decide (x < 256)) = true then some (((Lib.decodeGo (strOfNums l0)).1 : Int),((Lib.decodeGo (strOfNums l0)).2 : Int)) else none
def chars_Decode.f (l0 : List Int) : Option (Int × Int) := (utf8_DecodeRune.f l0).bind fun bt116 => (if bt116.1 = 65533 then (if bt116.2 ≤ 1 then (some (0,0)) else (some (wrap64 (bt116.1),bt116.2))) else (some (wrap64 (bt116.1),bt116.2)))
def chars_in.l0 : Nat → Int → List (S121) → Int → Int → Option (Bool)
 | 0,_,_,_,_ => none
 | k + 1,x0,x7,x8,x9 => if x9 < x8 then (if 0 ≤ x9 then (if x9 < (x7.length : Int) then (if ((rd_T121 x7 x9).f0) ≤ x0 then (if x0 ≤ ((rd_T121 x7 x9).f1) then (some true) else (chars_in.l0 k x0 x7 x8 (wrap64 (x9 + 1)))) else (chars_in.l0 k x0 x7 x8 (wrap64 (x9 + 1)))) else (none)) else (none)) else (some false)
def chars_in.f (k : Nat) (a0 : Int) (l1 : List (S121)) : Option (Bool) := chars_in.l0 k a0 l1 (l1.length : Int) 0
theorem chars_in.mono_l : ∀ k,(∀ y0 y1 y2 y3,LeO (chars_in.l0 k y0 y1 y2 y3) (chars_in.l0 (k + 1) y0 y1 y2 y3))
 | 0 => fun _ _ _ _ r h => by simp [chars_in.l0] at h
 | k + 1 => by
  have ih0 := chars_in.mono_l k
  · intro y0 y1 y2 y3
    unfold chars_in.l0
    repeat' first
    | (with_reducible exact ih0 _ _ _ _)
    | (with_reducible exact LeO.refl _)
    | (with_reducible exact LeO.none _)
    | (with_reducible refine LeO.ite ?_ ?_)
    | (with_reducible refine LeO.bind ?_ (fun _ => ?_))
    | exact ih0 _ _ _ _
    | exact LeO.none _
    | refine LeO.ite ?_ ?_
    | refine LeO.bind ?_ (fun _ => ?_)
theorem chars_in.mono : ∀ a0 a1 k,LeO (chars_in.f k a0 a1) (chars_in.f (k + 1) a0 a1) := by
 intro a0 a1 k
 have ih0 := chars_in.mono_l k
 unfold chars_in.f
 repeat' first
  | (with_reducible exact ih0 _ _ _ _)
  | (with_reducible exact LeO.refl _)
  | (with_reducible exact LeO.none _)
  | (with_reducible refine LeO.ite ?_ ?_)
  | (with_reducible refine LeO.bind ?_ (fun _ => ?_))
  | exact ih0 _ _ _ _
  | exact LeO.none _
  | refine LeO.ite ?_ ?_
  | refine LeO.bind ?_ (fun _ => ?_)
def chars_First.f (k : Nat) (a0 : Int) : Option (Bool) := if a0 < 128 then (if (Go.bits .or .i64 a0 32) ≥ 97 then (if (Go.bits .or .i64 a0 32) ≤ 122 then (some true) else (some (a0 == 95))) else (some (a0 == 95))) else ((chars_in.f k a0 (([(⟨192,214⟩ : S121),(⟨216,246⟩ : S121),(⟨248,767⟩ : S121),(⟨880,893⟩ : S121),(⟨895,8191⟩ : S121),(⟨8204,8205⟩ : S121),(⟨8304,8591⟩ : S121),(⟨11264,12271⟩ : S121),(⟨12289,55295⟩ : S121),(⟨63744,64975⟩ : S121),(⟨65008,65533⟩ : S121),(⟨65536,983039⟩ : S121)] : List (S121)))).bind fun t123 => (some t123))
theorem chars_First.mono : ∀ a0 k,LeO (chars_First.f k a0) (chars_First.f (k + 1) a0) := by
 intro a0 k
 unfold chars_First.f
 repeat' first
  | (with_reducible exact chars_in.mono _ _ _)
  | (with_reducible exact LeO.refl _)
  | (with_reducible exact LeO.none _)
  | (with_reducible refine LeO.ite ?_ ?_)
  | (with_reducible refine LeO.bind ?_ (fun _ => ?_))
  | exact chars_in.mono _ _ _
  | exact LeO.none _
  | refine LeO.ite ?_ ?_
  | refine LeO.bind ?_ (fun _ => ?_)
def chars_Later.f (k : Nat) (a0 : Int) : Option (Bool) := (chars_First.f k a0).bind fun t124 => (if t124 = true then (some true) else (if a0 = 45 then (some true) else (if a0 = 46 then (some true) else (if a0 = 183 then (some true) else ((chars_in.f k a0 (([(⟨48,57⟩ : S121),(⟨768,879⟩ : S121),(⟨8255,8256⟩ : S121)] : List (S121)))).bind fun t128 => (some t128))))))
theorem chars_Later.mono : ∀ a0 k,LeO (chars_Later.f k a0) (chars_Later.f (k + 1) a0) := by
 intro a0 k
 unfold chars_Later.f
 repeat' first
  | (with_reducible exact chars_First.mono _ _)
  | (with_reducible exact chars_in.mono _ _ _)
  | (with_reducible exact LeO.refl _)
  | (with_reducible exact LeO.none _)
  | (with_reducible refine LeO.ite ?_ ?_)
  | (with_reducible refine LeO.bind ?_ (fun _ => ?_))
  | exact chars_First.mono _ _
  | exact chars_in.mono _ _ _
  | exact LeO.none _
  | refine LeO.ite ?_ ?_
  | refine LeO.bind ?_ (fun _ => ?_)
def xmllex_nameOf.l0 : Nat → List Int → Int → Option (List Int)
 | 0,_,_ => none
 | k + 1,x0,x3 => if 0 ≤ x3 then (if x3 ≤ (x0.length : Int) then ((chars_Decode.f (x0.drop (x3 : Int).toNat)).bind fun bt133 => (if bt133.2 = 0 then (some (x0.take (x3 : Int).toNat)) else (if x3 = 0 then ((chars_First.f k bt133.1).bind fun t138 => (if t138 = true then ((chars_Later.f k bt133.1).bind fun t139 => (if t139 = true then (xmllex_nameOf.l0 k x0 (wrap64 (x3 + bt133.2))) else (some (x0.take (x3 : Int).toNat)))) else (some (x0.take (x3 : Int).toNat)))) else ((chars_Later.f k bt133.1).bind fun t146 => (if t146 = true then (xmllex_nameOf.l0 k x0 (wrap64 (x3 + bt133.2))) else (some (x0.take (x3 : Int).toNat))))))) else (none)) else (none)
def xmllex_nameOf.f (k : Nat) (l0 : List Int) : Option (List Int) := xmllex_nameOf.l0 k l0 0
theorem xmllex_nameOf.mono_l : ∀ k,(∀ y0 y1,LeO (xmllex_nameOf.l0 k y0 y1) (xmllex_nameOf.l0 (k + 1) y0 y1))
 | 0 => fun _ _ r h => by simp [xmllex_nameOf.l0] at h
 | k + 1 => by
  have ih0 := xmllex_nameOf.mono_l k
  · intro y0 y1
    unfold xmllex_nameOf.l0
    repeat' first
    | (with_reducible exact ih0 _ _)
    | (with_reducible exact chars_First.mono _ _)
    | (with_reducible exact chars_Later.mono _ _)
    | (with_reducible exact LeO.refl _)
    | (with_reducible exact LeO.none _)
    | (with_reducible refine LeO.ite ?_ ?_)
    | (with_reducible refine LeO.bind ?_ (fun _ => ?_))
    | exact ih0 _ _
    | exact chars_First.mono _ _
    | exact chars_Later.mono _ _
    | exact LeO.none _
    | refine LeO.ite ?_ ?_
    | refine LeO.bind ?_ (fun _ => ?_)
theorem xmllex_nameOf.mono : ∀ a0 k,LeO (xmllex_nameOf.f k a0) (xmllex_nameOf.f (k + 1) a0) := by
 intro a0 k
 have ih0 := xmllex_nameOf.mono_l k
 unfold xmllex_nameOf.f
 repeat' first
  | (with_reducible exact ih0 _ _)
  | (with_reducible exact chars_First.mono _ _)
  | (with_reducible exact chars_Later.mono _ _)
  | (with_reducible exact LeO.refl _)
  | (with_reducible exact LeO.none _)
  | (with_reducible refine LeO.ite ?_ ?_)
  | (with_reducible refine LeO.bind ?_ (fun _ => ?_))
  | exact ih0 _ _
  | exact chars_First.mono _ _
  | exact chars_Later.mono _ _
  | exact LeO.none _
  | refine LeO.ite ?_ ?_
  | refine LeO.bind ?_ (fun _ => ?_)
def chars_Space.f (a0 : Int) : Option (Bool) := if a0 = 32 then (some true) else (if a0 = 9 then (some true) else (if a0 = 10 then (some true) else (if a0 = 13 then (some true) else (some false))))
def bytes_CutPrefix.f (l0 : List Int) (l1 : List Int) : Option (List Int × Bool) := (bytes_HasPrefix.f l0 l1).bind fun t167 => (if t167 = true then (if 0 ≤ (l1.length : Int) then (if (l1.length : Int) ≤ (l0.length : Int) then (some ((l0.drop ((l1.length : Int) : Int).toNat),true)) else (none)) else (none)) else (some (l0,false)))
def stringslite_HasPrefix.f (a0 : ByteArray) (a1 : ByteArray) : Option (Bool) := if (a0.size : Int) ≥ (a1.size : Int) then (if 0 ≤ (a1.size : Int) then (if (a1.size : Int) ≤ (a0.size : Int) then (some ((a0.extract 0 ((a1.size : Int) : Int).toNat).toList == a1.toList)) else (none)) else (none)) else (some false)
def stringslite_CutPrefix.f (a0 : ByteArray) (a1 : ByteArray) : Option (ByteArray × Bool) := (stringslite_HasPrefix.f a0 a1).bind fun t190 => (if t190 = true then (if 0 ≤ (a1.size : Int) then (if (a1.size : Int) ≤ (a0.size : Int) then (some (a0.extract ((a1.size : Int) : Int).toNat a0.size,true)) else (none)) else (none)) else (some (a0,false)))
def strings_CutPrefix.f (a0 : ByteArray) (a1 : ByteArray) : Option (ByteArray × Bool) := (stringslite_CutPrefix.f a0 a1).bind fun bt191 => (some (bt191.1,bt191.2))
def utf8_ValidRune.j0 : Nat → Int → Bool → Option (Bool)
 | 0,_,_ => none
 | k + 1,x0,x3 => if x3 = true then (some true) else (if 57343 < x0 then (if x0 ≤ 1114111 then (some true) else (some false)) else (some false))
def utf8_ValidRune.f (k : Nat) (a0 : Int) : Option (Bool) := if 0 ≤ a0 then (utf8_ValidRune.j0 k a0 (decide (a0 < 55296))) else (utf8_ValidRune.j0 k a0 false)
theorem utf8_ValidRune.mono_l : ∀ k,(∀ y0 y1,LeO (utf8_ValidRune.j0 k y0 y1) (utf8_ValidRune.j0 (k + 1) y0 y1))
 | 0 => fun _ _ r h => by simp [utf8_ValidRune.j0] at h
 | k + 1 => by
  have ih0 := utf8_ValidRune.mono_l k
  · intro y0 y1
    unfold utf8_ValidRune.j0
    repeat' first
    | (with_reducible exact ih0 _ _)
    | (with_reducible exact LeO.refl _)
    | (with_reducible exact LeO.none _)
    | (with_reducible refine LeO.ite ?_ ?_)
    | (with_reducible refine LeO.bind ?_ (fun _ => ?_))
    | exact ih0 _ _
    | exact LeO.none _
    | refine LeO.ite ?_ ?_
    | refine LeO.bind ?_ (fun _ => ?_)
theorem utf8_ValidRune.mono : ∀ a0 k,LeO (utf8_ValidRune.f k a0) (utf8_ValidRune.f (k + 1) a0) := by
 intro a0 k
 have ih0 := utf8_ValidRune.mono_l k
 unfold utf8_ValidRune.f
 repeat' first
  | (with_reducible exact ih0 _ _)
  | (with_reducible exact LeO.refl _)
  | (with_reducible exact LeO.none _)
  | (with_reducible refine LeO.ite ?_ ?_)
  | (with_reducible refine LeO.bind ?_ (fun _ => ?_))
  | exact ih0 _ _
  | exact LeO.none _
  | refine LeO.ite ?_ ?_
  | refine LeO.bind ?_ (fun _ => ?_)
def utf8_appendRuneNonASCII.j0 : Nat → List Int → Int → Int → Bool → Option (List Int)
 | 0,_,_,_,_ => none
 | k + 1,x0,x1,x5,x25 => if x25 = true then ((some (([Go.bits .or .u8 224 ((x1 / 4096) % 256),Go.bits .or .u8 128 (Go.bits .and .u8 ((x1 / 64) % 256) 63),Go.bits .or .u8 128 (Go.bits .and .u8 ((x1) % 256) 63)] : List Int) : List Int)).bind fun y199 => (if x0.length + y199.length < 140737488355328 then (some (x0 ++ y199)) else (none))) else (if x5 > 65535 then (if x5 ≤ 1114111 then ((some (([Go.bits .or .u8 240 ((x1 / 262144) % 256),Go.bits .or .u8 128 (Go.bits .and .u8 ((x1 / 4096) % 256) 63),Go.bits .or .u8 128 (Go.bits .and .u8 ((x1 / 64) % 256) 63),Go.bits .or .u8 128 (Go.bits .and .u8 ((x1) % 256) 63)] : List Int) : List Int)).bind fun y205 => (if x0.length + y205.length < 140737488355328 then (some (x0 ++ y205)) else (none))) else ((some (([239,191,189] : List Int) : List Int)).bind fun y211 => (if x0.length + y211.length < 140737488355328 then (some (x0 ++ y211)) else (none)))) else ((some (([239,191,189] : List Int) : List Int)).bind fun y217 => (if x0.length + y217.length < 140737488355328 then (some (x0 ++ y217)) else (none))))
def utf8_appendRuneNonASCII.f (k : Nat) (l0 : List Int) (a1 : Int) : Option (List Int) := if ((a1) % 4294967296) ≤ 2047 then ((some (([Go.bits .or .u8 192 ((a1 / 64) % 256),Go.bits .or .u8 128 (Go.bits .and .u8 ((a1) % 256) 63)] : List Int) : List Int)).bind fun y193 => (if l0.length + y193.length < 140737488355328 then (some (l0 ++ y193)) else (none))) else (if ((a1) % 4294967296) < 55296 then (utf8_appendRuneNonASCII.j0 k l0 a1 ((a1) % 4294967296) (decide (((a1) % 4294967296) < 55296))) else (if 57343 < ((a1) % 4294967296) then (utf8_appendRuneNonASCII.j0 k l0 a1 ((a1) % 4294967296) (decide (((a1) % 4294967296) ≤ 65535))) else (utf8_appendRuneNonASCII.j0 k l0 a1 ((a1) % 4294967296) false)))
theorem utf8_appendRuneNonASCII.mono_l : ∀ k,(∀ y0 y1 y2 y3,LeO (utf8_appendRuneNonASCII.j0 k y0 y1 y2 y3) (utf8_appendRuneNonASCII.j0 (k + 1) y0 y1 y2 y3))
 | 0 => fun _ _ _ _ r h => by simp [utf8_appendRuneNonASCII.j0] at h
 | k + 1 => by
  have ih0 := utf8_appendRuneNonASCII.mono_l k
  · intro y0 y1 y2 y3
    unfold utf8_appendRuneNonASCII.j0
    repeat' first
    | (with_reducible exact ih0 _ _ _ _)
    | (with_reducible exact LeO.refl _)
    | (with_reducible exact LeO.none _)
    | (with_reducible refine LeO.ite ?_ ?_)
    | (with_reducible refine LeO.bind ?_ (fun _ => ?_))
    | exact ih0 _ _ _ _
    | exact LeO.none _
    | refine LeO.ite ?_ ?_
    | refine LeO.bind ?_ (fun _ => ?_)
theorem utf8_appendRuneNonASCII.mono : ∀ a0 a1 k,LeO (utf8_appendRuneNonASCII.f k a0 a1) (utf8_appendRuneNonASCII.f (k + 1) a0 a1) := by
 intro a0 a1 k
 have ih0 := utf8_appendRuneNonASCII.mono_l k
 unfold utf8_appendRuneNonASCII.f
 repeat' first
  | (with_reducible exact ih0 _ _ _ _)
  | (with_reducible exact LeO.refl _)
  | (with_reducible exact LeO.none _)
  | (with_reducible refine LeO.ite ?_ ?_)
  | (with_reducible refine LeO.bind ?_ (fun _ => ?_))
  | exact ih0 _ _ _ _
  | exact LeO.none _
  | refine LeO.ite ?_ ?_
  | refine LeO.bind ?_ (fun _ => ?_)
def utf8_AppendRune.f (k : Nat) (l0 : List Int) (a1 : Int) : Option (List Int) := if ((a1) % 4294967296) ≤ 127 then (if l0.length < 140737488355328 then (some (l0 ++ [(a1) % 256])) else (none)) else ((utf8_appendRuneNonASCII.f k l0 a1).bind fun t226 => (some t226))
theorem utf8_AppendRune.mono : ∀ a0 a1 k,LeO (utf8_AppendRune.f k a0 a1) (utf8_AppendRune.f (k + 1) a0 a1) := by
 intro a0 a1 k
 unfold utf8_AppendRune.f
 repeat' first
  | (with_reducible exact utf8_appendRuneNonASCII.mono _ _ _)
  | (with_reducible exact LeO.refl _)
  | (with_reducible exact LeO.none _)
  | (with_reducible refine LeO.ite ?_ ?_)
  | (with_reducible refine LeO.bind ?_ (fun _ => ?_))
  | exact utf8_appendRuneNonASCII.mono _ _ _
  | exact LeO.none _
  | refine LeO.ite ?_ ?_
  | refine LeO.bind ?_ (fun _ => ?_)
def chars_Encode.f (k : Nat) (a0 : Int) : Option (List Int) := if a0 < 0 then (some ([] : List Int)) else (if a0 > 1114111 then (some ([] : List Int)) else ((utf8_ValidRune.f k (wrap32 (a0))).bind fun t229 => (if t229 = true then ((utf8_AppendRune.f k ([] : List Int) (wrap32 (a0))).bind fun t230 => (some t230)) else (some ([] : List Int)))))
theorem chars_Encode.mono : ∀ a0 k,LeO (chars_Encode.f k a0) (chars_Encode.f (k + 1) a0) := by
 intro a0 k
 unfold chars_Encode.f
 repeat' first
  | (with_reducible exact utf8_AppendRune.mono _ _ _)
  | (with_reducible exact utf8_ValidRune.mono _ _)
  | (with_reducible exact LeO.refl _)
  | (with_reducible exact LeO.none _)
  | (with_reducible refine LeO.ite ?_ ?_)
  | (with_reducible refine LeO.bind ?_ (fun _ => ?_))
  | exact utf8_AppendRune.mono _ _ _
  | exact utf8_ValidRune.mono _ _
  | exact LeO.none _
  | refine LeO.ite ?_ ?_
  | refine LeO.bind ?_ (fun _ => ?_)
def strings_IndexByte.f (a0 : ByteArray) (a1 : Int) : Option Int := some (Lib.indexByte a0.data.toList a1.toNat.toUInt8)
def chars_ofXML.f (k : Nat) (a0 : Int) : Option (Bool) := (chars_in.f k a0 (([(⟨32,55295⟩ : S121),(⟨9,10⟩ : S121),(⟨13,13⟩ : S121),(⟨57344,65533⟩ : S121),(⟨65536,1114111⟩ : S121)] : List (S121)))).bind fun t236 => (some t236)
theorem chars_ofXML.mono : ∀ a0 k,LeO (chars_ofXML.f k a0) (chars_ofXML.f (k + 1) a0) := by
 intro a0 k
 unfold chars_ofXML.f
 repeat' first
  | (with_reducible exact chars_in.mono _ _ _)
  | (with_reducible exact LeO.refl _)
  | (with_reducible exact LeO.none _)
  | (with_reducible refine LeO.ite ?_ ?_)
  | (with_reducible refine LeO.bind ?_ (fun _ => ?_))
  | exact chars_in.mono _ _ _
  | exact LeO.none _
  | refine LeO.ite ?_ ?_
  | refine LeO.bind ?_ (fun _ => ?_)
def chars_Wrong.l0 : Nat → List Int → Int → Option (Int)
 | 0,_,_ => none
 | k + 1,x0,x3 => if x3 < (x0.length : Int) then (if 0 ≤ x3 then (if x3 ≤ (x0.length : Int) then ((chars_Decode.f (x0.drop (x3 : Int).toNat)).bind fun bt238 => (if bt238.2 = 0 then (some x3) else ((chars_ofXML.f k bt238.1).bind fun t240 => (if t240 = true then (chars_Wrong.l0 k x0 (wrap64 (x3 + bt238.2))) else (some x3))))) else (none)) else (none)) else (some (-1))
def chars_Wrong.f (k : Nat) (l0 : List Int) : Option (Int) := chars_Wrong.l0 k l0 0
theorem chars_Wrong.mono_l : ∀ k,(∀ y0 y1,LeO (chars_Wrong.l0 k y0 y1) (chars_Wrong.l0 (k + 1) y0 y1))
 | 0 => fun _ _ r h => by simp [chars_Wrong.l0] at h
 | k + 1 => by
  have ih0 := chars_Wrong.mono_l k
  · intro y0 y1
    unfold chars_Wrong.l0
    repeat' first
    | (with_reducible exact ih0 _ _)
    | (with_reducible exact chars_ofXML.mono _ _)
    | (with_reducible exact LeO.refl _)
    | (with_reducible exact LeO.none _)
    | (with_reducible refine LeO.ite ?_ ?_)
    | (with_reducible refine LeO.bind ?_ (fun _ => ?_))
    | exact ih0 _ _
    | exact chars_ofXML.mono _ _
    | exact LeO.none _
    | refine LeO.ite ?_ ?_
    | refine LeO.bind ?_ (fun _ => ?_)
theorem chars_Wrong.mono : ∀ a0 k,LeO (chars_Wrong.f k a0) (chars_Wrong.f (k + 1) a0) := by
 intro a0 k
 have ih0 := chars_Wrong.mono_l k
 unfold chars_Wrong.f
 repeat' first
  | (with_reducible exact ih0 _ _)
  | (with_reducible exact chars_ofXML.mono _ _)
  | (with_reducible exact LeO.refl _)
  | (with_reducible exact LeO.none _)
  | (with_reducible refine LeO.ite ?_ ?_)
  | (with_reducible refine LeO.bind ?_ (fun _ => ?_))
  | exact ih0 _ _
  | exact chars_ofXML.mono _ _
  | exact LeO.none _
  | refine LeO.ite ?_ ?_
  | refine LeO.bind ?_ (fun _ => ?_)
def dossierref05_begins.f (l0 : List Int) (a1 : ByteArray) : Option (Bool) := if (l0.length : Int) ≥ (a1.size : Int) then (if 0 ≤ (a1.size : Int) then (if (a1.size : Int) ≤ (l0.length : Int) then (some ((strOfNums (l0.take ((a1.size : Int) : Int).toNat)).toList == a1.toList)) else (none)) else (none)) else (some false)
def dossierref05_find.l0 : Nat → List Int → ByteArray → Int → Int → Option (Int)
 | 0,_,_,_,_ => none
 | k + 1,x0,x1,x7,x8 => if x8 < x7 then (if 0 ≤ x8 then (if x8 ≤ (x0.length : Int) then ((dossierref05_begins.f (x0.drop (x8 : Int).toNat) x1).bind fun t255 => (if t255 = true then (some x8) else (dossierref05_find.l0 k x0 x1 x7 (wrap64 (x8 + 1))))) else (none)) else (none)) else (some (-1))
def dossierref05_find.f (k : Nat) (l0 : List Int) (a1 : ByteArray) : Option (Int) := dossierref05_find.l0 k l0 a1 (l0.length : Int) 0
theorem dossierref05_find.mono_l : ∀ k,(∀ y0 y1 y2 y3,LeO (dossierref05_find.l0 k y0 y1 y2 y3) (dossierref05_find.l0 (k + 1) y0 y1 y2 y3))
 | 0 => fun _ _ _ _ r h => by simp [dossierref05_find.l0] at h
 | k + 1 => by
  have ih0 := dossierref05_find.mono_l k
  · intro y0 y1 y2 y3
    unfold dossierref05_find.l0
    repeat' first
    | (with_reducible exact ih0 _ _ _ _)
    | (with_reducible exact LeO.refl _)
    | (with_reducible exact LeO.none _)
    | (with_reducible refine LeO.ite ?_ ?_)
    | (with_reducible refine LeO.bind ?_ (fun _ => ?_))
    | exact ih0 _ _ _ _
    | exact LeO.none _
    | refine LeO.ite ?_ ?_
    | refine LeO.bind ?_ (fun _ => ?_)
theorem dossierref05_find.mono : ∀ a0 a1 k,LeO (dossierref05_find.f k a0 a1) (dossierref05_find.f (k + 1) a0 a1) := by
 intro a0 a1 k
 have ih0 := dossierref05_find.mono_l k
 unfold dossierref05_find.f
 repeat' first
  | (with_reducible exact ih0 _ _ _ _)
  | (with_reducible exact LeO.refl _)
  | (with_reducible exact LeO.none _)
  | (with_reducible refine LeO.ite ?_ ?_)
  | (with_reducible refine LeO.bind ?_ (fun _ => ?_))
  | exact ih0 _ _ _ _
  | exact LeO.none _
  | refine LeO.ite ?_ ?_
  | refine LeO.bind ?_ (fun _ => ?_)
def dossierref01_Encode.j0 : Nat → Int → Bool → Option (List Int)
 | 0,_,_ => none
 | k + 1,x0,x3 => if x3 = true then (some ([] : List Int)) else (if x0 < 128 then (some (([(x0) % 256] : List Int))) else (if x0 < 2048 then (some (([(wrap64 (192 + (x0 / 64))) % 256,(wrap64 (128 + (Int.tmod x0 64))) % 256] : List Int))) else (if x0 < 65536 then (some (([(wrap64 (224 + (x0 / 4096))) % 256,(wrap64 (128 + (Int.tmod (x0 / 64) 64))) % 256,(wrap64 (128 + (Int.tmod x0 64))) % 256] : List Int))) else (some (([(wrap64 (240 + (x0 / 262144))) % 256,(wrap64 (128 + (Int.tmod (x0 / 4096) 64))) % 256,(wrap64 (128 + (Int.tmod (x0 / 64) 64))) % 256,(wrap64 (128 + (Int.tmod x0 64))) % 256] : List Int))))))
def dossierref01_Encode.f (k : Nat) (a0 : Int) : Option (List Int) := if a0 < 0 then (dossierref01_Encode.j0 k a0 true) else (if a0 > 1114111 then (dossierref01_Encode.j0 k a0 true) else (if a0 ≥ 55296 then (dossierref01_Encode.j0 k a0 (decide (a0 ≤ 57343))) else (dossierref01_Encode.j0 k a0 false)))
theorem dossierref01_Encode.mono_l : ∀ k,(∀ y0 y1,LeO (dossierref01_Encode.j0 k y0 y1) (dossierref01_Encode.j0 (k + 1) y0 y1))
 | 0 => fun _ _ r h => by simp [dossierref01_Encode.j0] at h
 | k + 1 => by
  have ih0 := dossierref01_Encode.mono_l k
  · intro y0 y1
    unfold dossierref01_Encode.j0
    repeat' first
    | (with_reducible exact ih0 _ _)
    | (with_reducible exact LeO.refl _)
    | (with_reducible exact LeO.none _)
    | (with_reducible refine LeO.ite ?_ ?_)
    | (with_reducible refine LeO.bind ?_ (fun _ => ?_))
    | exact ih0 _ _
    | exact LeO.none _
    | refine LeO.ite ?_ ?_
    | refine LeO.bind ?_ (fun _ => ?_)
theorem dossierref01_Encode.mono : ∀ a0 k,LeO (dossierref01_Encode.f k a0) (dossierref01_Encode.f (k + 1) a0) := by
 intro a0 k
 have ih0 := dossierref01_Encode.mono_l k
 unfold dossierref01_Encode.f
 repeat' first
  | (with_reducible exact ih0 _ _)
  | (with_reducible exact LeO.refl _)
  | (with_reducible exact LeO.none _)
  | (with_reducible refine LeO.ite ?_ ?_)
  | (with_reducible refine LeO.bind ?_ (fun _ => ?_))
  | exact ih0 _ _
  | exact LeO.none _
  | refine LeO.ite ?_ ?_
  | refine LeO.bind ?_ (fun _ => ?_)
mutual
def dossierref01_Decode.j0 : Nat → List Int → Int → Int → Option (Int × Int)
 | 0,_,_,_ => none
 | k + 1,x0,x4,x5 => if x4 > (x0.length : Int) then (some (0,0)) else (if 1 ≤ x4 then (if x4 ≤ (x0.length : Int) then (dossierref01_Decode.l0 k x0 x4 x5 ((x0.take (x4 : Int).toNat).drop 1) (((x0.take (x4 : Int).toNat).drop 1).length : Int) 0) else (none)) else (none))
def dossierref01_Decode.l0 : Nat → List Int → Int → Int → List Int → Int → Int → Option (Int × Int)
 | 0,_,_,_,_,_,_ => none
 | k + 1,x0,x4,x5,x51,x52,x53 => if x53 < x52 then (if 0 ≤ x53 then (if x53 < (x51.length : Int) then (if (rd x51 x53) < 128 then (some (0,0)) else (if (rd x51 x53) > 191 then (some (0,0)) else (dossierref01_Decode.l0 k x0 x4 (wrap64 ((wrap64 ((wrap64 (x5 * 64)) + (wrap64 (rd x51 x53)))) - 128)) x51 x52 (wrap64 (x53 + 1))))) else (none)) else (none)) else ((dossierref01_Encode.f k x5).bind fun t277 => (if 0 ≤ x4 then (if x4 ≤ (x0.length : Int) then (if (strOfNums t277).toList = (strOfNums (x0.take (x4 : Int).toNat)).toList then (some (x5,x4)) else (some (0,0))) else (none)) else (none)))
end
def dossierref01_Decode.f (k : Nat) (l0 : List Int) : Option (Int × Int) := if (l0.length : Int) = 0 then (some (0,0)) else (if 0 < (l0.length : Int) then (if (rd l0 0) ≥ 240 then (dossierref01_Decode.j0 k l0 4 (wrap64 ((wrap64 (rd l0 0)) - 240))) else (if (rd l0 0) ≥ 224 then (dossierref01_Decode.j0 k l0 3 (wrap64 ((wrap64 (rd l0 0)) - 224))) else (if (rd l0 0) ≥ 192 then (dossierref01_Decode.j0 k l0 2 (wrap64 ((wrap64 (rd l0 0)) - 192))) else (dossierref01_Decode.j0 k l0 1 (wrap64 (rd l0 0)))))) else (none))
theorem dossierref01_Decode.mono_l : ∀ k,(∀ y0 y1 y2,LeO (dossierref01_Decode.j0 k y0 y1 y2) (dossierref01_Decode.j0 (k + 1) y0 y1 y2)) ∧ (∀ y0 y1 y2 y3 y4 y5,LeO (dossierref01_Decode.l0 k y0 y1 y2 y3 y4 y5) (dossierref01_Decode.l0 (k + 1) y0 y1 y2 y3 y4 y5))
 | 0 => ⟨fun _ _ _ r h => by simp [dossierref01_Decode.j0] at h,fun _ _ _ _ _ _ r h => by simp [dossierref01_Decode.l0] at h⟩
 | k + 1 => by
  obtain ⟨ih0,ih1⟩ := dossierref01_Decode.mono_l k
  refine ⟨?_,?_⟩
  · intro y0 y1 y2
    unfold dossierref01_Decode.j0
    repeat' first
    | (with_reducible exact ih0 _ _ _)
    | (with_reducible exact ih1 _ _ _ _ _ _)
    | (with_reducible exact dossierref01_Encode.mono _ _)
    | (with_reducible exact LeO.refl _)
    | (with_reducible exact LeO.none _)
    | (with_reducible refine LeO.ite ?_ ?_)
    | (with_reducible refine LeO.bind ?_ (fun _ => ?_))
    | exact ih0 _ _ _
    | exact ih1 _ _ _ _ _ _
    | exact dossierref01_Encode.mono _ _
    | exact LeO.none _
    | refine LeO.ite ?_ ?_
    | refine LeO.bind ?_ (fun _ => ?_)
  · intro y0 y1 y2 y3 y4 y5
    unfold dossierref01_Decode.l0
    repeat' first
    | (with_reducible exact ih0 _ _ _)
    | (with_reducible exact ih1 _ _ _ _ _ _)
    | (with_reducible exact dossierref01_Encode.mono _ _)
    | (with_reducible exact LeO.refl _)
    | (with_reducible exact LeO.none _)
    | (with_reducible refine LeO.ite ?_ ?_)
    | (with_reducible refine LeO.bind ?_ (fun _ => ?_))
    | exact ih0 _ _ _
    | exact ih1 _ _ _ _ _ _
    | exact dossierref01_Encode.mono _ _
    | exact LeO.none _
    | refine LeO.ite ?_ ?_
    | refine LeO.bind ?_ (fun _ => ?_)
theorem dossierref01_Decode.mono : ∀ a0 k,LeO (dossierref01_Decode.f k a0) (dossierref01_Decode.f (k + 1) a0) := by
 intro a0 k
 obtain ⟨ih0,ih1⟩ := dossierref01_Decode.mono_l k
 unfold dossierref01_Decode.f
 repeat' first
  | (with_reducible exact ih0 _ _ _)
  | (with_reducible exact ih1 _ _ _ _ _ _)
  | (with_reducible exact dossierref01_Encode.mono _ _)
  | (with_reducible exact LeO.refl _)
  | (with_reducible exact LeO.none _)
  | (with_reducible refine LeO.ite ?_ ?_)
  | (with_reducible refine LeO.bind ?_ (fun _ => ?_))
  | exact ih0 _ _ _
  | exact ih1 _ _ _ _ _ _
  | exact dossierref01_Encode.mono _ _
  | exact LeO.none _
  | refine LeO.ite ?_ ?_
  | refine LeO.bind ?_ (fun _ => ?_)
def dossierref01_within.l0 : Nat → Int → List Int → Int → Option (Bool)
 | 0,_,_,_ => none
 | k + 1,x0,x1,x5 => if (wrap64 (x5 + 1)) < (x1.length : Int) then (if 0 ≤ x5 then (if x5 < (x1.length : Int) then (if x0 ≥ (rd x1 x5) then (if 0 ≤ (wrap64 (x5 + 1)) then (if x0 ≤ (rd x1 (wrap64 (x5 + 1))) then (some true) else (dossierref01_within.l0 k x0 x1 (wrap64 (x5 + 2)))) else (none)) else (dossierref01_within.l0 k x0 x1 (wrap64 (x5 + 2)))) else (none)) else (none)) else (some false)
def dossierref01_within.f (k : Nat) (a0 : Int) (l1 : List Int) : Option (Bool) := dossierref01_within.l0 k a0 l1 0
theorem dossierref01_within.mono_l : ∀ k,(∀ y0 y1 y2,LeO (dossierref01_within.l0 k y0 y1 y2) (dossierref01_within.l0 (k + 1) y0 y1 y2))
 | 0 => fun _ _ _ r h => by simp [dossierref01_within.l0] at h
 | k + 1 => by
  have ih0 := dossierref01_within.mono_l k
  · intro y0 y1 y2
    unfold dossierref01_within.l0
    repeat' first
    | (with_reducible exact ih0 _ _ _)
    | (with_reducible exact LeO.refl _)
    | (with_reducible exact LeO.none _)
    | (with_reducible refine LeO.ite ?_ ?_)
    | (with_reducible refine LeO.bind ?_ (fun _ => ?_))
    | exact ih0 _ _ _
    | exact LeO.none _
    | refine LeO.ite ?_ ?_
    | refine LeO.bind ?_ (fun _ => ?_)
theorem dossierref01_within.mono : ∀ a0 a1 k,LeO (dossierref01_within.f k a0 a1) (dossierref01_within.f (k + 1) a0 a1) := by
 intro a0 a1 k
 have ih0 := dossierref01_within.mono_l k
 unfold dossierref01_within.f
 repeat' first
  | (with_reducible exact ih0 _ _ _)
  | (with_reducible exact LeO.refl _)
  | (with_reducible exact LeO.none _)
  | (with_reducible refine LeO.ite ?_ ?_)
  | (with_reducible refine LeO.bind ?_ (fun _ => ?_))
  | exact ih0 _ _ _
  | exact LeO.none _
  | refine LeO.ite ?_ ?_
  | refine LeO.bind ?_ (fun _ => ?_)
def dossierref01_First.f (k : Nat) (a0 : Int) : Option (Bool) := (dossierref01_within.f k a0 (([65,90,95,95,97,122,192,214,216,246,248,767,880,893,895,8191,8204,8205,8304,8591,11264,12271,12289,55295,63744,64975,65008,65533,65536,983039] : List Int))).bind fun t286 => (some t286)
theorem dossierref01_First.mono : ∀ a0 k,LeO (dossierref01_First.f k a0) (dossierref01_First.f (k + 1) a0) := by
 intro a0 k
 unfold dossierref01_First.f
 repeat' first
  | (with_reducible exact dossierref01_within.mono _ _ _)
  | (with_reducible exact LeO.refl _)
  | (with_reducible exact LeO.none _)
  | (with_reducible refine LeO.ite ?_ ?_)
  | (with_reducible refine LeO.bind ?_ (fun _ => ?_))
  | exact dossierref01_within.mono _ _ _
  | exact LeO.none _
  | refine LeO.ite ?_ ?_
  | refine LeO.bind ?_ (fun _ => ?_)
def dossierref01_Later.f (k : Nat) (a0 : Int) : Option (Bool) := (dossierref01_First.f k a0).bind fun t287 => (if t287 = true then (some true) else ((dossierref01_within.f k a0 (([45,46,48,57,183,183,768,879,8255,8256] : List Int))).bind fun t291 => (some t291)))
theorem dossierref01_Later.mono : ∀ a0 k,LeO (dossierref01_Later.f k a0) (dossierref01_Later.f (k + 1) a0) := by
 intro a0 k
 unfold dossierref01_Later.f
 repeat' first
  | (with_reducible exact dossierref01_First.mono _ _)
  | (with_reducible exact dossierref01_within.mono _ _ _)
  | (with_reducible exact LeO.refl _)
  | (with_reducible exact LeO.none _)
  | (with_reducible refine LeO.ite ?_ ?_)
  | (with_reducible refine LeO.bind ?_ (fun _ => ?_))
  | exact dossierref01_First.mono _ _
  | exact dossierref01_within.mono _ _ _
  | exact LeO.none _
  | refine LeO.ite ?_ ?_
  | refine LeO.bind ?_ (fun _ => ?_)
mutual
def dossierref01_NameAt.j0 : Nat → List Int → Int → Bool → Option (Int)
 | 0,_,_,_ => none
 | k + 1,x0,x4,x18 => if x18 = true then (some 0) else (dossierref01_NameAt.l0 k x0 x4)
def dossierref01_NameAt.l0 : Nat → List Int → Int → Option (Int)
 | 0,_,_ => none
 | k + 1,x0,x4 => if 0 ≤ x4 then (if x4 ≤ (x0.length : Int) then ((dossierref01_Decode.f k (x0.drop (x4 : Int).toNat)).bind fun bt296 => (if bt296.2 = 0 then (some x4) else ((dossierref01_Later.f k bt296.1).bind fun t298 => (if t298 = true then (dossierref01_NameAt.l0 k x0 (wrap64 (x4 + bt296.2))) else (some x4))))) else (none)) else (none)
end
def dossierref01_NameAt.f (k : Nat) (l0 : List Int) : Option (Int) := (dossierref01_Decode.f k l0).bind fun bt292 => (if bt292.2 = 0 then (dossierref01_NameAt.j0 k l0 bt292.2 true) else ((dossierref01_First.f k bt292.1).bind fun t294 => (dossierref01_NameAt.j0 k l0 bt292.2 (!t294))))
theorem dossierref01_NameAt.mono_l : ∀ k,(∀ y0 y1 y2,LeO (dossierref01_NameAt.j0 k y0 y1 y2) (dossierref01_NameAt.j0 (k + 1) y0 y1 y2)) ∧ (∀ y0 y1,LeO (dossierref01_NameAt.l0 k y0 y1) (dossierref01_NameAt.l0 (k + 1) y0 y1))
 | 0 => ⟨fun _ _ _ r h => by simp [dossierref01_NameAt.j0] at h,fun _ _ r h => by simp [dossierref01_NameAt.l0] at h⟩
 | k + 1 => by
  obtain ⟨ih0,ih1⟩ := dossierref01_NameAt.mono_l k
  refine ⟨?_,?_⟩
  · intro y0 y1 y2
    unfold dossierref01_NameAt.j0
    repeat' first
    | (with_reducible exact ih0 _ _ _)
    | (with_reducible exact ih1 _ _)
    | (with_reducible exact dossierref01_Decode.mono _ _)
    | (with_reducible exact dossierref01_First.mono _ _)
    | (with_reducible exact dossierref01_Later.mono _ _)
    | (with_reducible exact LeO.refl _)
    | (with_reducible exact LeO.none _)
    | (with_reducible refine LeO.ite ?_ ?_)
    | (with_reducible refine LeO.bind ?_ (fun _ => ?_))
    | exact ih0 _ _ _
    | exact ih1 _ _
    | exact dossierref01_Decode.mono _ _
    | exact dossierref01_First.mono _ _
    | exact dossierref01_Later.mono _ _
    | exact LeO.none _
    | refine LeO.ite ?_ ?_
    | refine LeO.bind ?_ (fun _ => ?_)
  · intro y0 y1
    unfold dossierref01_NameAt.l0
    repeat' first
    | (with_reducible exact ih0 _ _ _)
    | (with_reducible exact ih1 _ _)
    | (with_reducible exact dossierref01_Decode.mono _ _)
    | (with_reducible exact dossierref01_First.mono _ _)
    | (with_reducible exact dossierref01_Later.mono _ _)
    | (with_reducible exact LeO.refl _)
    | (with_reducible exact LeO.none _)
    | (with_reducible refine LeO.ite ?_ ?_)
    | (with_reducible refine LeO.bind ?_ (fun _ => ?_))
    | exact ih0 _ _ _
    | exact ih1 _ _
    | exact dossierref01_Decode.mono _ _
    | exact dossierref01_First.mono _ _
    | exact dossierref01_Later.mono _ _
    | exact LeO.none _
    | refine LeO.ite ?_ ?_
    | refine LeO.bind ?_ (fun _ => ?_)
theorem dossierref01_NameAt.mono : ∀ a0 k,LeO (dossierref01_NameAt.f k a0) (dossierref01_NameAt.f (k + 1) a0) := by
 intro a0 k
 obtain ⟨ih0,ih1⟩ := dossierref01_NameAt.mono_l k
 unfold dossierref01_NameAt.f
 repeat' first
  | (with_reducible exact ih0 _ _ _)
  | (with_reducible exact ih1 _ _)
  | (with_reducible exact dossierref01_Decode.mono _ _)
  | (with_reducible exact dossierref01_First.mono _ _)
  | (with_reducible exact dossierref01_Later.mono _ _)
  | (with_reducible exact LeO.refl _)
  | (with_reducible exact LeO.none _)
  | (with_reducible refine LeO.ite ?_ ?_)
  | (with_reducible refine LeO.bind ?_ (fun _ => ?_))
  | exact ih0 _ _ _
  | exact ih1 _ _
  | exact dossierref01_Decode.mono _ _
  | exact dossierref01_First.mono _ _
  | exact dossierref01_Later.mono _ _
  | exact LeO.none _
  | refine LeO.ite ?_ ?_
  | refine LeO.bind ?_ (fun _ => ?_)
def dossierref01_Space.f (a0 : Int) : Option (Bool) := if a0 = 9 then (some true) else (if a0 = 10 then (some true) else (if a0 = 13 then (some true) else (some (a0 == 32))))
def dossierref05_blanks.l0 : Nat → List Int → Int → Option (Int)
 | 0,_,_ => none
 | k + 1,x0,x3 => if x3 < (x0.length : Int) then (if 0 ≤ x3 then ((dossierref01_Space.f (wrap64 (rd x0 x3))).bind fun t300 => (if t300 = true then (dossierref05_blanks.l0 k x0 (wrap64 (x3 + 1))) else (some x3))) else (none)) else (some x3)
def dossierref05_blanks.f (k : Nat) (l0 : List Int) : Option (Int) := dossierref05_blanks.l0 k l0 0
theorem dossierref05_blanks.mono_l : ∀ k,(∀ y0 y1,LeO (dossierref05_blanks.l0 k y0 y1) (dossierref05_blanks.l0 (k + 1) y0 y1))
 | 0 => fun _ _ r h => by simp [dossierref05_blanks.l0] at h
 | k + 1 => by
  have ih0 := dossierref05_blanks.mono_l k
  · intro y0 y1
    unfold dossierref05_blanks.l0
    repeat' first
    | (with_reducible exact ih0 _ _)
    | (with_reducible exact LeO.refl _)
    | (with_reducible exact LeO.none _)
    | (with_reducible refine LeO.ite ?_ ?_)
    | (with_reducible refine LeO.bind ?_ (fun _ => ?_))
    | exact ih0 _ _
    | exact LeO.none _
    | refine LeO.ite ?_ ?_
    | refine LeO.bind ?_ (fun _ => ?_)
theorem dossierref05_blanks.mono : ∀ a0 k,LeO (dossierref05_blanks.f k a0) (dossierref05_blanks.f (k + 1) a0) := by
 intro a0 k
 have ih0 := dossierref05_blanks.mono_l k
 unfold dossierref05_blanks.f
 repeat' first
  | (with_reducible exact ih0 _ _)
  | (with_reducible exact LeO.refl _)
  | (with_reducible exact LeO.none _)
  | (with_reducible refine LeO.ite ?_ ?_)
  | (with_reducible refine LeO.bind ?_ (fun _ => ?_))
  | exact ih0 _ _
  | exact LeO.none _
  | refine LeO.ite ?_ ?_
  | refine LeO.bind ?_ (fun _ => ?_)
mutual
def dossierref05_digit.j0 : Nat → Int → Int → Int → Bool → Option (Int)
 | 0,_,_,_,_ => none
 | k + 1,x0,x1,x5,x6 => if x6 = true then (if ((x0 - 48) % 256) ≥ x1 then (some (-1)) else (some ((x0 - 48) % 256))) else (if x0 ≥ 97 then (dossierref05_digit.j1 k x0 x1 x5 (decide (x0 ≤ 102))) else (dossierref05_digit.j1 k x0 x1 x5 false))
def dossierref05_digit.j1 : Nat → Int → Int → Int → Bool → Option (Int)
 | 0,_,_,_,_ => none
 | k + 1,x0,x1,x5,x16 => if x16 = true then (if (((x0 - 97) % 256) + 10) ≥ x1 then (some (-1)) else (some (((x0 - 97) % 256) + 10))) else (if x0 ≥ 65 then (dossierref05_digit.j2 k x0 x1 x5 (decide (x0 ≤ 70))) else (dossierref05_digit.j2 k x0 x1 x5 false))
def dossierref05_digit.j2 : Nat → Int → Int → Int → Bool → Option (Int)
 | 0,_,_,_,_ => none
 | k + 1,x0,x1,x5,x27 => if x27 = true then (if (((x0 - 65) % 256) + 10) ≥ x1 then (some (-1)) else (some (((x0 - 65) % 256) + 10))) else (if x5 ≥ x1 then (some (-1)) else (some x5))
end
def dossierref05_digit.f (k : Nat) (a0 : Int) (a1 : Int) : Option (Int) := if a0 ≥ 48 then (dossierref05_digit.j0 k a0 a1 (-1) (decide (a0 ≤ 57))) else (dossierref05_digit.j0 k a0 a1 (-1) false)
theorem dossierref05_digit.mono_l : ∀ k,(∀ y0 y1 y2 y3,LeO (dossierref05_digit.j0 k y0 y1 y2 y3) (dossierref05_digit.j0 (k + 1) y0 y1 y2 y3)) ∧ (∀ y0 y1 y2 y3,LeO (dossierref05_digit.j1 k y0 y1 y2 y3) (dossierref05_digit.j1 (k + 1) y0 y1 y2 y3)) ∧ (∀ y0 y1 y2 y3,LeO (dossierref05_digit.j2 k y0 y1 y2 y3) (dossierref05_digit.j2 (k + 1) y0 y1 y2 y3))
 | 0 => ⟨fun _ _ _ _ r h => by simp [dossierref05_digit.j0] at h,fun _ _ _ _ r h => by simp [dossierref05_digit.j1] at h,fun _ _ _ _ r h => by simp [dossierref05_digit.j2] at h⟩
 | k + 1 => by
  obtain ⟨ih0,ih1,ih2⟩ := dossierref05_digit.mono_l k
  refine ⟨?_,?_,?_⟩
  · intro y0 y1 y2 y3
    unfold dossierref05_digit.j0
    repeat' first
    | (with_reducible exact ih0 _ _ _ _)
    | (with_reducible exact ih1 _ _ _ _)
    | (with_reducible exact ih2 _ _ _ _)
    | (with_reducible exact LeO.refl _)
    | (with_reducible exact LeO.none _)
    | (with_reducible refine LeO.ite ?_ ?_)
    | (with_reducible refine LeO.bind ?_ (fun _ => ?_))
    | exact ih0 _ _ _ _
    | exact ih1 _ _ _ _
    | exact ih2 _ _ _ _
    | exact LeO.none _
    | refine LeO.ite ?_ ?_
    | refine LeO.bind ?_ (fun _ => ?_)
  · intro y0 y1 y2 y3
    unfold dossierref05_digit.j1
    repeat' first
    | (with_reducible exact ih0 _ _ _ _)
    | (with_reducible exact ih1 _ _ _ _)
    | (with_reducible exact ih2 _ _ _ _)
    | (with_reducible exact LeO.refl _)
    | (with_reducible exact LeO.none _)
    | (with_reducible refine LeO.ite ?_ ?_)
    | (with_reducible refine LeO.bind ?_ (fun _ => ?_))
    | exact ih0 _ _ _ _
    | exact ih1 _ _ _ _
    | exact ih2 _ _ _ _
    | exact LeO.none _
    | refine LeO.ite ?_ ?_
    | refine LeO.bind ?_ (fun _ => ?_)
  · intro y0 y1 y2 y3
    unfold dossierref05_digit.j2
    repeat' first
    | (with_reducible exact ih0 _ _ _ _)
    | (with_reducible exact ih1 _ _ _ _)
    | (with_reducible exact ih2 _ _ _ _)
    | (with_reducible exact LeO.refl _)
    | (with_reducible exact LeO.none _)
    | (with_reducible refine LeO.ite ?_ ?_)
    | (with_reducible refine LeO.bind ?_ (fun _ => ?_))
    | exact ih0 _ _ _ _
    | exact ih1 _ _ _ _
    | exact ih2 _ _ _ _
    | exact LeO.none _
    | refine LeO.ite ?_ ?_
    | refine LeO.bind ?_ (fun _ => ?_)
theorem dossierref05_digit.mono : ∀ a0 a1 k,LeO (dossierref05_digit.f k a0 a1) (dossierref05_digit.f (k + 1) a0 a1) := by
 intro a0 a1 k
 obtain ⟨ih0,ih1,ih2⟩ := dossierref05_digit.mono_l k
 unfold dossierref05_digit.f
 repeat' first
  | (with_reducible exact ih0 _ _ _ _)
  | (with_reducible exact ih1 _ _ _ _)
  | (with_reducible exact ih2 _ _ _ _)
  | (with_reducible exact LeO.refl _)
  | (with_reducible exact LeO.none _)
  | (with_reducible refine LeO.ite ?_ ?_)
  | (with_reducible refine LeO.bind ?_ (fun _ => ?_))
  | exact ih0 _ _ _ _
  | exact ih1 _ _ _ _
  | exact ih2 _ _ _ _
  | exact LeO.none _
  | refine LeO.ite ?_ ?_
  | refine LeO.bind ?_ (fun _ => ?_)
def dossierref01_OfXML.f (k : Nat) (a0 : Int) : Option (Bool) := (dossierref01_within.f k a0 (([9,10,13,13,32,55295,57344,65533,65536,1114111] : List Int))).bind fun t330 => (some t330)
theorem dossierref01_OfXML.mono : ∀ a0 k,LeO (dossierref01_OfXML.f k a0) (dossierref01_OfXML.f (k + 1) a0) := by
 intro a0 k
 unfold dossierref01_OfXML.f
 repeat' first
  | (with_reducible exact dossierref01_within.mono _ _ _)
  | (with_reducible exact LeO.refl _)
  | (with_reducible exact LeO.none _)
  | (with_reducible refine LeO.ite ?_ ?_)
  | (with_reducible refine LeO.bind ?_ (fun _ => ?_))
  | exact dossierref01_within.mono _ _ _
  | exact LeO.none _
  | refine LeO.ite ?_ ?_
  | refine LeO.bind ?_ (fun _ => ?_)
def dossierref05_numbered.l0 : Nat → List Int → Int → Int → List Int → Int → Int → Option (Int × Bool)
 | 0,_,_,_,_,_,_ => none
 | k + 1,x0,x1,x6,x10,x11,x12 => if x12 < x11 then (if 0 ≤ x12 then (if x12 < (x10.length : Int) then ((dossierref05_digit.f k (rd x10 x12) x1).bind fun t332 => (if t332 < 0 then (some (0,false)) else (if x6 > 1073741824 then (some (0,false)) else (dossierref05_numbered.l0 k x0 x1 (wrap64 ((wrap64 (x6 * x1)) + t332)) x10 x11 (wrap64 (x12 + 1)))))) else (none)) else (none)) else (if (x0.length : Int) > 0 then ((dossierref01_OfXML.f k x6).bind fun t333 => (some (x6,t333))) else (some (x6,false)))
def dossierref05_numbered.f (k : Nat) (l0 : List Int) (a1 : Int) : Option (Int × Bool) := dossierref05_numbered.l0 k l0 a1 0 l0 (l0.length : Int) 0
theorem dossierref05_numbered.mono_l : ∀ k,(∀ y0 y1 y2 y3 y4 y5,LeO (dossierref05_numbered.l0 k y0 y1 y2 y3 y4 y5) (dossierref05_numbered.l0 (k + 1) y0 y1 y2 y3 y4 y5))
 | 0 => fun _ _ _ _ _ _ r h => by simp [dossierref05_numbered.l0] at h
 | k + 1 => by
  have ih0 := dossierref05_numbered.mono_l k
  · intro y0 y1 y2 y3 y4 y5
    unfold dossierref05_numbered.l0
    repeat' first
    | (with_reducible exact ih0 _ _ _ _ _ _)
    | (with_reducible exact dossierref01_OfXML.mono _ _)
    | (with_reducible exact dossierref05_digit.mono _ _ _)
    | (with_reducible exact LeO.refl _)
    | (with_reducible exact LeO.none _)
    | (with_reducible refine LeO.ite ?_ ?_)
    | (with_reducible refine LeO.bind ?_ (fun _ => ?_))
    | exact ih0 _ _ _ _ _ _
    | exact dossierref01_OfXML.mono _ _
    | exact dossierref05_digit.mono _ _ _
    | exact LeO.none _
    | refine LeO.ite ?_ ?_
    | refine LeO.bind ?_ (fun _ => ?_)
theorem dossierref05_numbered.mono : ∀ a0 a1 k,LeO (dossierref05_numbered.f k a0 a1) (dossierref05_numbered.f (k + 1) a0 a1) := by
 intro a0 a1 k
 have ih0 := dossierref05_numbered.mono_l k
 unfold dossierref05_numbered.f
 repeat' first
  | (with_reducible exact ih0 _ _ _ _ _ _)
  | (with_reducible exact dossierref01_OfXML.mono _ _)
  | (with_reducible exact dossierref05_digit.mono _ _ _)
  | (with_reducible exact LeO.refl _)
  | (with_reducible exact LeO.none _)
  | (with_reducible refine LeO.ite ?_ ?_)
  | (with_reducible refine LeO.bind ?_ (fun _ => ?_))
  | exact ih0 _ _ _ _ _ _
  | exact dossierref01_OfXML.mono _ _
  | exact dossierref05_digit.mono _ _ _
  | exact LeO.none _
  | refine LeO.ite ?_ ?_
  | refine LeO.bind ?_ (fun _ => ?_)
def dossierref05_reference.f (k : Nat) (l0 : List Int) : Option (Int × Bool) := if (strOfNums l0).toList = ([108,116] : List UInt8) then (some (60,true)) else (if (strOfNums l0).toList = ([103,116] : List UInt8) then (some (62,true)) else (if (strOfNums l0).toList = ([97,109,112] : List UInt8) then (some (38,true)) else (if (strOfNums l0).toList = ([97,112,111,115] : List UInt8) then (some (39,true)) else (if (strOfNums l0).toList = ([113,117,111,116] : List UInt8) then (some (34,true)) else ((dossierref05_begins.f l0 (⟨#[35,120]⟩ : ByteArray)).bind fun t334 => (if t334 = true then (if 2 ≤ (l0.length : Int) then ((dossierref05_numbered.f k (l0.drop 2) 16).bind fun bt336 => (some (bt336.1,bt336.2))) else (none)) else ((dossierref05_begins.f l0 (⟨#[35]⟩ : ByteArray)).bind fun t338 => (if t338 = true then (if 1 ≤ (l0.length : Int) then ((dossierref05_numbered.f k (l0.drop 1) 10).bind fun bt340 => (some (bt340.1,bt340.2))) else (none)) else (some (0,false))))))))))
theorem dossierref05_reference.mono : ∀ a0 k,LeO (dossierref05_reference.f k a0) (dossierref05_reference.f (k + 1) a0) := by
 intro a0 k
 unfold dossierref05_reference.f
 repeat' first
  | (with_reducible exact dossierref05_numbered.mono _ _ _)
  | (with_reducible exact LeO.refl _)
  | (with_reducible exact LeO.none _)
  | (with_reducible refine LeO.ite ?_ ?_)
  | (with_reducible refine LeO.bind ?_ (fun _ => ?_))
  | exact dossierref05_numbered.mono _ _ _
  | exact LeO.none _
  | refine LeO.ite ?_ ?_
  | refine LeO.bind ?_ (fun _ => ?_)
def dossierref05_name.j0 : Nat → List Int → Int → Bool → Option (Int)
 | 0,_,_,_ => none
 | k + 1,x0,x3,x15 => if x15 = true then (some x3) else (if 0 ≤ (wrap64 (x3 + 1)) then (if (wrap64 (x3 + 1)) ≤ (x0.length : Int) then ((dossierref01_NameAt.f k (x0.drop ((wrap64 (x3 + 1)) : Int).toNat)).bind fun t350 => (if t350 = 0 then (some x3) else (some (wrap64 ((wrap64 (x3 + 1)) + t350))))) else (none)) else (none))
def dossierref05_name.f (k : Nat) (l0 : List Int) : Option (Int) := (dossierref01_NameAt.f k l0).bind fun t346 => (if t346 = 0 then (dossierref05_name.j0 k l0 t346 true) else (if 0 ≤ t346 then (if t346 ≤ (l0.length : Int) then ((dossierref05_begins.f (l0.drop (t346 : Int).toNat) (⟨#[58]⟩ : ByteArray)).bind fun t348 => (dossierref05_name.j0 k l0 t346 (!t348))) else (none)) else (none)))
theorem dossierref05_name.mono_l : ∀ k,(∀ y0 y1 y2,LeO (dossierref05_name.j0 k y0 y1 y2) (dossierref05_name.j0 (k + 1) y0 y1 y2))
 | 0 => fun _ _ _ r h => by simp [dossierref05_name.j0] at h
 | k + 1 => by
  have ih0 := dossierref05_name.mono_l k
  · intro y0 y1 y2
    unfold dossierref05_name.j0
    repeat' first
    | (with_reducible exact ih0 _ _ _)
    | (with_reducible exact dossierref01_NameAt.mono _ _)
    | (with_reducible exact LeO.refl _)
    | (with_reducible exact LeO.none _)
    | (with_reducible refine LeO.ite ?_ ?_)
    | (with_reducible refine LeO.bind ?_ (fun _ => ?_))
    | exact ih0 _ _ _
    | exact dossierref01_NameAt.mono _ _
    | exact LeO.none _
    | refine LeO.ite ?_ ?_
    | refine LeO.bind ?_ (fun _ => ?_)
theorem dossierref05_name.mono : ∀ a0 k,LeO (dossierref05_name.f k a0) (dossierref05_name.f (k + 1) a0) := by
 intro a0 k
 have ih0 := dossierref05_name.mono_l k
 unfold dossierref05_name.f
 repeat' first
  | (with_reducible exact ih0 _ _ _)
  | (with_reducible exact dossierref01_NameAt.mono _ _)
  | (with_reducible exact LeO.refl _)
  | (with_reducible exact LeO.none _)
  | (with_reducible refine LeO.ite ?_ ?_)
  | (with_reducible refine LeO.bind ?_ (fun _ => ?_))
  | exact ih0 _ _ _
  | exact dossierref01_NameAt.mono _ _
  | exact LeO.none _
  | refine LeO.ite ?_ ?_
  | refine LeO.bind ?_ (fun _ => ?_)
def dossierref01_Text.f : Nat → Int → Option (ByteArray)
 | 0,_ => none
 | k + 1,a0 => if a0 < 0 then (if a0 > (-10) then ((dossierref01_Text.f k (wrap64 (-a0))).bind fun t402 => (if 1 + t402.size ≤ 9223372036854775807 then (some ((⟨#[45]⟩ : ByteArray) ++ t402)) else (none))) else ((dossierref01_Text.f k (wrap64 (Int.tdiv a0 10))).bind fun t403 => ((dossierref01_Text.f k (wrap64 (-(Int.tmod a0 10)))).bind fun t404 => (if t403.size + t404.size ≤ 9223372036854775807 then (some (t403 ++ t404)) else (none))))) else (if a0 < 10 then (if 0 ≤ a0 then (if a0 ≤ (wrap64 (a0 + 1)) then (if (wrap64 (a0 + 1)) ≤ 10 then (some ((⟨#[48,49,50,51,52,53,54,55,56,57]⟩ : ByteArray).extract (a0 : Int).toNat ((wrap64 (a0 + 1)) : Int).toNat)) else (none)) else (none)) else (none)) else ((dossierref01_Text.f k (wrap64 (Int.tdiv a0 10))).bind fun t405 => ((dossierref01_Text.f k (Int.tmod a0 10)).bind fun t406 => (if t405.size + t406.size ≤ 9223372036854775807 then (some (t405 ++ t406)) else (none)))))
theorem dossierref01_Text.mono_l : ∀ k,(∀ y0,LeO (dossierref01_Text.f k y0) (dossierref01_Text.f (k + 1) y0))
 | 0 => fun _ r h => by simp [dossierref01_Text.f] at h
 | k + 1 => by
  have ih0 := dossierref01_Text.mono_l k
  · intro y0
    unfold dossierref01_Text.f
    repeat' first
    | (with_reducible exact ih0 _)
    | (with_reducible exact LeO.refl _)
    | (with_reducible exact LeO.none _)
    | (with_reducible refine LeO.ite ?_ ?_)
    | (with_reducible refine LeO.bind ?_ (fun _ => ?_))
    | exact ih0 _
    | exact LeO.none _
    | refine LeO.ite ?_ ?_
    | refine LeO.bind ?_ (fun _ => ?_)
theorem dossierref01_Text.mono : ∀ a0 k,LeO (dossierref01_Text.f k a0) (dossierref01_Text.f (k + 1) a0) := by
 intro a0 k
 have ih0 := dossierref01_Text.mono_l k
 exact ih0 a0
end Go.Proofs.YtccfmfifnbnlmaaGreatDoor.Q
end
section
/- What the program's library functions are, against the shelf's own bodies: a table of numbers and one theorem for each, by the kernel's comparison. Written by the kit's lay-plain.mjs for this seat. -/
namespace Go.Proofs
open Go.Shelf
def Tryz.layDecodeRune_ren : Go.Shelf.Ren := ⟨fun | 32 => 89 | 49 => 108 | n => n, fun | 30 => 22 | 21 => 21 | 3 => 3 | 0 => 0 | 5 => 5 | 4 => 4 | 33 => 117 | 66 => 136 | 25 => 98 | 69 => 169 | 68 => 168 | n => n, fun | 2 => 2 | 3 => 3 | n => n⟩
theorem Tryz.layDecodeRune : Go.Proofs.Lays7.n32 Tryz.prog Tryz.layDecodeRune_ren := {
  mixed := by kernel_rfl
  f32 := Tryz.func89.trans (congrArg some (by kernel_rfl))
  f49 := Tryz.func108.trans (congrArg some (by kernel_rfl))
  t0 := Tryz.underlying0
  a0 := Tryz.isAgg0
  z0 := Tryz.sizeOf0
  v0 := Tryz.zeroValue0
  i0 := by kernel_rfl
  t3 := Tryz.underlying3
  a3 := Tryz.isAgg3
  z3 := Tryz.sizeOf3
  v3 := Tryz.zeroValue3
  i3 := by kernel_rfl
  t4 := Tryz.underlying4
  a4 := Tryz.isAgg4
  z4 := Tryz.sizeOf4
  v4 := Tryz.zeroValue4
  i4 := by kernel_rfl
  t5 := Tryz.underlying5
  a5 := Tryz.isAgg5
  z5 := Tryz.sizeOf5
  v5 := Tryz.zeroValue5
  i5 := by kernel_rfl
  t21 := Tryz.underlying21
  a21 := Tryz.isAgg21
  z21 := Tryz.sizeOf21
  v21 := Tryz.zeroValue21
  i21 := by kernel_rfl
  t25 := Tryz.underlying98
  a25 := Tryz.isAgg98
  z25 := Tryz.sizeOf98
  v25 := Tryz.zeroValue98
  i25 := by kernel_rfl
  t30 := Tryz.underlying22
  a30 := Tryz.isAgg22
  z30 := Tryz.sizeOf22
  v30 := Tryz.zeroValue22
  i30 := by kernel_rfl
  t33 := Tryz.underlying117
  a33 := Tryz.isAgg117
  z33 := Tryz.sizeOf117
  v33 := Tryz.zeroValue117
  i33 := by kernel_rfl
  t66 := Tryz.underlying136
  a66 := Tryz.isAgg136
  z66 := Tryz.sizeOf136
  t68 := Tryz.underlying168
  a68 := Tryz.isAgg168
  z68 := Tryz.sizeOf168
  v68 := Tryz.zeroValue168
  i68 := by kernel_rfl
  t69 := Tryz.underlying169
  a69 := Tryz.isAgg169
  z69 := Tryz.sizeOf169
  v69 := Tryz.zeroValue169
  i69 := by kernel_rfl
  g2 := by kernel_rfl
  g3 := by kernel_rfl }
def Tryz.layIndexByte_ren : Go.Shelf.Ren := ⟨fun | 137 => 96 | 217 => 112 | 266 => 126 | n => n, fun | 9 => 9 | 5 => 5 | 3 => 3 | n => n, fun | n => n⟩
theorem Tryz.layIndexByte : Go.Proofs.Lays.n137 Tryz.prog Tryz.layIndexByte_ren := {
  mixed := by kernel_rfl
  f137 := Tryz.func96.trans (congrArg some (by kernel_rfl))
  f217 := Tryz.func112.trans (congrArg some (by kernel_rfl))
  f266 := Tryz.func126.trans (congrArg some (by kernel_rfl))
  t3 := Tryz.underlying3
  a3 := Tryz.isAgg3
  z3 := Tryz.sizeOf3
  v3 := Tryz.zeroValue3
  t5 := Tryz.underlying5
  a5 := Tryz.isAgg5
  z5 := Tryz.sizeOf5
  v5 := Tryz.zeroValue5
  t9 := Tryz.underlying9
  a9 := Tryz.isAgg9
  z9 := Tryz.sizeOf9
  v9 := Tryz.zeroValue9 }
def Tryz.layBIndex_ren : Go.Shelf.Ren := ⟨fun | 185 => 41 | 187 => 62 | 115 => 14 | 253 => 65 | 224 => 66 | 254 => 67 | 255 => 87 | 291 => 88 | n => n, fun | 37 => 22 | 3 => 3 | 4 => 4 | 0 => 0 | 5 => 5 | 46 => 98 | 9 => 9 | 146 => 115 | 51 => 79 | n => n, fun | 1 => 0 | n => n⟩
theorem Tryz.layBIndex : Go.Proofs.LaysM.n185 Tryz.prog Tryz.layBIndex_ren := {
  mixed := by kernel_rfl
  f115 := Tryz.func14.trans (congrArg some (by kernel_rfl))
  f185 := Tryz.func41.trans (congrArg some (by kernel_rfl))
  f187 := Tryz.func62.trans (congrArg some (by kernel_rfl))
  f224 := Tryz.func66.trans (congrArg some (by kernel_rfl))
  f253 := Tryz.func65.trans (congrArg some (by kernel_rfl))
  f254 := Tryz.func67.trans (congrArg some (by kernel_rfl))
  f255 := Tryz.func87.trans (congrArg some (by kernel_rfl))
  f291 := Tryz.func88.trans (congrArg some (by kernel_rfl))
  t0 := Tryz.underlying0
  a0 := Tryz.isAgg0
  z0 := Tryz.sizeOf0
  v0 := Tryz.zeroValue0
  t3 := Tryz.underlying3
  a3 := Tryz.isAgg3
  z3 := Tryz.sizeOf3
  v3 := Tryz.zeroValue3
  t4 := Tryz.underlying4
  a4 := Tryz.isAgg4
  z4 := Tryz.sizeOf4
  v4 := Tryz.zeroValue4
  t5 := Tryz.underlying5
  a5 := Tryz.isAgg5
  z5 := Tryz.sizeOf5
  v5 := Tryz.zeroValue5
  t9 := Tryz.underlying9
  a9 := Tryz.isAgg9
  z9 := Tryz.sizeOf9
  v9 := Tryz.zeroValue9
  t37 := Tryz.underlying22
  a37 := Tryz.isAgg22
  z37 := Tryz.sizeOf22
  v37 := Tryz.zeroValue22
  t46 := Tryz.underlying98
  a46 := Tryz.isAgg98
  z46 := Tryz.sizeOf98
  v46 := Tryz.zeroValue98
  t51 := Tryz.underlying79
  a51 := Tryz.isAgg79
  z51 := Tryz.sizeOf79
  v51 := Tryz.zeroValue79
  t146 := Tryz.underlying115
  a146 := Tryz.isAgg115
  z146 := Tryz.sizeOf115
  v146 := Tryz.zeroValue115
  g1 := by kernel_rfl
  i0 := by kernel_rfl
  i3 := by kernel_rfl
  i4 := by kernel_rfl
  i5 := by kernel_rfl
  i9 := by kernel_rfl
  i37 := by kernel_rfl
  i46 := by kernel_rfl
  i51 := by kernel_rfl
  i146 := by kernel_rfl
  m1 := by kernel_rfl
  s1_3 := fun w h => Go.Proofs.cell_of_shapedOpen_int (zero := #[.int .i64 0]) (t := 3) h (of_decide_eq_true (by kernel_rfl)) (by kernel_rfl) rfl (by kernel_rfl) (by kernel_rfl) Tryz.underlying3 }
def Tryz.layBIndexByte_ren : Go.Shelf.Ren := ⟨fun | 187 => 62 | 255 => 87 | n => n, fun | 37 => 22 | 5 => 5 | 3 => 3 | n => n, fun | n => n⟩
theorem Tryz.layBIndexByte : Go.Proofs.Lays.n187 Tryz.prog Tryz.layBIndexByte_ren := {
  mixed := by kernel_rfl
  f187 := Tryz.func62.trans (congrArg some (by kernel_rfl))
  f255 := Tryz.func87.trans (congrArg some (by kernel_rfl))
  t3 := Tryz.underlying3
  a3 := Tryz.isAgg3
  z3 := Tryz.sizeOf3
  v3 := Tryz.zeroValue3
  t5 := Tryz.underlying5
  a5 := Tryz.isAgg5
  z5 := Tryz.sizeOf5
  v5 := Tryz.zeroValue5
  t37 := Tryz.underlying22
  a37 := Tryz.isAgg22
  z37 := Tryz.sizeOf22
  v37 := Tryz.zeroValue22 }
def Tryz.layBTrimLeft_ren : Go.Shelf.Ren := ⟨fun | 8 => 107 | 9 => 120 | 11 => 121 | 12 => 122 | 14 => 123 | 16 => 137 | 17 => 89 | 18 => 138 | 20 => 108 | n => n, fun | 22 => 22 | 9 => 9 | 3 => 3 | 4 => 4 | 5 => 5 | 28 => 163 | 27 => 162 | 0 => 0 | 31 => 166 | 33 => 117 | 21 => 21 | 36 => 136 | 37 => 98 | 40 => 169 | 39 => 168 | n => n, fun | 0 => 2 | 1 => 3 | n => n⟩
theorem Tryz.layBTrimLeft : Go.Proofs.SlLaysV.n8 Tryz.prog Tryz.layBTrimLeft_ren := {
  mixed := by kernel_rfl
  f8 := Tryz.func107.trans (congrArg some (by kernel_rfl))
  f9 := Tryz.func120.trans (congrArg some (by kernel_rfl))
  f11 := Tryz.func121.trans (congrArg some (by kernel_rfl))
  f12 := Tryz.func122.trans (congrArg some (by kernel_rfl))
  f14 := Tryz.func123.trans (congrArg some (by kernel_rfl))
  f16 := Tryz.func137.trans (congrArg some (by kernel_rfl))
  f17 := Tryz.func89.trans (congrArg some (by kernel_rfl))
  f18 := Tryz.func138.trans (congrArg some (by kernel_rfl))
  f20 := Tryz.func108.trans (congrArg some (by kernel_rfl))
  t0 := Tryz.underlying0
  a0 := Tryz.isAgg0
  z0 := Tryz.sizeOf0
  v0 := Tryz.zeroValue0
  t3 := Tryz.underlying3
  a3 := Tryz.isAgg3
  z3 := Tryz.sizeOf3
  v3 := Tryz.zeroValue3
  t4 := Tryz.underlying4
  a4 := Tryz.isAgg4
  z4 := Tryz.sizeOf4
  v4 := Tryz.zeroValue4
  t5 := Tryz.underlying5
  a5 := Tryz.isAgg5
  z5 := Tryz.sizeOf5
  v5 := Tryz.zeroValue5
  t9 := Tryz.underlying9
  a9 := Tryz.isAgg9
  z9 := Tryz.sizeOf9
  v9 := Tryz.zeroValue9
  t21 := Tryz.underlying21
  a21 := Tryz.isAgg21
  z21 := Tryz.sizeOf21
  v21 := Tryz.zeroValue21
  t22 := Tryz.underlying22
  a22 := Tryz.isAgg22
  z22 := Tryz.sizeOf22
  v22 := Tryz.zeroValue22
  t27 := Tryz.underlying162
  a27 := Tryz.isAgg162
  z27 := Tryz.sizeOf162
  t28 := Tryz.underlying163
  a28 := Tryz.isAgg163
  z28 := Tryz.sizeOf163
  v28 := Tryz.zeroValue163
  t31 := Tryz.underlying166
  a31 := Tryz.isAgg166
  z31 := Tryz.sizeOf166
  v31 := Tryz.zeroValue166
  t33 := Tryz.underlying117
  a33 := Tryz.isAgg117
  z33 := Tryz.sizeOf117
  v33 := Tryz.zeroValue117
  t36 := Tryz.underlying136
  a36 := Tryz.isAgg136
  z36 := Tryz.sizeOf136
  t37 := Tryz.underlying98
  a37 := Tryz.isAgg98
  z37 := Tryz.sizeOf98
  v37 := Tryz.zeroValue98
  t39 := Tryz.underlying168
  a39 := Tryz.isAgg168
  z39 := Tryz.sizeOf168
  v39 := Tryz.zeroValue168
  t40 := Tryz.underlying169
  a40 := Tryz.isAgg169
  z40 := Tryz.sizeOf169
  v40 := Tryz.zeroValue169 }
def Tryz.layBCount_ren : Go.Shelf.Ren := ⟨fun | 13 => 110 | 24 => 124 | 25 => 125 | 12 => 41 | 31 => 139 | 19 => 62 | 20 => 14 | 21 => 65 | 22 => 66 | 23 => 67 | 29 => 87 | 30 => 88 | n => n, fun | 22 => 22 | 3 => 3 | 4 => 4 | 0 => 0 | 5 => 5 | 9 => 9 | 33 => 98 | 40 => 115 | 39 => 79 | n => n, fun | 0 => 0 | n => n⟩
theorem Tryz.layBCount : Go.Proofs.SlLaysC.n13 Tryz.prog Tryz.layBCount_ren := {
  mixed := by kernel_rfl
  f12 := Tryz.func41.trans (congrArg some (by kernel_rfl))
  f13 := Tryz.func110.trans (congrArg some (by kernel_rfl))
  f19 := Tryz.func62.trans (congrArg some (by kernel_rfl))
  f20 := Tryz.func14.trans (congrArg some (by kernel_rfl))
  f21 := Tryz.func65.trans (congrArg some (by kernel_rfl))
  f22 := Tryz.func66.trans (congrArg some (by kernel_rfl))
  f23 := Tryz.func67.trans (congrArg some (by kernel_rfl))
  f25 := Tryz.func125.trans (congrArg some (by kernel_rfl))
  f29 := Tryz.func87.trans (congrArg some (by kernel_rfl))
  f30 := Tryz.func88.trans (congrArg some (by kernel_rfl))
  t0 := Tryz.underlying0
  a0 := Tryz.isAgg0
  z0 := Tryz.sizeOf0
  v0 := Tryz.zeroValue0
  t3 := Tryz.underlying3
  a3 := Tryz.isAgg3
  z3 := Tryz.sizeOf3
  v3 := Tryz.zeroValue3
  t4 := Tryz.underlying4
  a4 := Tryz.isAgg4
  z4 := Tryz.sizeOf4
  v4 := Tryz.zeroValue4
  t5 := Tryz.underlying5
  a5 := Tryz.isAgg5
  z5 := Tryz.sizeOf5
  v5 := Tryz.zeroValue5
  t9 := Tryz.underlying9
  a9 := Tryz.isAgg9
  z9 := Tryz.sizeOf9
  v9 := Tryz.zeroValue9
  t22 := Tryz.underlying22
  a22 := Tryz.isAgg22
  z22 := Tryz.sizeOf22
  v22 := Tryz.zeroValue22
  t33 := Tryz.underlying98
  a33 := Tryz.isAgg98
  z33 := Tryz.sizeOf98
  v33 := Tryz.zeroValue98
  t39 := Tryz.underlying79
  a39 := Tryz.isAgg79
  z39 := Tryz.sizeOf79
  v39 := Tryz.zeroValue79
  t40 := Tryz.underlying115
  a40 := Tryz.isAgg115
  z40 := Tryz.sizeOf115
  v40 := Tryz.zeroValue115
  g0 := by kernel_rfl }
def Tryz.layBufWrite_ren : Go.Shelf.Ren := ⟨fun | 180 => 49 | 251 => 72 | 252 => 73 | 181 => 91 | 184 => 92 | 290 => 93 | 324 => 109 | n => n, fun | 130 => 101 | 37 => 22 | 3 => 3 | 75 => 67 | 0 => 0 | 93 => 63 | 91 => 61 | 131 => 71 | 4 => 4 | 20 => 20 | 5 => 5 | 80 => 70 | 9 => 9 | n => n, fun | 14 => 1 | n => n⟩
theorem Tryz.layBufWrite : Go.Proofs.LaysM.n180 Tryz.prog Tryz.layBufWrite_ren := {
  mixed := by kernel_rfl
  f180 := Tryz.func49.trans (congrArg some (by kernel_rfl))
  f181 := Tryz.func91.trans (congrArg some (by kernel_rfl))
  f184 := Tryz.func92.trans (congrArg some (by kernel_rfl))
  f251 := Tryz.func72.trans (congrArg some (by kernel_rfl))
  f252 := Tryz.func73.trans (congrArg some (by kernel_rfl))
  f290 := Tryz.func93.trans (congrArg some (by kernel_rfl))
  f324 := Tryz.func109.trans (congrArg some (by kernel_rfl))
  t0 := Tryz.underlying0
  a0 := Tryz.isAgg0
  z0 := Tryz.sizeOf0
  v0 := Tryz.zeroValue0
  t3 := Tryz.underlying3
  a3 := Tryz.isAgg3
  z3 := Tryz.sizeOf3
  v3 := Tryz.zeroValue3
  t4 := Tryz.underlying4
  a4 := Tryz.isAgg4
  z4 := Tryz.sizeOf4
  v4 := Tryz.zeroValue4
  t20 := Tryz.underlying20
  a20 := Tryz.isAgg20
  z20 := Tryz.sizeOf20
  v20 := Tryz.zeroValue20
  t37 := Tryz.underlying22
  a37 := Tryz.isAgg22
  z37 := Tryz.sizeOf22
  v37 := Tryz.zeroValue22
  t75 := Tryz.underlying67
  a75 := Tryz.isAgg67
  z75 := Tryz.sizeOf67
  v75 := Tryz.zeroValue67
  t91 := Tryz.underlying61
  a91 := Tryz.isAgg61
  z91 := Tryz.sizeOf61
  v91 := Tryz.zeroValue61
  t93 := Tryz.underlying63
  a93 := Tryz.isAgg63
  z93 := Tryz.sizeOf63
  v93 := Tryz.zeroValue63
  t130 := Tryz.underlying101
  a130 := Tryz.isAgg101
  z130 := Tryz.sizeOf101
  v130 := Tryz.zeroValue101
  t131 := Tryz.underlying71
  a131 := Tryz.isAgg71
  z131 := Tryz.sizeOf71
  v131 := Tryz.zeroValue71
  g14 := by kernel_rfl
  t5 := Tryz.underlying5
  a5 := Tryz.isAgg5
  z5 := Tryz.sizeOf5
  v5 := Tryz.zeroValue5
  t9 := Tryz.underlying9
  a9 := Tryz.isAgg9
  z9 := Tryz.sizeOf9
  v9 := Tryz.zeroValue9
  t80 := Tryz.underlying70
  a80 := Tryz.isAgg70
  z80 := Tryz.sizeOf70
  v80 := Tryz.zeroValue70
  i0 := by kernel_rfl
  i3 := by kernel_rfl
  i4 := by kernel_rfl
  i5 := by kernel_rfl
  i9 := by kernel_rfl
  i20 := by kernel_rfl
  i37 := by kernel_rfl
  i75 := by kernel_rfl
  i80 := by kernel_rfl
  i91 := by kernel_rfl
  i93 := by kernel_rfl
  i130 := by kernel_rfl
  i131 := by kernel_rfl
  m14 := by kernel_rfl }
def Tryz.layBufString_ren : Go.Shelf.Ren := ⟨fun | 182 => 51 | n => n, fun | 130 => 101 | 9 => 9 | 4 => 4 | 0 => 0 | 93 => 63 | 37 => 22 | 3 => 3 | 91 => 61 | 5 => 5 | n => n, fun | n => n⟩
theorem Tryz.layBufString : Go.Proofs.LaysM.n182 Tryz.prog Tryz.layBufString_ren := {
  mixed := by kernel_rfl
  f182 := Tryz.func51.trans (congrArg some (by kernel_rfl))
  t0 := Tryz.underlying0
  a0 := Tryz.isAgg0
  z0 := Tryz.sizeOf0
  v0 := Tryz.zeroValue0
  t3 := Tryz.underlying3
  a3 := Tryz.isAgg3
  z3 := Tryz.sizeOf3
  v3 := Tryz.zeroValue3
  t4 := Tryz.underlying4
  a4 := Tryz.isAgg4
  z4 := Tryz.sizeOf4
  v4 := Tryz.zeroValue4
  t9 := Tryz.underlying9
  a9 := Tryz.isAgg9
  z9 := Tryz.sizeOf9
  v9 := Tryz.zeroValue9
  t37 := Tryz.underlying22
  a37 := Tryz.isAgg22
  z37 := Tryz.sizeOf22
  v37 := Tryz.zeroValue22
  t93 := Tryz.underlying63
  a93 := Tryz.isAgg63
  z93 := Tryz.sizeOf63
  v93 := Tryz.zeroValue63
  t130 := Tryz.underlying101
  a130 := Tryz.isAgg101
  z130 := Tryz.sizeOf101
  v130 := Tryz.zeroValue101
  t5 := Tryz.underlying5
  a5 := Tryz.isAgg5
  z5 := Tryz.sizeOf5
  v5 := Tryz.zeroValue5
  t91 := Tryz.underlying61
  a91 := Tryz.isAgg61
  z91 := Tryz.sizeOf61
  v91 := Tryz.zeroValue61
  i0 := by kernel_rfl
  i3 := by kernel_rfl
  i4 := by kernel_rfl
  i5 := by kernel_rfl
  i9 := by kernel_rfl
  i37 := by kernel_rfl
  i91 := by kernel_rfl
  i93 := by kernel_rfl
  i130 := by kernel_rfl }
end Go.Proofs
end
section
/- Go's library functions, as the evaluator asks for them: out of the shelf's contracts. -/
set_option linter.unusedVariables false
set_option linter.unusedSimpArgs false
namespace Go.Proofs.YtccfmfifnbnlmaaGreatDoor.Ev
open Go Go.RowKit Go.Proofs.YtccfmfifnbnlmaaGreatDoorH Go.Proofs.YtccfmfifnbnlmaaGreatDoorW.PrintWords
section
variable {U : Nat → Type} {C : Codec U}
/-! ### strings -/
def indexByteF : List (AVal U) → Option (AVal U)
 | [.str s,.int .u8 x] => (Q.strings_IndexByte.f s x).bind fun r => some (.int .i64 r)
 | _ => none
theorem indexByte_ok : CallOk (R := Rr U) Tryz.prog C 96 (asExt indexByteF) := by
 refine callOk_ext fun args v h g w cs ha hi hw => ?_
 unfold indexByteF at h
 split at h
 · rename_i s x
   obtain ⟨r,h1,h2⟩ := bind2 h
   obtain rfl := Option.some.inj h2
   obtain ⟨c,d,rfl,hc,hd⟩ := RelVs.two ha
   cases hc; cases hd
   obtain rfl := Option.some.inj h1
   exact (Any.strings_IndexByte Tryz.layIndexByte s x w).mono fun e w' ⟨h3,h4⟩ => ⟨_,h3,h4 ▸ Below.refl _ _,.int _ _⟩
 · cases h
/-! ### Go's decoder -/
set_option maxHeartbeats 2000000 in
set_option maxRecDepth 100000 in
theorem rune_slow_zero (A0 : Option Addr) (c0 : Nat) (w : World) :
 Calls Tryz.prog 108 #[.slice A0 0 c0] w fun e w' => e = .returned (.tuple #[.int .i32 65533,.int .i64 0]) ∧ w' = w := by
 go_enter Tryz.func108,Tryz.ntmps108
 go_wp2
 go_ret2
 exact ⟨rfl,rfl⟩
set_option maxHeartbeats 2000000 in
set_option maxRecDepth 100000 in
theorem rune_zero (A0 : Option Addr) (c0 : Nat) (w : World) :
 Calls Tryz.prog 89 #[.slice A0 0 c0] w fun e w' => e = .returned (.tuple #[.int .i32 65533,.int .i64 0]) ∧ w' = w := by
 go_enter Tryz.func89,Tryz.ntmps89
 go_wp2
 go_loop [8] (fun i => i = .int .i64 0) (fun _ => 0)
 case atStart => rfl
 case round =>
  subst hrel
  go_wp2_with (go_at_call 108; refine (rune_slow_zero _ _ _).mono ?_; rintro e w' ⟨rfl,rfl⟩)
  go_ret2
  exact ⟨rfl,rfl⟩
theorem RelVs.nums {g : Gh} {k : IntKind} : ∀ {l : List Int} {vs : List Value},RelVs C g (cellsAll C (.int k) l) vs → vs = l.map (Value.int k)
 | [],vs,h => by cases h; rfl
 | s :: r,vs,h => by
  cases h with
  | cons hv hs => cases hv; rw [RelVs.nums hs]; rfl
def runeF : List (AVal U) → Option (AVal U)
 | [.sl (.int .u8) l p] => (Q.utf8_DecodeRune.f l).bind fun r => some (.tup [.int .i32 r.1,.int .i64 r.2])
 | _ => none
theorem rune_ok : CallOk (R := Rr U) Tryz.prog C 89 (asExt runeF) := by
 refine callOk_ext fun args v h g w cs ha hi hw => ?_
 unfold runeF at h
 split at h
 · rename_i l p
   obtain ⟨r,h1,h2⟩ := bind2 h
   obtain rfl := Option.some.inj h2
   obtain ⟨c,rfl,hc⟩ := RelVs.one ha
   obtain ⟨w0,hw1,hw2⟩ := hw
   have hL : Laid w := Laid_below hw2.1 hw1
   unfold Q.utf8_DecodeRune.f at h1
   by_cases hb : (l.all fun x => decide (0 ≤ x) && decide (x < 256)) = true
   · rw [if_pos hb] at h1
     obtain rfl := Option.some.inj h1
     have fin : ∀ {a b : Int} {g : Gh},RelV C g (.tup [.int .i32 a,.int .i64 b]) (.tuple #[.int .i32 a,.int .i64 b]) := fun {a b g} => .tup (.cons (.int _ _) (.cons (.int _ _) .nil))
     cases hc with
     | sle => exact (rune_zero (some _) 0 w).mono fun e w' ⟨h3,h4⟩ => ⟨_,h3,h4 ▸ Below.refl _ _,fin⟩
     | sl0 => exact (rune_zero none 0 w).mono fun e w' ⟨h3,h4⟩ => ⟨_,h3,h4 ▸ Below.refl _ _,fin⟩
     | sl hs hm hl hp =>
      rename_i blk off cap vs
      obtain rfl := RelVs.nums hs
      have hsz : (strOfNums l).size = l.length := strOfNums_size l
      cases l with
      | nil => exact (rune_zero (some ⟨blk,off,none⟩) cap w).mono fun e w' ⟨h3,h4⟩ => ⟨_,h3,h4 ▸ Below.refl _ _,fin⟩
      | cons x0 l0 =>
       have hp : ∀ j,j < (strOfNums (x0 :: l0)).size → w.cell? ⟨blk,off + j,none⟩ = some (.int .u8 ((strOfNums (x0 :: l0)).get! j).toNat) := by
        intro j hj
        rw [hsz] at hj
        have hx : (x0 :: l0)[j]? = some (x0 :: l0)[j] := List.getElem?_eq_getElem hj
        rw [hi _ _ _ (hm j (.int .u8 (x0 :: l0)[j]) (by rw [List.getElem?_map,hx]; rfl))]
        have hq : 0 ≤ (x0 :: l0)[j] ∧ (x0 :: l0)[j] < 256 := by
         have := List.all_eq_true.1 hb _ (List.getElem_mem hj)
         simpa using this
        have key : ∀ z : Int,0 ≤ z ∧ z < 256 → some (Value.int .u8 z) = some (Value.int .u8 ((UInt8.ofNat z.toNat).toNat : Int)) := by
         intro z hz
         simp
         omega
        rw [strOfNums_get! (x0 :: l0) j hj]
        exact key _ hq
       have C := Any7.utf8_DecodeRune Tryz.layDecodeRune (strOfNums (x0 :: l0)) blk off cap w hL hp
       rw [hsz] at C
       exact C.mono fun e w' ⟨h3,h4⟩ => ⟨_,h3,h4,fin⟩
   · rw [if_neg hb] at h1; cases h1
 · cases h
/-! ### their words -/
section
variable {R : Type}
def indexByteS : List (AVal U) → St U → (Res U → St U → Option R) → Option R := fun args st K => match args with
 | [.str s,.int .u8 x] => (Q.strings_IndexByte.f s x).bind fun r => K (.ret (.int .i64 r)) st
 | _ => none
def runeS : List (AVal U) → St U → (Res U → St U → Option R) → Option R := fun args st K => match args with
 | [.sl (.int .u8) l p] => (Q.utf8_DecodeRune.f l).bind fun r => K (.ret (.tup [.int .i32 r.1,.int .i64 r.2])) st
 | _ => none
end
theorem callOk_by {f : FuncId} {F : List (AVal U) → Option (AVal U)} {S : List (AVal U) → St U → (Res U → St U → Option (Rr U)) → Option (Rr U)} (h : CallOk (R := Rr U) Tryz.prog C f (asExt F)) (e : ∀ args st K r,S args st K = some r → asExt (R := Rr U) F args st K = some r) : CallOkL Tryz.prog C f S :=
 fun args cs n K r h1 => h args (lcSt cs n) K r (e _ _ _ _ h1)
theorem indexByteS_ok : CallOkL (R := Rr U) Tryz.prog C 96 indexByteS := callOk_by indexByte_ok fun args st K r h => by
 unfold indexByteS at h
 unfold asExt indexByteF
 split at h
 · obtain ⟨v,h1,h2⟩ := bind2 h
   simp [h1,h2]
 · cases h
theorem runeS_ok : CallOkL (R := Rr U) Tryz.prog C 89 runeS := callOk_by rune_ok fun args st K r h => by
 unfold runeS at h
 unfold asExt runeF
 split at h
 · obtain ⟨v,h1,h2⟩ := bind2 h
   simp [h1,h2]
 · cases h
end
end Go.Proofs.YtccfmfifnbnlmaaGreatDoor.Ev
end
section
/- Go's library functions of bytes: Index, IndexByte, TrimLeft. -/
set_option linter.unusedVariables false
set_option linter.unusedSimpArgs false
namespace Go.Proofs.YtccfmfifnbnlmaaGreatDoor.Ev
open Go Go.RowKit
section
variable {U : Nat → Type} {C : Codec U}
def byteB (l : List Int) : Bool := l.all fun x => decide (0 ≤ x) && decide (x < 256)
theorem byteB_all {l : List Int} (h : byteB l = true) : ∀ x ∈ l,0 ≤ x ∧ x < 256 := fun x hx => by
 have := List.all_eq_true.1 h x hx
 simpa using this
theorem RelVs.ofNums {g : Gh} {k : IntKind} : ∀ l : List Int,RelVs C g (cellsAll C (.int k) l) (l.map (Value.int k))
 | [] => .nil
 | x :: r => .cons (.int k x) (RelVs.ofNums r)
/-- Where the bytes of a slice stand. -/
theorem bytes_at {g : Gh} {w : World} {l : List Int} {vs : List Value} {blk off : Nat} (hs : RelVs C g (cellsAll C (.int .u8) l) vs) (hm : Imm g blk off vs) (hi : ∀ b o x,g.own b o = .imm x → w.cell? ⟨b,o,none⟩ = some x) :
 ∀ i,i < l.length → w.cell? ((⟨blk,off,none⟩ : Addr).add i) = some (.int .u8 (l.getD i 0)) := fun i hl => by
 obtain rfl := RelVs.nums hs
 rw [Lib.addr_add]
 refine hi _ _ _ (hm i _ ?_)
 rw [List.getElem?_map,List.getElem?_eq_getElem hl,List.getD_eq_getElem?_getD,List.getElem?_eq_getElem hl]
 rfl
theorem below_drewW (w : World) (q : Nat) : RowKit.Below w.heap.size w (w.drewN q) := ⟨rfl,rfl,rfl,Nat.le_refl _,fun _ _ => rfl⟩
def bIndexW (l m : List Int) : Int := Lib.index (Lib.bytesOf l) (Lib.bytesOf m)
def bIndexF : List (AVal U) → Option (AVal U)
 | [.sl (.int .u8) l _,.sl (.int .u8) m _] => if (byteB l = true ∧ byteB m = true) ∧ (l.length < 4294967281 ∧ 0 < m.length ∧ m.length ≤ 1000) then some (.int .i64 (bIndexW l m)) else none
 | _ => none
theorem bIndex_ok : CallOk (R := Rr U) Tryz.prog C 41 (asExt bIndexF) := by
 refine callOk_ext fun args v h g w cs ha hi hw => ?_
 unfold bIndexF at h
 split at h
 · rename_i l _ m _
   split at h
   · rename_i hs
     obtain rfl := Option.some.inj h
     obtain ⟨⟨hb1,hb2⟩,h1,h2,h3⟩ := hs
     obtain ⟨c,d,rfl,hc,hd⟩ := RelVs.two ha
     obtain ⟨w0,hw1,hw2⟩ := hw
     obtain ⟨z,hz⟩ := (Tryz.layBIndex).s1_3 w0 hw2.2
     have hlt := World.block_lt_of_cell? _ _ hz
     have hz' : w.cell? _ = _ := (cell_below hw1 hlt).1.trans hz
     cases hd with
     | sl0 => exact absurd h2 (Nat.lt_irrefl 0)
     | sle => exact absurd h2 (Nat.lt_irrefl 0)
     | sl hs2 hm2 hl2 hp2 =>
      rename_i blk2 off2 cap2 vs2
      have hc2 := bytes_at hs2 hm2 hi
      cases hc with
      | sl0 =>
       refine (Any.bytes_Index_nil { Tryz.layBIndex with } _ _ _ w (by omega) (fun hk => ⟨_,_,m.getD 0 0,rfl,?_⟩)).mono fun e w' ⟨h4,h5⟩ => ⟨_,h4,h5 ▸ Below.refl _ _,?_⟩
       · have := hc2 0 (by omega)
         rwa [Lib.addr_add] at this
       · rw [if_neg (by omega)]
         have : bIndexW [] m = -1 := by
          unfold bIndexW Lib.index Lib.bytesOf
          cases m with
          | nil => exact absurd h2 (Nat.lt_irrefl 0)
          | cons a r => rfl
         rw [this]
         exact .int _ _
      | sle =>
       refine (Any.bytes_Index_at { Tryz.layBIndex with } _ _ _ _ _ _ [] m z w rfl rfl (fun x hx => by cases hx) (byteB_all hb2) (fun i hi => absurd hi (Nat.not_lt_zero i)) hc2 (Nat.le_refl _) (by decide) (by omega) hz').mono fun e w' ⟨h4,q,h5⟩ => ?_
       subst h5
       exact ⟨_,h4,below_drewW _ _,.int _ _⟩
      | sl hs1 hm1 hl1 hp1 =>
       refine (Any.bytes_Index_at { Tryz.layBIndex with } _ _ _ _ _ _ l m z w rfl rfl (byteB_all hb1) (byteB_all hb2) (bytes_at hs1 hm1 hi) hc2 hl1 h1 (by omega) hz').mono fun e w' ⟨h4,q,h5⟩ => ?_
       subst h5
       exact ⟨_,h4,below_drewW _ _,.int _ _⟩
   · cases h
 · cases h
def bIndexByteF : List (AVal U) → Option (AVal U)
 | [.sl (.int .u8) l _,.int .u8 x] => some (.int .i64 (Lib.indexByte (Lib.bytesOf l) x.toNat.toUInt8))
 | _ => none
set_option maxHeartbeats 2000000 in
set_option maxRecDepth 100000 in
theorem bIndexByte_nil (x : Int) (w : World) : Calls Tryz.prog 62 #[.slice none 0 0,.int .u8 x] w fun e w' => e = .returned (.int .i64 (-1)) ∧ w' = w :=
 Any.bytes_IndexByte_nil Tryz.layBIndexByte x w
theorem bIndexByte_ok : CallOk (R := Rr U) Tryz.prog C 62 (asExt bIndexByteF) := by
 refine callOk_ext fun args v h g w cs ha hi hw => ?_
 unfold bIndexByteF at h
 split at h
 · rename_i l _ x
   obtain rfl := Option.some.inj h
   obtain ⟨c,d,rfl,hc,hd⟩ := RelVs.two ha
   cases hd
   cases hc with
   | sl0 => exact (bIndexByte_nil x w).mono fun e w' ⟨h4,h5⟩ => ⟨_,h4,h5 ▸ Below.refl _ _,.int _ _⟩
   | sle => exact (Any.bytes_IndexByte_at Tryz.layBIndexByte _ _ _ [] x w rfl (fun i hi => absurd hi (Nat.not_lt_zero i))).mono fun e w' ⟨h4,h5⟩ => ⟨_,h4,h5 ▸ Below.refl _ _,.int _ _⟩
   | sl hs1 hm1 hl1 hp1 => exact (Any.bytes_IndexByte_at Tryz.layBIndexByte _ _ _ l x w rfl (bytes_at hs1 hm1 hi)).mono fun e w' ⟨h4,h5⟩ => ⟨_,h4,h5 ▸ Below.refl _ _,.int _ _⟩
 · cases h
end
section
variable {U : Nat → Type} {R : Type}
def bIndexS : List (AVal U) → St U → (Res U → St U → Option R) → Option R := fun args st K => match args with
 | [.sl (.int .u8) l _,.sl (.int .u8) m _] => if (byteB l = true ∧ byteB m = true) ∧ (l.length < 4294967281 ∧ 0 < m.length ∧ m.length ≤ 1000) then K (.ret (.int .i64 (bIndexW l m))) st else none
 | _ => none
def bIndexByteS : List (AVal U) → St U → (Res U → St U → Option R) → Option R := fun args st K => match args with
 | [.sl (.int .u8) l _,.int .u8 x] => K (.ret (.int .i64 (Lib.indexByte (Lib.bytesOf l) x.toNat.toUInt8))) st
 | _ => none
end
section
variable {U : Nat → Type} {C : Codec U}
theorem bIndexS_ok : CallOkL (R := Rr U) Tryz.prog C 41 bIndexS := callOk_by bIndex_ok fun args st K r h => by
 unfold bIndexS at h
 unfold asExt bIndexF
 split at h
 · split at h
   · rename_i h1
     rw [if_pos h1]; exact h
   · cases h
 · cases h
theorem bIndexByteS_ok : CallOkL (R := Rr U) Tryz.prog C 62 bIndexByteS := callOk_by bIndexByte_ok fun args st K r h => by
 unfold bIndexByteS at h
 unfold asExt bIndexByteF
 split at h
 · exact h
 · cases h
end
end Go.Proofs.YtccfmfifnbnlmaaGreatDoor.Ev
end
section
/- bytes.TrimLeft at a set of ASCII signs, of a slice of any room: walked. -/
set_option linter.unusedVariables false
set_option linter.unusedSimpArgs false
namespace Go.Proofs.YtccfmfifnbnlmaaGreatDoor.Ev
open Go Go.RowKit
def allIn8 (cs bs : List UInt8) (j : Nat) : Prop := ∀ i y,i < j → bs[i]? = some y → cs.contains y = true
theorem allIn8_succ {cs bs : List UInt8} {j : Nat} {x : UInt8} (h : allIn8 cs bs j) (hx : bs[j]? = some x) (hin : cs.contains x = true) : allIn8 cs bs (j + 1) := fun i y hi hy => by
 rcases Nat.lt_or_ge i j with h1 | h1
 · exact h i y h1 hy
 · obtain rfl : i = j := by omega
   rw [hx] at hy
   obtain rfl := Option.some.inj hy
   exact hin
set_option maxHeartbeats 4000000 in
set_option maxRecDepth 100000 in
theorem trimASCII_walk (p : Option Addr) (n c : Nat) (bs : List UInt8) (b : Nat) (cs : List UInt8) (w : World) (hb : bs.length = n) (hnc : n ≤ c) (h1 : Lib.BytesAt w p n bs) (hset : ∀ x : UInt8,w.cell? ⟨b,x.toNat,none⟩ = some (.bool (cs.contains x))) :
 Calls Tryz.prog 122 #[.slice p n c,.pointer (some ⟨b,0,none⟩)] w fun e w' => (∃ j q,e = .returned (.slice q (n - j) (c - j)) ∧ j < n ∧ q = p.map (·.add j) ∧ allIn8 cs bs j ∧ ∀ y,bs[j]? = some y → cs.contains y = false) ∧ w' = w ∨ (e = .returned (.slice none 0 0) ∧ allIn8 cs bs n) ∧ w' = w := by
 have HS : Aside _ := hset
 have H1 : Aside _ := h1
 clear hset h1
 go_enter Tryz.func122,Tryz.ntmps122
 go_wp2
 go_loopg [0] n (fun k s wr => ∃ j q,j ≤ n ∧ n - j ≤ k ∧ s = .slice q (n - j) (c - j) ∧ wr = w ∧ Aside ((j < n → q = p.map (·.add j)) ∧ allIn8 cs bs j))
 case atStart =>
  have I0 : Aside ((0 < n → p = p.map (·.add 0)) ∧ allIn8 cs bs 0) := ⟨fun _ => by cases p <;> simp [WideShapes.add_plain,Addr.add],fun i y hi => absurd hi (Nat.not_lt_zero _)⟩
  exact ⟨0,p,Nat.zero_le _,by omega,rfl,rfl,I0⟩
 case round =>
  obtain ⟨j,q,hjn,hk,rfl,rfl,I⟩ := hrel
  by_cases h0 : j < n
  · obtain ⟨blk,o,rfl,hc⟩ := H1.out (by omega)
    obtain rfl : q = some ⟨blk,o + j,none⟩ := by rw [I.out.1 h0]; simp [WideShapes.add_plain]
    obtain ⟨x,hx,hct⟩ : ∃ x,bs[j]? = some x ∧ wr.cell? ⟨blk,o + j,none⟩ = some (.int .u8 x.toNat) := by
     have hj : j < bs.length := by omega
     refine ⟨bs[j],List.getElem?_eq_getElem hj,?_⟩
     have := hc j h0
     rwa [List.getD_eq_getElem?_getD,List.getElem?_eq_getElem hj] at this
    have HX : Aside (bs[j]? = some x) := hx
    clear hx hc
    have hcx := HS.out x
    obtain ⟨m,hm⟩ : ∃ m,n - j = m + 1 := ⟨n - j - 1,by omega⟩
    obtain ⟨d,hd⟩ : ∃ d,c - j = d + 1 := ⟨c - j - 1,by omega⟩
    have hmd : m ≤ d := by omega
    rw [hm,hd]
    cases hin : cs.contains x with
    | false =>
     rw [hin] at hcx
     have HI : Aside (cs.contains x = false) := hin
     clear hin
     go_wp2_with (go_at_call 137; refine (Any.bytes_asciiSet_contains { Tryz.layBTrimLeft with } _ x _ _ hcx).mono ?_; rintro e w' ⟨rfl,hw⟩; rw [hw])
     go_ret
     refine .inl ⟨⟨j,some ⟨blk,o + j,none⟩,?_,h0,by simp [WideShapes.add_plain],I.out.2,fun y hy => ?_⟩,rfl⟩
     · rw [hm,hd]; first | rfl | simp
     · rw [HX.out] at hy
       obtain rfl := Option.some.inj hy
       exact HI.out
    | true =>
     rw [hin] at hcx
     have HI : Aside (cs.contains x = true) := hin
     clear hin
     have K : Aside (allIn8 cs bs (j + 1)) := allIn8_succ I.out.2 HX.out HI.out
     by_cases hd0 : d = 0
     · subst hd0
       obtain rfl : m = 0 := by omega
       go_wp2_with (go_at_call 137; refine (Any.bytes_asciiSet_contains { Tryz.layBTrimLeft with } _ x _ _ hcx).mono ?_; rintro e w' ⟨rfl,hw⟩; rw [hw])
       go_roundg 0
       case measure => omega
       case rel =>
        have I3 : Aside ((j + 1 < n → some (⟨blk,o + j,none⟩ : Addr) = (some (⟨blk,o,none⟩ : Addr)).map (·.add (j + 1))) ∧ allIn8 cs bs (j + 1)) := ⟨fun h => by exfalso; omega,K.out⟩
        exact ⟨j + 1,some ⟨blk,o + j,none⟩,by omega,by omega,by rw [show n - (j + 1) = 0 by omega,show c - (j + 1) = 0 by omega],rfl,I3⟩
     · go_wp2_with (go_at_call 137; refine (Any.bytes_asciiSet_contains { Tryz.layBTrimLeft with } _ x _ _ hcx).mono ?_; rintro e w' ⟨rfl,hw⟩; rw [hw])
       go_roundg m
       case measure => omega
       case rel =>
        have I3 : Aside ((j + 1 < n → some (⟨blk,o + j + 1,none⟩ : Addr) = (some (⟨blk,o,none⟩ : Addr)).map (·.add (j + 1))) ∧ allIn8 cs bs (j + 1)) := ⟨fun _ => by simp [WideShapes.add_plain,Nat.add_assoc],K.out⟩
        exact ⟨j + 1,some ⟨blk,o + j + 1,none⟩,by omega,by omega,by rw [show n - (j + 1) = m by omega,show c - (j + 1) = d by omega],rfl,I3⟩
  · obtain rfl : j = n := by omega
    rw [Nat.sub_self]
    go_wp2
    go_ret
    exact .inr ⟨⟨by first | rfl | simp,I.out.2⟩,rfl⟩
theorem set_zero : (Tryz.prog.info? 162).map (fun i => (i.zero,i.size)) = some (some (.agg (Array.replicate 256 (.bool false))),256) := by kernel_rfl
set_option maxHeartbeats 4000000 in
set_option maxRecDepth 100000 in
theorem bTrim_walk (p : Option Addr) (n c : Nat) (bs : List UInt8) (cs : ByteArray) (w : World) (hb : bs.length = n) (hnc : n ≤ c) (h1 : Lib.BytesAt w p n bs) (h2 : 2 ≤ cs.size) (hs : cs.size < 4294967281) (ha : ∀ (j : Nat) b,cs.data.toList[j]? = some b → b.toNat < 128) :
 Calls Tryz.prog 107 #[.slice p n c,.string cs] w fun e w' => ((∃ j q,e = .returned (.slice q (n - j) (c - j)) ∧ j < n ∧ q = p.map (·.add j) ∧ allIn8 cs.data.toList bs j ∧ ∀ y,bs[j]? = some y → cs.data.toList.contains y = false) ∨ (e = .returned (.slice none 0 0) ∧ allIn8 cs.data.toList bs n)) ∧ Below w.heap.size w w' := by
 have hz := zero_of_info set_zero
 by_cases hn : n = 0
 · subst hn
   go_enter Tryz.func107,Tryz.ntmps107
   go_wp2
   go_ret
   exact ⟨.inr ⟨rfl,fun i y hi => absurd hi (Nat.not_lt_zero _)⟩,Below.refl _ _⟩
 have hM : Calls Tryz.prog 121 #[.string cs] w fun e w' => e = .returned (.tuple #[.agg (Lib.setCells cs.data.toList),.bool true]) ∧ w' = w.alloc (.cells (Lib.setCells cs.data.toList) 162) := Any.bytes_makeASCIISet { Tryz.layBTrimLeft with } hz.1 hz.2 cs w hs ha
 have he : cs.toList.isEmpty = false := by
  rw [Lib.toList_data]
  cases h : cs.data.toList with
  | nil => have := Lib.size_eq cs; rw [h,List.length_nil] at this; omega
  | cons _ _ => rfl
 have hn0 : ((n : Int) == 0) = false := beq_eq_false_iff_ne.2 (by omega)
 have hn1 : ((cs.size : Int) == 1) = false := beq_eq_false_iff_ne.2 (by omega)
 have hst : (storeCells ⟨w.heap.size + 1,0,none⟩ (Lib.setCells cs.data.toList).toList 0).run Tryz.prog ((w.alloc (.cells (Lib.setCells cs.data.toList) 162)).alloc (.cells (Array.replicate 256 (.bool false)) 162)) = .ok () ((w.alloc (.cells (Lib.setCells cs.data.toList) 162)).alloc (.cells (Lib.setCells cs.data.toList) 162)) := by
  have := run_storeCells_new (P := Tryz.prog) (w.alloc (.cells (Lib.setCells cs.data.toList) 162)) 162 (Array.replicate 256 (.bool false)) (Lib.setCells cs.data.toList) (by rw [Lib.setCells_size]; exact hz.2) (by rw [Lib.setCells_size,Array.size_replicate]) (Lib.setCells_one _)
  simpa using this
 have hset : ∀ x : UInt8,((w.alloc (.cells (Lib.setCells cs.data.toList) 162)).alloc (.cells (Lib.setCells cs.data.toList) 162)).cell? ⟨w.heap.size + 1,x.toNat,none⟩ = some (.bool (cs.data.toList.contains x)) := fun x => by
  rw [World.cell?_alloc_at _ _ _ _ (by simp),Lib.setCells_at]
 have hB : Below w.heap.size w ((w.alloc (.cells (Lib.setCells cs.data.toList) 162)).alloc (.cells (Lib.setCells cs.data.toList) 162)) := ((Below.refl _ _).alloc (Nat.le_refl _) _).alloc (by simp) _
 have hT := trimASCII_walk p n c bs (w.heap.size + 1) cs.data.toList _ hb hnc (h1.below hB) hset
 have HB : Aside _ := hB
 have HZ := Tryz.sizeOf162
 clear hset h1 hB
 go_enter Tryz.func107,Tryz.ntmps107
 go_wp2_with (go_at_call 121; refine hM.mono ?_; rintro e w' ⟨rfl,hw⟩; rw [hw])
 clear hM hst
 go_wp2_with (go_at_call 122; refine hT.mono ?_; rintro e w' (⟨⟨j,q,rfl,h3,h4,h5,h6⟩,hw⟩ | ⟨⟨rfl,h3⟩,hw⟩) <;> rw [hw])
 · go_ret
   exact ⟨.inl ⟨j,p.map (·.add j),by first | rfl | simp,h3,rfl,h5,h6⟩,HB.out⟩
 · go_ret
   exact ⟨.inr ⟨rfl,h3⟩,HB.out⟩
 · exfalso
   rename_i h
   first | exact h (by rw [Lib.setCells_size]) | simp [Lib.setCells_size] at h
section
variable {U : Nat → Type} {C : Codec U}
/-- Bytes without those of these that they begin with. -/
def bTrimW (l : List Int) (t : ByteArray) : List Int := l.dropWhile fun x => t.data.toList.contains (UInt8.ofNat x.toNat)
theorem dropWhile_at {α : Type} (f : α → Bool) : ∀ (l : List α) (j : Nat),(∀ i y,i < j → l[i]? = some y → f y = true) → (∀ y,l[j]? = some y → f y = false) → l.dropWhile f = l.drop j
 | [],j,_,_ => by simp
 | a :: r,0,_,h => by rw [List.dropWhile_cons,if_neg (by rw [h a rfl]; decide)]; rfl
 | a :: r,j + 1,h1,h2 => by
  rw [List.dropWhile_cons,if_pos (h1 0 a (by omega) rfl),List.drop_succ_cons]
  exact dropWhile_at f r j (fun i y hi hy => h1 (i + 1) y (by omega) (by simpa using hy)) (fun y hy => h2 y (by simpa using hy))
theorem bTrim_drop {l : List Int} {t : ByteArray} {j : Nat} (h1 : allIn8 t.data.toList (Lib.bytesOf l) j) (h2 : ∀ y,(Lib.bytesOf l)[j]? = some y → t.data.toList.contains y = false) : bTrimW l t = l.drop j := by
 refine dropWhile_at _ l j (fun i y hi hy => h1 i _ hi ?_) (fun y hy => h2 _ ?_)
 · unfold Lib.bytesOf; rw [List.getElem?_map,hy]; rfl
 · unfold Lib.bytesOf; rw [List.getElem?_map,hy]; rfl
theorem imm_grow {g : Gh} {w w' : World} {blk off : Nat} {vs : List Value} (hm : Imm g blk off vs) (hi : ∀ b o x,g.own b o = .imm x → w.cell? ⟨b,o,none⟩ = some x) : Imm (g.grow w w') blk off vs := fun j v hv => by
 have h1 := hm j v hv
 rw [grow_old (lt_of_cell (a := ⟨blk,off + j,none⟩) (by rw [hi _ _ _ h1]; rfl))]
 exact h1
def bTrimF : List (AVal U) → Option (AVal U)
 | [.sl (.int .u8) l _,.str t] => if byteB l = true ∧ (2 ≤ t.size ∧ t.size < 4294967281 ∧ t.data.toList.all (fun b => decide (b.toNat < 128)) = true) then some (.sl (.int .u8) (bTrimW l t) .no) else none
 | _ => none
theorem bTrim_ok : CallOk (R := Rr U) Tryz.prog C 107 (asExt bTrimF) := by
 refine callOk_ext fun args v h g w cs ha hi hw => ?_
 unfold bTrimF at h
 split at h
 · rename_i l _ t
   split at h
   · rename_i hs
     obtain rfl := Option.some.inj h
     obtain ⟨hb,h1,h2,h3⟩ := hs
     obtain ⟨c,d,rfl,hc,hd⟩ := RelVs.two ha
     cases hd
     have hasc : ∀ (j : Nat) b,t.data.toList[j]? = some b → b.toNat < 128 := fun j b hj => by
      have := List.all_eq_true.1 h3 b (List.mem_of_getElem? hj)
      simpa using this
     have nil : ∀ {g : Gh},RelV C g (.sl (.int .u8) (bTrimW [] t) .no) (.slice none 0 0) := .sl0 rfl
     cases hc with
     | sl0 =>
      refine (bTrim_walk none 0 0 [] t w rfl (Nat.le_refl _) (fun h => absurd h (Nat.lt_irrefl 0)) h1 h2 hasc).mono fun e w' ⟨h4,h5⟩ => ?_
      rcases h4 with ⟨j,_,_,h6,_⟩ | ⟨rfl,_⟩
      · exact absurd h6 (Nat.not_lt_zero _)
      · exact ⟨_,rfl,h5,nil⟩
     | sle =>
      rename_i a hz
      refine (bTrim_walk (some a) 0 0 [] t w rfl (Nat.le_refl _) (fun h => absurd h (Nat.lt_irrefl 0)) h1 h2 hasc).mono fun e w' ⟨h4,h5⟩ => ?_
      rcases h4 with ⟨j,_,_,h6,_⟩ | ⟨rfl,_⟩
      · exact absurd h6 (Nat.not_lt_zero _)
      · exact ⟨_,rfl,h5,nil⟩
     | sl hs1 hm1 hl1 hp1 =>
      rename_i blk off cap vs
      have hlen : (Lib.bytesOf l).length = l.length := Lib.bytesOf_length l
      have hx : Lib.BytesIn w (some ⟨blk,off,none⟩) l.length l := Lib.BytesIn.of_cells (bytes_at hs1 hm1 hi)
      refine (bTrim_walk (some ⟨blk,off,none⟩) l.length cap (Lib.bytesOf l) t w hlen hl1 (hx.at8 rfl (byteB_all hb)) h1 h2 hasc).mono fun e w' ⟨h4,h5⟩ => ?_
      rcases h4 with ⟨j,q,rfl,h6,rfl,h7,h8⟩ | ⟨rfl,h7⟩
      · refine ⟨_,rfl,h5,?_⟩
        rw [bTrim_drop h7 h8]
        obtain rfl := RelVs.nums hs1
        have e : (l.map (Value.int .u8)).drop j = (l.drop j).map (Value.int .u8) := by rw [List.map_drop]
        have hi2 : Imm (g.grow w w') blk (off + j) ((l.drop j).map (Value.int .u8)) := by
         rw [← e]
         exact (imm_grow hm1 hi).drop j
        have := RelV.sl (C := C) (g := g.grow w w') (t := .int .u8) (l := l.drop j) (p := .no) (blk := blk) (off := off + j) (cap := cap - j) (vs := (l.drop j).map (Value.int .u8)) (RelVs.ofNums _) hi2 (by rw [List.length_drop]; omega) trivial
        rw [List.length_drop] at this
        rw [Option.map_some,Lib.addr_add]
        exact this
      · have e : bTrimW l t = [] := by
         rw [bTrim_drop h7 (fun y hy => by rw [List.getElem?_eq_none (by omega)] at hy; cases hy)]
         exact List.drop_of_length_le (Nat.le_refl _)
        rw [e]
        exact ⟨_,rfl,h5,.sl0 rfl⟩
   · cases h
 · cases h
def bTrimS {R : Type} : List (AVal U) → St U → (Res U → St U → Option R) → Option R := fun args st K => match args with
 | [.sl (.int .u8) l _,.str t] => if byteB l = true ∧ (2 ≤ t.size ∧ t.size < 4294967281 ∧ t.data.toList.all (fun b => decide (b.toNat < 128)) = true) then K (.ret (.sl (.int .u8) (bTrimW l t) .no)) st else none
 | _ => none
theorem bTrimS_ok : CallOkL (R := Rr U) Tryz.prog C 107 bTrimS := callOk_by bTrim_ok fun args st K r h => by
 unfold bTrimS at h
 unfold asExt bTrimF
 split at h
 · split at h
   · rename_i h1
     rw [if_pos h1]; exact h
   · cases h
 · cases h
end
end Go.Proofs.YtccfmfifnbnlmaaGreatDoor.Ev
end
