/- Several texts in one, in their order. -/
import Derived.Test.YtbcpnpbkbndkjaaGreatDoorBEvalHolds5
import Derived.Test.YtbcpnpbkbndkjaaGreatDoorBEvalHolds6
import Derived.Test.YtbcpnpbkbndkjaaGreatDoorBEvalHolds10
import Derived.KernelRfl
import Derived.Laws.StructEq
import Derived.Test.YtbcpnpbkbndkjaaGreatDoorProg
import Derived.Below
import Derived.Deep.Draws
import Derived.Deep.AppendLies
import Derived.Maps.AppendAt
import Derived.OwnWalk
import Derived.Laws.BytesArg
import Derived.Laws.MakeOwn
import Derived.Laws.OwnMore
import Derived.Deep.OwnRows
import Derived.Tactics
import Derived.Lib.ConvBytes
import Derived.Laws.Slices
import Derived.WalkKit
import Derived.RowKit3
import Derived.Deep.LoopGhost
import Derived.Deep.QuietTactic
import Derived.BigQuiet
import Derived.WideLaws
import Derived.Deep.DeepCutAuto
import Derived.Deep.CutBlock
import Derived.Deep.RegionHeld3
import Derived.Laws.Rows
import Derived.Lib.AppendStr
import Derived.ArgAppend
import Derived.Laws.IdiomCopy
import Derived.OrdersHeld
import Derived.Laws.BitsLemmas
import Derived.RowKit
section
/- What each function comes to, one step of it at a time: the kernel's own reckoning. -/
set_option linter.unusedVariables false
set_option maxRecDepth 100000
namespace Go.Proofs.YtbcpnpbkbndkjaaGreatDoor.Ev
open Go Go.RowKit
open Go.IntKind (i64 u8 i32 u64)
noncomputable def ref08_Plain.L0 (n k0 : Nat) (s j0 : ByteArray) (j1 j2 : Int) : Option (Rr U0) := loopF cx_ref08_Plain noCalls k0 0 ([(0,false),(5,false),(6,false)]) ((siteC (Tryz.f156.body.getD .skip) [1,0,1,0]).getD .skip) (siteK cx_ref08_Plain noCalls n [] (Tryz.f156.body.getD .skip) [1,0,1,0] (bodyK cx_ref08_Plain Tryz.f156 (lcSt [] 0) (callK false [] [] (lcSt [] 0) out))) (St.mk [(0,.str j0),(5,.int .i64 j1),(6,.int .i64 j2)] [] [] 0 0 0 0 0 156 [] 29)
theorem ref08_Plain.L0_s (n k0 : Nat) (s j0 : ByteArray) (j1 j2 : Int) : ref08_Plain.L0 n (k0 + 1) s j0 j1 j2 = if decide (j2 < j1) = true then if 0 ≤ j2 then if j2 < (↑j0.size : Int) then ((Q.dossierref08_letter.f (bt j0 j2)).bind fun v0 => if (!v0) = true then if (j2 == 0) = true then some (.ret (.bool false),lcRet [] [] 0) else if 0 ≤ j2 then if j2 < (↑j0.size : Int) then ((Q.dossierref08_digit.f (bt j0 j2)).bind fun v1 => if (if true = true then if false = true then true else !v1 else false) = true then some (.ret (.bool false),lcRet [] [] 0) else (ref08_Plain.L0 n k0 s j0 j1 (i64.wrap (j2 + 1)))) else none else none else (ref08_Plain.L0 n k0 s j0 j1 (i64.wrap (j2 + 1)))) else none else none else some (.ret (.bool (decide ((↑j0.size : Int) > 0))),lcRet [] [] 0) := by kernel_rfl
theorem ref08_Plain.top (n : Nat) (s : ByteArray) : callX false (fnF cx_ref08_Plain noCalls n 156) ([.str s]) (lcSt [] 0) out = (ref08_Plain.L0 n n s s ((↑s.size : Int)) 0) := by kernel_rfl
theorem ref_kids.top (n : Nat) (z : Int) : callX false (fnF cx_ref_kids noCalls n 100) ([.int .i64 z]) (lcSt [] 0) out = if (if decide (z ≥ 1) = true then decide (z ≤ 4) else false) = true then some (.ret (.int .i64 0),lcRet [] [] 0) else if (if (z == 5) = true then true else z == 6) = true then some (.ret (.int .i64 1),lcRet [] [] 0) else if (if decide (z ≥ 7) = true then decide (z ≤ 19) else false) = true then some (.ret (.int .i64 2),lcRet [] [] 0) else some (.ret (.int .i64 (-1 : Int)),lcRet [] [] 0) := by kernel_rfl
theorem expr_Can.top (n : Nat) (a0 a1 a2 : Int) (a3 : Bool) (a4 a5 : ByteArray) (a6 : Int) (a7 : List Node) : callX false (fnF cx_expr_Can noCalls n 27) ([.agg [.int .i64 a0,.int .i64 a1,.int .i64 a2,.bool a3,.str a4,.str a5,.int .i64 a6,.sl (.user 0) a7 .no]]) (lcSt [] 0) out = ((deepP (big a7) a7).bind fun v0 => if decide (v0 ≤ 24) = true then ((rightW (big a7) (nd a0 a1 a2 a3 a4 a5 a6 a7)).bind fun v1 => some (.ret (.bool (if true = true then v1 else false)),lcRet [] [] 0)) else some (.ret (.bool false),lcRet [] [] 0)) := by kernel_rfl
theorem expr_Named.top (n : Nat) (s : ByteArray) : callX false (fnF cx_expr_Named noCalls n 83) ([.str s]) (lcSt [] 0) out = ((if s.size ≤ 900000 then some (plainB s) else none).bind fun v0 => if v0 = true then some (.ret (.bool (if true = true then !kwP s else false)),lcRet [] [] 0) else some (.ret (.bool false),lcRet [] [] 0)) := by kernel_rfl
noncomputable def ref01_Wrong.L0 (n k0 : Nat) (b j0 : List Int) (j1 : Int) : Option (Rr U0) := loopF cx_ref01_Wrong noCalls k0 0 ([(0,false),(3,false)]) ((siteC (Tryz.f138.body.getD .skip) [1,0,1,0]).getD .skip) (siteK cx_ref01_Wrong noCalls n [] (Tryz.f138.body.getD .skip) [1,0,1,0] (bodyK cx_ref01_Wrong Tryz.f138 (lcSt [] 0) (callK false [] [] (lcSt [] 0) out))) (St.mk [(0,.sl (.int .u8) j0 .no),(3,.int .i64 j1)] [] [] 0 0 0 0 0 138 [] 28)
theorem ref01_Wrong.L0_s (n k0 : Nat) (b j0 : List Int) (j1 : Int) : ref01_Wrong.L0 n (k0 + 1) b j0 j1 = if decide (j1 < (↑j0.length : Int)) = true then if 0 ≤ j1 then if j1 ≤ (↑j0.length : Int) then ((lim fun k => Q.dossierref01_Decode.f k (List.drop j1.toNat j0)).bind fun v0 => if (v0.2 == 0) = true then some (.ret (.int .i64 j1),lcRet [] [] 0) else ((lim fun k => Q.dossierref01_OfXML.f k v0.1).bind fun v1 => if (if false = true then true else !v1) = true then some (.ret (.int .i64 j1),lcRet [] [] 0) else (ref01_Wrong.L0 n k0 b j0 (i64.wrap (j1 + v0.2))))) else none else none else some (.ret (.int .i64 (-1 : Int)),lcRet [] [] 0) := by kernel_rfl
theorem ref01_Wrong.top (n : Nat) (b : List Int) : callX false (fnF cx_ref01_Wrong noCalls n 138) ([.sl (.int .u8) b .no]) (lcSt [] 0) out = (ref01_Wrong.L0 n n b b 0) := by kernel_rfl
theorem ref_alone.top (n : Nat) (a0 a1 a2 : Int) (a3 : Bool) (a4 a5 : ByteArray) (a6 : Int) (a7 : List Node) : callX false (fnF cx_ref_alone noCalls n 101) ([.agg [.int .i64 a0,.int .i64 a1,.int .i64 a2,.bool a3,.str a4,.str a5,.int .i64 a6,.sl (.user 0) a7 .no]]) (lcSt [] 0) out = if (a0 == 1) = true then ((some (canV a1 a2 a3 a4)).bind fun v0 => some (.ret (.bool (if (if (if (if v0 = true then a1 != 0 else false) = true then decide (a2 ≥ 0) else false) = true then seq a5 (ByteArray.mk #[]) else false) = true then a6 == 0 else false)),lcRet [] [] 0)) else if (if (a0 == 2) = true then true else a0 == 3) = true then if (a1 == 0 && (a2 == 0 && (a3 == false && (seq a4 (ByteArray.mk #[]) && true)))) = true then ((if a5.size ≤ 900000 then some (pathB a5) else none).bind fun v1 => some (.ret (.bool (if (if true = true then v1 else false) = true then a6 == 0 else false)),lcRet [] [] 0)) else some (.ret (.bool (if false = true then a6 == 0 else false)),lcRet [] [] 0) else if (a0 == 4) = true then if (a1 == 0 && (a2 == 0 && (a3 == false && (seq a4 (ByteArray.mk #[]) && true)))) = true then ((if a5.size ≤ 900000 then some (namedB a5) else none).bind fun v2 => some (.ret (.bool (if (if (if true = true then v2 else false) = true then decide (a6 ≥ 1) else false) = true then decide (a6 ≤ 8) else false)),lcRet [] [] 0)) else some (.ret (.bool (if (if false = true then decide (a6 ≥ 1) else false) = true then decide (a6 ≤ 8) else false)),lcRet [] [] 0) else some (.ret (.bool (if (if (a1 == 0 && (a2 == 0 && (a3 == false && (seq a4 (ByteArray.mk #[]) && true)))) = true then seq a5 (ByteArray.mk #[]) else false) = true then a6 == 0 else false)),lcRet [] [] 0) := by kernel_rfl
theorem ref_Named.top (n : Nat) (s : ByteArray) : callX false (fnF cx_ref_Named noCalls n 132) ([.str s]) (lcSt [] 0) out = ((if s.size ≤ 900000 then some (plainB s) else none).bind fun v0 => if v0 = true then some (.ret (.bool (if true = true then !kwP s else false)),lcRet [] [] 0) else some (.ret (.bool false),lcRet [] [] 0)) := by kernel_rfl
theorem value_Can.top (n : Nat) (y0 y1 : Int) (y2 : Bool) (y3 : ByteArray) : callX false (fnF cx_value_Can noCalls n 81) ([.agg [.int .i64 y0,.int .i64 y1,.bool y2,.str y3]]) (lcSt [] 0) out = if (y0 == 0) = true then if (if (y0 == y0 && (y1 == 0 && (y2 == false && (seq y3 (ByteArray.mk #[]) && true)))) = true then decide ((↑y3.size : Int) ≤ 256) else false) = true then ((lim fun k => Q.chars_Wrong.f k (toBytes y3)).bind fun v0 => some (.ret (.bool (if true = true then decide (v0 < 0) else false)),lcRet [] [] 0)) else some (.ret (.bool false),lcRet [] [] 0) else if (y0 == 1) = true then if (if (y0 == y0 && (y1 == y1 && (y2 == false && (seq y3 (ByteArray.mk #[]) && true)))) = true then decide ((↑y3.size : Int) ≤ 256) else false) = true then ((lim fun k => Q.chars_Wrong.f k (toBytes y3)).bind fun v1 => some (.ret (.bool (if true = true then decide (v1 < 0) else false)),lcRet [] [] 0)) else some (.ret (.bool false),lcRet [] [] 0) else if (y0 == 2) = true then if (if (y0 == y0 && (y1 == 0 && (y2 == y2 && (seq y3 (ByteArray.mk #[]) && true)))) = true then decide ((↑y3.size : Int) ≤ 256) else false) = true then ((lim fun k => Q.chars_Wrong.f k (toBytes y3)).bind fun v2 => some (.ret (.bool (if true = true then decide (v2 < 0) else false)),lcRet [] [] 0)) else some (.ret (.bool false),lcRet [] [] 0) else if (y0 == 3) = true then if (if (y0 == y0 && (y1 == 0 && (y2 == false && (seq y3 y3 && true)))) = true then decide ((↑y3.size : Int) ≤ 256) else false) = true then ((lim fun k => Q.chars_Wrong.f k (toBytes y3)).bind fun v3 => some (.ret (.bool (if true = true then decide (v3 < 0) else false)),lcRet [] [] 0)) else some (.ret (.bool false),lcRet [] [] 0) else some (.ret (.bool false),lcRet [] [] 0) := by kernel_rfl
noncomputable def ref_can.L1 (n k0 k : Nat) (a0 a1 a2 : Int) (a3 : Bool) (a4 a5 : ByteArray) (a6 : Int) (a7 j0 : List Node) (j1 j2 j3 j4 j5 : Int) (j6 : Bool) (j7 j8 : ByteArray) (j9 : Int) (j10 : List Node) : Option (Rr U0) := loopF cx_ref_can (ref_can.rec k) k0 (1) ([(18,false),(19,false),(20,false)]) ((siteC (Tryz.f50.body.getD .skip) [1,1,0,1,0]).getD .skip) (siteK cx_ref_can (ref_can.rec k) n [] (Tryz.f50.body.getD .skip) [1,1,0,1,0] (bodyK cx_ref_can Tryz.f50 (lcSt [] 0) (callK false [] [] (lcSt [] 0) out))) (St.mk [(18,.sl (.user 0) j0 .no),(19,.int .i64 j1),(20,.int .i64 j2)] [[.int .i64 j3,.int .i64 j4,.int .i64 j5,.bool j6,.str j7,.str j8,.int .i64 j9,.sl (.user 0) j10 .no]] [] 0 0 0 0 0 50 [] 28)
theorem ref_can.L1_s (n k0 k : Nat) (a0 a1 a2 : Int) (a3 : Bool) (a4 a5 : ByteArray) (a6 : Int) (a7 j0 : List Node) (j1 j2 j3 j4 j5 : Int) (j6 : Bool) (j7 j8 : ByteArray) (j9 : Int) (j10 : List Node) : ref_can.L1 n (k0 + 1) k a0 a1 a2 a3 a4 a5 a6 a7 j0 j1 j2 j3 j4 j5 j6 j7 j8 j9 j10 = if decide (j2 < j1) = true then if 0 ≤ j2 then ((nth j0 j2.toNat).bind fun v3 => ((rightW k (nd (Node.x v3).1 (Node.x v3).2.1.1 (Node.x v3).2.1.2.1 (Node.x v3).2.1.2.2.1 (Node.x v3).2.1.2.2.2 (Node.x v3).2.2.1 (Node.x v3).2.2.2.1 (Node.x v3).2.2.2.2)).bind fun v4 => if (!v4) = true then some (.ret (.bool false),lcRet [] [] 0) else (ref_can.L1 n k0 k a0 a1 a2 a3 a4 a5 a6 a7 j0 j1 (i64.wrap (j2 + 1)) j3 j4 j5 j6 j7 j8 j9 j10))) else none else some (.ret (.bool true),lcRet [] [] 0) := by kernel_rfl
theorem ref_can.top (n k : Nat) (a0 a1 a2 : Int) (a3 : Bool) (a4 a5 : ByteArray) (a6 : Int) (a7 : List Node) : callX false (fnF cx_ref_can (ref_can.rec k) n 50) ([.agg [.int .i64 a0,.int .i64 a1,.int .i64 a2,.bool a3,.str a4,.str a5,.int .i64 a6,.sl (.user 0) a7 .no]]) (lcSt [] 0) out = if ((↑a7.length : Int) != kidsZ a0) = true then some (.ret (.bool false),lcRet [] [] 0) else ((if a4.size ≤ 900000 ∧ a5.size ≤ 900000 then some (aloneB a0 a1 a2 a3 a4 a5 a6) else none).bind fun v0 => if (if false = true then true else !v0) = true then some (.ret (.bool false),lcRet [] [] 0) else (ref_can.L1 n n k a0 a1 a2 a3 a4 a5 a6 a7 a7 ((↑a7.length : Int)) 0 a0 a1 a2 a3 a4 a5 a6 a7)) := by kernel_rfl
noncomputable def expr_pathed.L0 (n k0 : Nat) (s : ByteArray) (j0 : List ByteArray) (j1 j2 : Int) : Option (Rr U0) := loopF cx_expr_pathed noCalls k0 0 ([(6,false),(7,false),(8,false)]) ((siteC (Tryz.f82.body.getD .skip) [1,0,1,0]).getD .skip) (siteK cx_expr_pathed noCalls n [] (Tryz.f82.body.getD .skip) [1,0,1,0] (bodyK cx_expr_pathed Tryz.f82 (lcSt [] 0) (callK false [] [] (lcSt [] 0) out))) (St.mk [(6,.sl .str j0 .no),(7,.int .i64 j1),(8,.int .i64 j2)] [] [] 0 0 0 0 0 82 [] 16)
theorem expr_pathed.L0_s (n k0 : Nat) (s : ByteArray) (j0 : List ByteArray) (j1 j2 : Int) : expr_pathed.L0 n (k0 + 1) s j0 j1 j2 = if decide (j2 < j1) = true then if 0 ≤ j2 then ((nth j0 j2.toNat).bind fun v0 => ((if ByteArray.size v0 ≤ 900000 then some (namedB v0) else none).bind fun v1 => if (!v1) = true then some (.ret (.bool false),lcRet [] [] 0) else (expr_pathed.L0 n k0 s j0 j1 (i64.wrap (j2 + 1))))) else none else some (.ret (.bool true),lcRet [] [] 0) := by kernel_rfl
theorem expr_pathed.top (n : Nat) (s : ByteArray) : callX false (fnF cx_expr_pathed noCalls n 82) ([.str s]) (lcSt [] 0) out = if s.size < 4294967281 ∧ 1 ≤ (ByteArray.mk #[46]).size then (expr_pathed.L0 n n s (splitW s (ByteArray.mk #[46])) ((↑(splitW s (ByteArray.mk #[46])).length : Int)) 0) else none := by kernel_rfl
theorem ref07_Can.top (n : Nat) (y0 y1 : Int) (y2 : Bool) (y3 : ByteArray) : callX false (fnF cx_ref07_Can noCalls n 108) ([.agg [.int .i64 y0,.int .i64 y1,.bool y2,.str y3]]) (lcSt [] 0) out = if (y0 == 0) = true then some (.ret (.bool (y0 == 0 && (y1 == 0 && (y2 == false && (seq y3 (ByteArray.mk #[]) && true))))),lcRet [] [] 0) else if (y0 == 1) = true then some (.ret (.bool (y0 == 1 && (y1 == y1 && (y2 == false && (seq y3 (ByteArray.mk #[]) && true))))),lcRet [] [] 0) else if (y0 == 2) = true then some (.ret (.bool (y0 == 2 && (y1 == 0 && (y2 == y2 && (seq y3 (ByteArray.mk #[]) && true))))),lcRet [] [] 0) else if (y0 == 3) = true then if (y0 == 3 && (y1 == 0 && (y2 == false && (seq y3 y3 && true)))) = true then if (if true = true then decide ((↑y3.size : Int) ≤ 256) else false) = true then ((lim fun k => Q.dossierref01_Wrong.f k (toBytes y3)).bind fun v0 => some (.ret (.bool (if true = true then decide (v0 < 0) else false)),lcRet [] [] 0)) else some (.ret (.bool false),lcRet [] [] 0) else some (.ret (.bool false),lcRet [] [] 0) else some (.ret (.bool false),lcRet [] [] 0) := by kernel_rfl
theorem ref_Can.top (n : Nat) (a0 a1 a2 : Int) (a3 : Bool) (a4 a5 : ByteArray) (a6 : Int) (a7 : List Node) : callX false (fnF cx_ref_Can noCalls n 32) ([.agg [.int .i64 a0,.int .i64 a1,.int .i64 a2,.bool a3,.str a4,.str a5,.int .i64 a6,.sl (.user 0) a7 .no]]) (lcSt [] 0) out = ((deepP (big a7) a7).bind fun v0 => if decide (v0 ≤ 24) = true then ((rightW (big a7) (nd a0 a1 a2 a3 a4 a5 a6 a7)).bind fun v1 => some (.ret (.bool (if true = true then v1 else false)),lcRet [] [] 0)) else some (.ret (.bool false),lcRet [] [] 0)) := by kernel_rfl
noncomputable def ref_Parts.L0 (n k0 : Nat) (s j0 : ByteArray) (j1 : List (Ty.den U0 Ty.str)) (j2 j3 j4 : Int) : Option (Rr U0) := loopF cx_ref_Parts noCalls k0 0 ([(0,false),(3,true),(4,false),(8,false),(9,false)]) ((siteC (Tryz.f103.body.getD .skip) [1,1,1,0,1,0]).getD .skip) (siteK cx_ref_Parts noCalls n [] (Tryz.f103.body.getD .skip) [1,1,1,0,1,0] (bodyK cx_ref_Parts Tryz.f103 (lcSt [] 0) (callK false [] [] (lcSt [] 0) out))) (St.mk [(0,.str j0),(3,.sl .str j1 (Perm.tok 0)),(4,.int .i64 j2),(8,.int .i64 j3),(9,.int .i64 j4)] [] [0] 1 0 0 0 0 103 [] 33)
theorem ref_Parts.L0_s (n k0 : Nat) (s j0 : ByteArray) (j1 : List (Ty.den U0 Ty.str)) (j2 j3 j4 : Int) : ref_Parts.L0 n (k0 + 1) s j0 j1 j2 j3 j4 = if decide (j4 < j3) = true then if (j4 == (↑j0.size : Int)) = true then if 0 ≤ j2 then if j2 ≤ j4 then if j4 ≤ (↑j0.size : Int) then if (j1.length + [j0.extract j2.toNat j4.toNat].length) * 16 ≤ most then (ref_Parts.L0 n k0 s j0 (j1 ++ [j0.extract j2.toNat j4.toNat]) (i64.wrap (j4 + 1)) j3 (i64.wrap (j4 + 1))) else none else none else none else none else if 0 ≤ j4 then if j4 < (↑j0.size : Int) then if (if false = true then true else bt j0 j4 == 46) = true then if 0 ≤ j2 then if j2 ≤ j4 then if j4 ≤ (↑j0.size : Int) then if (j1.length + [j0.extract j2.toNat j4.toNat].length) * 16 ≤ most then (ref_Parts.L0 n k0 s j0 (j1 ++ [j0.extract j2.toNat j4.toNat]) (i64.wrap (j4 + 1)) j3 (i64.wrap (j4 + 1))) else none else none else none else none else (ref_Parts.L0 n k0 s j0 j1 j2 j3 (i64.wrap (j4 + 1))) else none else none else some (.ret (.sl .str j1 .no),lcRet [] [] 0) := by kernel_rfl
theorem ref_Parts.top (n : Nat) (s : ByteArray) : callX false (fnF cx_ref_Parts noCalls n 103) ([.str s]) (lcSt [] 0) out = (ref_Parts.L0 n n s s [] 0 (i64.wrap ((↑s.size : Int) + 1)) 0) := by kernel_rfl
theorem value_sortOf.top (n : Nat) (z : Int) : callX false (fnF cx_value_sortOf noCalls n 90) ([.int .i64 z]) (lcSt [] 0) out = if (z == 5) = true then some (.ret (.int .i64 1),lcRet [] [] 0) else if (z == 6) = true then some (.ret (.int .i64 2),lcRet [] [] 0) else if (if (z == 7) = true then true else if (z == 8) = true then true else if (z == 9) = true then true else if (z == 10) = true then true else z == 11) = true then some (.ret (.int .i64 3),lcRet [] [] 0) else if (if (z == 12) = true then true else if (z == 13) = true then true else if (z == 14) = true then true else z == 15) = true then some (.ret (.int .i64 4),lcRet [] [] 0) else if (if (z == 16) = true then true else z == 17) = true then some (.ret (.int .i64 5),lcRet [] [] 0) else if (if (z == 18) = true then true else z == 19) = true then some (.ret (.int .i64 6),lcRet [] [] 0) else some (.ret (.int .i64 0),lcRet [] [] 0) := by kernel_rfl
noncomputable def ref_pathed.L0 (n k0 : Nat) (s : ByteArray) (j0 : List ByteArray) (j1 j2 : Int) : Option (Rr U0) := loopF cx_ref_pathed noCalls k0 0 ([(6,false),(7,false),(8,false)]) ((siteC (Tryz.f131.body.getD .skip) [1,0,1,0]).getD .skip) (siteK cx_ref_pathed noCalls n [] (Tryz.f131.body.getD .skip) [1,0,1,0] (bodyK cx_ref_pathed Tryz.f131 (lcSt [] 0) (callK false [] [] (lcSt [] 0) out))) (St.mk [(6,.sl .str j0 .no),(7,.int .i64 j1),(8,.int .i64 j2)] [] [] 0 0 0 0 0 131 [] 16)
theorem ref_pathed.L0_s (n k0 : Nat) (s : ByteArray) (j0 : List ByteArray) (j1 j2 : Int) : ref_pathed.L0 n (k0 + 1) s j0 j1 j2 = if decide (j2 < j1) = true then if 0 ≤ j2 then ((nth j0 j2.toNat).bind fun v1 => ((if ByteArray.size v1 ≤ 900000 then some (namedB v1) else none).bind fun v2 => if (!v2) = true then some (.ret (.bool false),lcRet [] [] 0) else (ref_pathed.L0 n k0 s j0 j1 (i64.wrap (j2 + 1))))) else none else some (.ret (.bool true),lcRet [] [] 0) := by kernel_rfl
theorem ref_pathed.top (n : Nat) (s : ByteArray) : callX false (fnF cx_ref_pathed noCalls n 131) ([.str s]) (lcSt [] 0) out = ((if s.size ≤ 900000 then some (partsW s) else none).bind fun v0 => (ref_pathed.L0 n n s v0 ((↑v0.length : Int)) 0)) := by kernel_rfl
theorem value_Kind.top (n : Nat) (z a b : Int) : callX false (fnF cx_value_Kind noCalls n 44) ([.int .i64 z,.int .i64 a,.int .i64 b]) (lcSt [] 0) out = if (sortZ z == 1) = true then if (!if (a == 2) = true then b == 0 else false) = true then some (.ret (.tup [.int .i64 0,.bool false]),lcRet [] [] 0) else some (.ret (.tup [.int .i64 2,.bool true]),lcRet [] [] 0) else if (sortZ z == 2) = true then if (!if (a == 1) = true then b == 0 else false) = true then some (.ret (.tup [.int .i64 0,.bool false]),lcRet [] [] 0) else some (.ret (.tup [.int .i64 1,.bool true]),lcRet [] [] 0) else if (sortZ z == 3) = true then if (!if (a == 1) = true then b == 1 else false) = true then some (.ret (.tup [.int .i64 0,.bool false]),lcRet [] [] 0) else some (.ret (.tup [.int .i64 1,.bool true]),lcRet [] [] 0) else if (sortZ z == 4) = true then if (!if (a == b) = true then if (a == 1) = true then true else a == 3 else false) = true then some (.ret (.tup [.int .i64 0,.bool false]),lcRet [] [] 0) else some (.ret (.tup [.int .i64 2,.bool true]),lcRet [] [] 0) else if (sortZ z == 5) = true then if (!if (a == b) = true then if (if (a == 1) = true then true else a == 2) = true then true else a == 3 else false) = true then some (.ret (.tup [.int .i64 0,.bool false]),lcRet [] [] 0) else some (.ret (.tup [.int .i64 2,.bool true]),lcRet [] [] 0) else if (sortZ z == 6) = true then if (!if (a == 2) = true then b == 2 else false) = true then some (.ret (.tup [.int .i64 0,.bool false]),lcRet [] [] 0) else some (.ret (.tup [.int .i64 2,.bool true]),lcRet [] [] 0) else some (.ret (.tup [.int .i64 0,.bool false]),lcRet [] [] 0) := by kernel_rfl
theorem ref07_Kind.top (n : Nat) (z a b : Int) : callX false (fnF cx_ref07_Kind noCalls n 53) ([.int .i64 z,.int .i64 a,.int .i64 b]) (lcSt [] 0) out = if (z == 5) = true then if (if (a == 2) = true then b == 0 else false) = true then some (.ret (.tup [.int .i64 2,.bool true]),lcRet [] [] 0) else some (.ret (.tup [.int .i64 0,.bool false]),lcRet [] [] 0) else if (z == 6) = true then if (if (a == 1) = true then b == 0 else false) = true then some (.ret (.tup [.int .i64 1,.bool true]),lcRet [] [] 0) else some (.ret (.tup [.int .i64 0,.bool false]),lcRet [] [] 0) else if (if (z == 7) = true then true else if (z == 8) = true then true else if (z == 9) = true then true else if (z == 10) = true then true else z == 11) = true then if (if (a == 1) = true then b == 1 else false) = true then some (.ret (.tup [.int .i64 1,.bool true]),lcRet [] [] 0) else some (.ret (.tup [.int .i64 0,.bool false]),lcRet [] [] 0) else if (if (z == 12) = true then true else if (z == 13) = true then true else if (z == 14) = true then true else z == 15) = true then if (if (a == b) = true then if (a == 1) = true then true else a == 3 else false) = true then some (.ret (.tup [.int .i64 2,.bool true]),lcRet [] [] 0) else some (.ret (.tup [.int .i64 0,.bool false]),lcRet [] [] 0) else if (if (z == 16) = true then true else z == 17) = true then if (if (if (a == b) = true then decide (a ≥ 1) else false) = true then decide (a ≤ 3) else false) = true then some (.ret (.tup [.int .i64 2,.bool true]),lcRet [] [] 0) else some (.ret (.tup [.int .i64 0,.bool false]),lcRet [] [] 0) else if (if (z == 18) = true then true else z == 19) = true then if (if (a == 2) = true then b == 2 else false) = true then some (.ret (.tup [.int .i64 2,.bool true]),lcRet [] [] 0) else some (.ret (.tup [.int .i64 0,.bool false]),lcRet [] [] 0) else some (.ret (.tup [.int .i64 0,.bool false]),lcRet [] [] 0) := by kernel_rfl
theorem lexer_Plain.top (n : Nat) (s : ByteArray) : callX false (fnF cx_lexer_Plain noCalls n 119) ([.str s]) (lcSt [] 0) out = if (!seq s (ByteArray.mk #[])) = true then if (0 : Int) < (↑s.size : Int) then ((Q.lexer_is.f (bt s (0 : Int)) (ByteArray.mk #[65,66,67,68,69,70,71,72,73,74,75,76,77,78,79,80,81,82,83,84,85,86,87,88,89,90,97,98,99,100,101,102,103,104,105,106,107,108,109,110,111,112,113,114,115,116,117,118,119,120,121,122,95])).bind fun v0 => if (if true = true then v0 else false) = true then ((lim fun k => Q.lexer_run.f k s (ByteArray.mk #[65,66,67,68,69,70,71,72,73,74,75,76,77,78,79,80,81,82,83,84,85,86,87,88,89,90,97,98,99,100,101,102,103,104,105,106,107,108,109,110,111,112,113,114,115,116,117,118,119,120,121,122,95,48,49,50,51,52,53,54,55,56,57])).bind fun v1 => some (.ret (.bool (if true = true then (↑v1.size : Int) == (↑s.size : Int) else false)),lcRet [] [] 0)) else some (.ret (.bool false),lcRet [] [] 0)) else none else some (.ret (.bool false),lcRet [] [] 0) := by kernel_rfl
theorem expr_kids.top (n : Nat) (z : Int) : callX false (fnF cx_expr_kids noCalls n 85) ([.int .i64 z]) (lcSt [] 0) out = if (if (z == 1) = true then true else if (z == 2) = true then true else if (z == 3) = true then true else z == 4) = true then some (.ret (.int .i64 0),lcRet [] [] 0) else if (if (z == 5) = true then true else z == 6) = true then some (.ret (.int .i64 1),lcRet [] [] 0) else if (findO z).2.2.2 = true then some (.ret (.int .i64 2),lcRet [] [] 0) else some (.ret (.int .i64 (-1 : Int)),lcRet [] [] 0) := by kernel_rfl
noncomputable def expr_right.L1 (n k0 k : Nat) (a0 a1 a2 : Int) (a3 : Bool) (a4 a5 : ByteArray) (a6 : Int) (a7 j0 : List Node) (j1 j2 j3 j4 j5 : Int) (j6 : Bool) (j7 j8 : ByteArray) (j9 : Int) (j10 : List Node) (j11 j12 j13 : Int) (j14 : Bool) (j15 j16 : ByteArray) (j17 : Int) (j18 : List Node) : Option (Rr U0) := loopF cx_expr_right (expr_right.rec k) k0 (2) ([(93,false),(94,false),(95,false)]) ((siteC (Tryz.f41.body.getD .skip) [1,1,1,1,1,0,1,0]).getD .skip) (siteK cx_expr_right (expr_right.rec k) n [] (Tryz.f41.body.getD .skip) [1,1,1,1,1,0,1,0] (bodyK cx_expr_right Tryz.f41 (lcSt [] 0) (callK false [] [] (lcSt [] 0) out))) (St.mk [(93,.sl (.user 0) j0 .no),(94,.int .i64 j1),(95,.int .i64 j2)] [[.int .i64 j3,.int .i64 j4,.int .i64 j5,.bool j6,.str j7,.str j8,.int .i64 j9,.sl (.user 0) j10 .no],[.int .i64 j11,.int .i64 j12,.int .i64 j13,.bool j14,.str j15,.str j16,.int .i64 j17,.sl (.user 0) j18 .no]] [] 0 0 0 0 0 41 [] 103)
theorem expr_right.L1_s (n k0 k : Nat) (a0 a1 a2 : Int) (a3 : Bool) (a4 a5 : ByteArray) (a6 : Int) (a7 j0 : List Node) (j1 j2 j3 j4 j5 : Int) (j6 : Bool) (j7 j8 : ByteArray) (j9 : Int) (j10 : List Node) (j11 j12 j13 : Int) (j14 : Bool) (j15 j16 : ByteArray) (j17 : Int) (j18 : List Node) : expr_right.L1 n (k0 + 1) k a0 a1 a2 a3 a4 a5 a6 a7 j0 j1 j2 j3 j4 j5 j6 j7 j8 j9 j10 j11 j12 j13 j14 j15 j16 j17 j18 = if decide (j2 < j1) = true then if 0 ≤ j2 then ((nth j0 j2.toNat).bind fun v3 => ((rightW k (nd (Node.x v3).1 (Node.x v3).2.1.1 (Node.x v3).2.1.2.1 (Node.x v3).2.1.2.2.1 (Node.x v3).2.1.2.2.2 (Node.x v3).2.2.1 (Node.x v3).2.2.2.1 (Node.x v3).2.2.2.2)).bind fun v4 => if (!v4) = true then some (.ret (.bool false),lcRet [] [] 0) else (expr_right.L1 n k0 k a0 a1 a2 a3 a4 a5 a6 a7 j0 j1 (i64.wrap (j2 + 1)) j3 j4 j5 j6 j7 j8 j9 j10 j11 j12 j13 j14 j15 j16 j17 j18))) else none else some (.ret (.bool true),lcRet [] [] 0) := by kernel_rfl
theorem expr_right.top (n k : Nat) (a0 a1 a2 : Int) (a3 : Bool) (a4 a5 : ByteArray) (a6 : Int) (a7 : List Node) : callX false (fnF cx_expr_right (expr_right.rec k) n 41) ([.agg [.int .i64 a0,.int .i64 a1,.int .i64 a2,.bool a3,.str a4,.str a5,.int .i64 a6,.sl (.user 0) a7 .no]]) (lcSt [] 0) out = if (a0 == 1) = true then ((some (canV a1 a2 a3 a4)).bind fun v0 => if (!if (if v0 = true then a1 != 0 else false) = true then decide (a2 ≥ 0) else false) = true then some (.ret (.bool false),lcRet [] [] 0) else if (if false = true then true else !(a1 == a1 && (a2 == a2 && (a3 == a3 && (seq a4 a4 && true))))) = true then some (.ret (.bool false),lcRet [] [] 0) else if (if false = true then true else !seq a5 (ByteArray.mk #[])) = true then some (.ret (.bool false),lcRet [] [] 0) else if (if false = true then true else a6 != 0) = true then some (.ret (.bool false),lcRet [] [] 0) else if (if false = true then true else (↑a7.length : Int) != kidsZ a0) = true then some (.ret (.bool false),lcRet [] [] 0) else (expr_right.L1 n n k a0 a1 a2 a3 a4 a5 a6 a7 a7 ((↑a7.length : Int)) 0 a0 a1 a2 a3 a4 a5 a6 a7 a0 a1 a2 a3 a4 (ByteArray.mk #[]) 0 a7)) else if (if (a0 == 2) = true then true else a0 == 3) = true then ((if a5.size ≤ 900000 then some (pathB a5) else none).bind fun v5 => if (!v5) = true then some (.ret (.bool false),lcRet [] [] 0) else if (if false = true then true else !(a1 == 0 && (a2 == 0 && (a3 == false && (seq a4 (ByteArray.mk #[]) && true))))) = true then some (.ret (.bool false),lcRet [] [] 0) else if (if false = true then true else !seq a5 a5) = true then some (.ret (.bool false),lcRet [] [] 0) else if (if false = true then true else a6 != 0) = true then some (.ret (.bool false),lcRet [] [] 0) else if (if false = true then true else (↑a7.length : Int) != kidsZ a0) = true then some (.ret (.bool false),lcRet [] [] 0) else (expr_right.L1 n n k a0 a1 a2 a3 a4 a5 a6 a7 a7 ((↑a7.length : Int)) 0 a0 a1 a2 a3 a4 a5 a6 a7 a0 0 0 false (ByteArray.mk #[]) a5 0 a7)) else if (a0 == 4) = true then ((if a5.size ≤ 900000 then some (namedB a5) else none).bind fun v6 => if v6 = true then if (!if true = true then !seq (nmP a6) (ByteArray.mk #[]) else false) = true then some (.ret (.bool false),lcRet [] [] 0) else if (if false = true then true else !(a1 == 0 && (a2 == 0 && (a3 == false && (seq a4 (ByteArray.mk #[]) && true))))) = true then some (.ret (.bool false),lcRet [] [] 0) else if (if false = true then true else !seq a5 a5) = true then some (.ret (.bool false),lcRet [] [] 0) else if (if false = true then true else a6 != a6) = true then some (.ret (.bool false),lcRet [] [] 0) else if (if false = true then true else (↑a7.length : Int) != kidsZ a0) = true then some (.ret (.bool false),lcRet [] [] 0) else (expr_right.L1 n n k a0 a1 a2 a3 a4 a5 a6 a7 a7 ((↑a7.length : Int)) 0 a0 a1 a2 a3 a4 a5 a6 a7 a0 0 0 false (ByteArray.mk #[]) a5 a6 a7) else some (.ret (.bool false),lcRet [] [] 0)) else if (if false = true then true else !(a1 == 0 && (a2 == 0 && (a3 == false && (seq a4 (ByteArray.mk #[]) && true))))) = true then some (.ret (.bool false),lcRet [] [] 0) else if (if false = true then true else !seq a5 (ByteArray.mk #[])) = true then some (.ret (.bool false),lcRet [] [] 0) else if (if false = true then true else a6 != 0) = true then some (.ret (.bool false),lcRet [] [] 0) else if (if false = true then true else (↑a7.length : Int) != kidsZ a0) = true then some (.ret (.bool false),lcRet [] [] 0) else (expr_right.L1 n n k a0 a1 a2 a3 a4 a5 a6 a7 a7 ((↑a7.length : Int)) 0 a0 a1 a2 a3 a4 a5 a6 a7 a0 0 0 false (ByteArray.mk #[]) (ByteArray.mk #[]) 0 a7) := by kernel_rfl
end Go.Proofs.YtbcpnpbkbndkjaaGreatDoor.Ev
end
section
/- Texts between points, as the searching library cuts them. -/
set_option linter.unusedVariables false
set_option linter.unusedSimpArgs false
namespace Go.Proofs.YtbcpnpbkbndkjaaGreatDoor.Ev
open Go Go.RowKit Go.Proofs.YtbcpnpbkbndkjaaGreatDoorW.PrintWords
abbrev dotB : ByteArray := (⟨#[46]⟩ : ByteArray)
theorem indexByte_hit (c : UInt8) : ∀ (l : List UInt8) (j : Nat),(∀ i,i < j → l[i]? ≠ some c) → l[j]? = some c → Lib.indexByte l c = (j : Int)
 | [],j,_,h => by simp at h
 | b :: l,0,_,h => by
  obtain rfl : b = c := by simpa using h
  unfold Lib.indexByte
  simp
 | b :: l,j + 1,h1,h2 => by
  have hb : ¬ b = c := fun e => h1 0 (by omega) (by simp [e])
  have ih := indexByte_hit c l j (fun i hi => by have := h1 (i + 1) (by omega); simpa using this) (by simpa using h2)
  unfold Lib.indexByte
  simp [hb,ih]
theorem indexByte_miss (c : UInt8) : ∀ (l : List UInt8),c ∉ l → Lib.indexByte l c = -1
 | [],_ => by unfold Lib.indexByte; rfl
 | b :: l,h => by
  have hb : ¬ b = c := fun e => h (by simp [e])
  have ih := indexByte_miss c l (fun e => h (by simp [e]))
  unfold Lib.indexByte
  simp [hb,ih]
theorem dot_byte (x : UInt8) : ((x.toNat : Nat) : Int) = 46 ↔ x = 46 := by
 constructor
 · intro h
   apply UInt8.toNat_inj.1
   show x.toNat = 46
   omega
 · rintro rfl; rfl
theorem indexB_dot (t : ByteArray) : Lib.indexB t dotB = Lib.indexByte t.data.toList 46 := Lib.index_one t.data.toList 46
theorem parts_miss {t : ByteArray} (h : (46 : Int) ∉ bytesOf t) : splitW t dotB = [t] := by
 have e : Lib.indexB t dotB = -1 := by
  rw [indexB_dot]
  refine indexByte_miss 46 _ fun hm => h ?_
  unfold bytesOf
  exact List.mem_map.2 ⟨46,hm,rfl⟩
 unfold splitW
 exact Lib.splitB_miss dotB 0 _ t e
theorem parts_hit {t : ByteArray} {j : Nat} (h1 : ∀ i,i < j → (bytesOf t)[i]? ≠ some 46) (h2 : (bytesOf t)[j]? = some 46) : splitW t dotB = t.extract 0 j :: splitW (t.extract (j + 1) t.size) dotB := by
 have e : Lib.indexB t dotB = (j : Int) := by
  rw [indexB_dot]
  unfold bytesOf at h1 h2
  refine indexByte_hit 46 _ j (fun i hi hh => h1 i hi ?_) ?_
  · rw [List.getElem?_map,hh]; rfl
  · rw [List.getElem?_map] at h2
    obtain ⟨x,hx,hy⟩ := Option.map_eq_some_iff.1 h2
    rw [hx,(dot_byte x).1 hy]
 have hc := Lib.countB_hit t dotB j (by decide) e
 unfold splitW
 rw [hc,Nat.add_comm 1,Lib.splitB_hit dotB 0 _ t j e]
 rfl
end Go.Proofs.YtbcpnpbkbndkjaaGreatDoor.Ev
end
section
/- The evaluator's trees are the words: which trees may be. -/
set_option linter.unusedVariables false
set_option linter.unusedSimpArgs false
namespace Go.Proofs.YtbcpnpbkbndkjaaGreatDoor.Ev
open Go Go.RowKit Go.Proofs.YtbcpnpbkbndkjaaGreatDoorW.PrintWords
theorem bt_nat {s : ByteArray} {i : Nat} (h : i < (bytesOf s).length) : Ev.bt s (i : Int) = (bytesOf s)[i] := Bytes.bt_at' h
theorem wrN (i : Nat) (h : i ≤ 9223372036854775806) : IntKind.i64.wrap ((i : Int) + 1) = ((i + 1 : Nat) : Int) := by
 rw [wrap_64]; unfold wrap64; omega
theorem size_b (s : ByteArray) : s.size = (bytesOf s).length := Bytes.b_size s
theorem nd_y (n : Node) : nd n.x.1 n.x.2.1.1 n.x.2.1.2.1 n.x.2.1.2.2.1 n.x.2.1.2.2.2 n.x.2.2.1 n.x.2.2.2.1 n.x.2.2.2.2 = n := by cases n; rfl
theorem ndx (c0 c1 c2 : Int) (c3 : Bool) (c4 c5 : ByteArray) (c6 : Int) (c7 : List Node) : (nd c0 c1 c2 c3 c4 c5 c6 c7).x = (c0,(c1,c2,c3,c4),c5,c6,c7) := rfl
theorem rightW_nd (k : Nat) (a0 a1 a2 : Int) (a3 : Bool) (a4 a5 : ByteArray) (a6 : Int) (a7 : List Node) : rightW (k + 1) (nd a0 a1 a2 a3 a4 a5 a6 a7) = (if a4.size ≤ 900000 ∧ a5.size ≤ 900000 then if aloneB a0 a1 a2 a3 a4 a5 a6 = true ∧ (a7.length : Int) = kidsZ a0 then allW (rightW k) a7 else some false else none) := rfl
theorem wrong_lim (s : ByteArray) (hs : s.size ≤ 256) : (lim fun k => Q.chars_Wrong.f k (toBytes s)) = some (Chars.wrong (bytesOf s)) := by
 have hz := size_b s
 exact lim_of (X := fun k => Q.chars_Wrong.f k (toBytes s)) (fun k => Q.chars_Wrong.mono (toBytes s) k) (k := 1000) (by decide) (Lex.wrong_at _ (Chars.bytes_of s) (by omega) 1000 (by omega))
theorem wrongR_lim (s : ByteArray) (hs : s.size ≤ 256) : (lim fun k => Q.dossierref01_Wrong.f k (toBytes s)) = some (Chars.wrong (bytesOf s)) := by
 have hz := size_b s
 exact lim_of (X := fun k => Q.dossierref01_Wrong.f k (toBytes s)) (fun k => Q.dossierref01_Wrong.mono (toBytes s) k) (k := 1000) (by decide) (Chars.wrong_spec _ (Chars.bytes_of s) (by omega) 1000 (by omega)).2
theorem seq_nil (s : ByteArray) : seq s (⟨#[]⟩ : ByteArray) = s.toList.isEmpty := by
 rw [Bool.eq_iff_iff,seq_list,ByteArray.toList_eq,ByteArray.toList_eq]
 simp
theorem kids_le (z : Int) : kidsZ z ≤ 2 := by unfold kidsZ; repeat' split; all_goals omega
theorem tw_all (p : Int → Bool) : ∀ l : List Int,decide ((l.takeWhile p).length = l.length) = l.all p
 | [] => rfl
 | a :: r => by
  rw [List.takeWhile_cons,List.all_cons]
  cases h : p a with
  | true =>
   rw [if_pos rfl,Bool.true_and,← tw_all p r]
   simp
  | false => simp
theorem lexer_Plain.ok : AllOk specs_lexer_Plain := okS (cx := cx_lexer_Plain) rfl ref_Parse.ok (by kernel_rfl) fun args cs n K r g => by
 unfold lexer_Plain.spec at g
 dsimp only [lcSt] at g
 split at g
 · rename_i s
   obtain ⟨v,h,h2⟩ := bind2 g
   clear g
   refine okG h2 ?_
   clear h2
   split at h
   · rename_i hs
     obtain rfl := Option.some.inj h
     have hz := size_b s
     refine ⟨0,?_⟩
     rw [lexer_Plain.top]
     unfold plainB
     match hb : bytesOf s with
     | [] =>
      have h0 : s = (⟨#[]⟩ : ByteArray) := by apply Bytes.b_inj; rw [hb]; rfl
      subst h0
      rfl
     | a :: r =>
      have hlt : 0 < (bytesOf s).length := by rw [hb]; simp
      have h1 : (bytesOf s)[0] = a := by simp [hb]
      have hbt := bt_nat hlt
      rw [show ((0 : Nat) : Int) = 0 from rfl,h1] at hbt
      have ha := Chars.bytes_of s a (by rw [hb]; simp)
      have hS := Bytes.sets_at a ha
      have hn : seq s (⟨#[]⟩ : ByteArray) = false := by
       rw [seq_nil]
       have : s.toList ≠ [] := fun e => by
        have := Values.empty_of e
        rw [this] at hb
        cases hb
       simpa using this
      have hrun := Bytes.run_spec s Bytes.LETDIG Words.nameP (fun x hx => (Bytes.sets_at x hx).2.1) (by omega) (s.size + 1) (by omega)
      unfold Bytes.LET at hS
      unfold Bytes.LETDIG at hrun
      rw [if_pos (by rw [hn]; rfl),if_pos (by omega),hbt,hS.1,lim_of (X := fun k => Q.lexer_run.f k s _) (fun k => Q.lexer_run.mono s _ k) (by omega) hrun]
      simp only [Option.bind_some]
      have hle := Words.while_len Words.nameP (bytesOf s)
      have hsz : ((s.extract 0 ((bytesOf s).takeWhile Words.nameP).length).size : Int) = (((bytesOf s).takeWhile Words.nameP).length : Int) := by rw [ByteArray.size_extract]; omega
      have hall := tw_all Words.nameP (bytesOf s)
      rw [hsz]
      cases hl : Bytes.letterV a with
      | false => rfl
      | true =>
       have hna : Words.nameP a = true := by unfold Words.nameP; rw [hl]; rfl
       rw [hb,List.all_cons,hna,Bool.true_and] at hall
       rw [hb]
       simp only [if_true,Bool.true_and]
       rw [← hall,hz,hb]
       have e : (((List.takeWhile Words.nameP (a :: r)).length : Int) == ((a :: r).length : Int)) = decide ((List.takeWhile Words.nameP (a :: r)).length = (a :: r).length) := by
        rw [Bool.eq_iff_iff,beq_iff_eq,decide_eq_true_eq]
        omega
       rw [e]
   · cases h
 · cases g
theorem ref08_Plain.l_ev (n : Nat) (s0 s : ByteArray) (hs : (bytesOf s).length ≤ 9223372036854775806) : ∀ (d m i : Nat),i + d = (bytesOf s).length → 1 ≤ i → d + 1 ≤ m → ref08_Plain.L0 n m s0 s (s.size : Int) (i : Int) = some (.ret (.bool (((bytesOf s).drop i).all Words.nameP)),lcRet [] [] 0) := by
 intro d
 induction d with
 | zero =>
  intro m i h1 h2 h3
  obtain ⟨m,rfl⟩ : ∃ m',m = m' + 1 := ⟨m - 1,by omega⟩
  have hz := size_b s
  rw [ref08_Plain.L0_s,if_neg (by simp; omega),List.drop_of_length_le (by omega),decide_eq_true (show (s.size : Int) > 0 by omega)]
  rfl
 | succ d ih =>
  intro m i h1 h2 h3
  obtain ⟨m,rfl⟩ : ∃ m',m = m' + 1 := ⟨m - 1,by omega⟩
  have hz := size_b s
  have hlt : i < (bytesOf s).length := by omega
  rw [ref08_Plain.L0_s,if_pos (by simp; omega),if_pos (by omega),if_pos (by omega),bt_nat hlt,Bytes.letter_spec,Bytes.drop_cons hlt,wrN i (by omega),ih m (i + 1) (by omega) (by omega) (by omega),List.all_cons]
  rw [Option.bind_some]
  have h0 : ¬ ((i : Int) == 0) = true := by simp; omega
  have hn : Words.nameP (bytesOf s)[i] = (Bytes.letterV (bytesOf s)[i] || Bytes.digitV (bytesOf s)[i]) := rfl
  rw [hn]
  cases Bytes.letterV (bytesOf s)[i] with
  | true => rfl
  | false =>
   rw [if_pos (by rfl),if_neg h0,if_pos (by omega : (0 : Int) ≤ (i : Int)),if_pos (by omega : (i : Int) < (s.size : Int)),Bytes.digit_spec,Option.bind_some]
   cases Bytes.digitV (bytesOf s)[i] <;> rfl
theorem ref08_Plain.ok : AllOk specs_ref08_Plain := okS (cx := cx_ref08_Plain) rfl lexer_Plain.ok (by kernel_rfl) fun args cs n K r g => by
 unfold ref08_Plain.spec at g
 dsimp only [lcSt] at g
 split at g
 · rename_i s
   obtain ⟨v,h,h2⟩ := bind2 g
   clear g
   refine okG h2 ?_
   clear h2
   split at h
   · rename_i hs
     obtain rfl := Option.some.inj h
     have hz := size_b s
     refine ⟨(bytesOf s).length + 1,?_⟩
     rw [ref08_Plain.top]
     unfold plainB
     match hb : bytesOf s with
     | [] =>
      have h0 : s.size = 0 := by rw [hz,hb]; rfl
      rw [ref08_Plain.L0_s,if_neg (by simp [h0]),decide_eq_false (show ¬ (s.size : Int) > 0 by omega)]
     | a :: r =>
      have hlt : 0 < (bytesOf s).length := by rw [hb]; simp
      have h1 : (bytesOf s)[0] = a := by simp [hb]
      have hd : (bytesOf s).drop 1 = r := by rw [hb]; rfl
      have hbl : (bytesOf s).length = r.length + 1 := by rw [hb]; rfl
      have e := ref08_Plain.l_ev (r.length + 2) s s (by omega) r.length (r.length + 1) 1 (by omega) (Nat.le_refl _) (Nat.le_refl _)
      have hbt := bt_nat hlt
      rw [show ((0 : Nat) : Int) = 0 from rfl,h1] at hbt
      rw [show (a :: r).length + 1 = (r.length + 1) + 1 from rfl,ref08_Plain.L0_s,if_pos (by simp; omega),if_pos (by omega),if_pos (by omega),hbt,Bytes.letter_spec,show IntKind.i64.wrap (0 + 1) = ((1 : Nat) : Int) from wrN 0 (by omega)]
      rw [Option.bind_some]
      show _ = some (Res.ret (AVal.bool (Bytes.letterV a && r.all Words.nameP)),lcRet [] [] 0)
      cases Bytes.letterV a with
      | false => rfl
      | true =>
       rw [if_neg (by simp)]
       exact e.trans (by rw [hd]; rfl)
   · cases h
 · cases g
theorem expr_Named.ok : AllOk specs_expr_Named := okS (cx := cx_expr_Named) rfl ref08_Plain.ok (by kernel_rfl) fun args cs n K r g => by
 unfold expr_Named.spec at g
 dsimp only [lcSt] at g
 split at g
 · rename_i s
   obtain ⟨v,h,h2⟩ := bind2 g
   clear g
   refine okG h2 ?_
   clear h2
   split at h
   · rename_i hs
     obtain rfl := Option.some.inj h
     refine ⟨0,?_⟩
     rw [expr_Named.top,if_pos hs]
     simp only [Option.bind_some]
     unfold namedB
     cases plainB s <;> rfl
   · cases h
 · cases g
theorem ref_Named.ok : AllOk specs_ref_Named := okS (cx := cx_ref_Named) rfl expr_Named.ok (by kernel_rfl) fun args cs n K r g => by
 unfold ref_Named.spec at g
 dsimp only [lcSt] at g
 split at g
 · rename_i s
   obtain ⟨v,h,h2⟩ := bind2 g
   clear g
   refine okG h2 ?_
   clear h2
   split at h
   · rename_i hs
     obtain rfl := Option.some.inj h
     refine ⟨0,?_⟩
     rw [ref_Named.top,if_pos hs]
     simp only [Option.bind_some]
     unfold namedB
     cases plainB s <;> rfl
   · cases h
 · cases g
theorem first_at : ∀ (l : List Int),(46 : Int) ∈ l → ∃ j : Nat,(∀ i : Nat,i < j → l[i]? ≠ some 46) ∧ l[j]? = some 46
 | [],h => by cases h
 | a :: l,h => by
  by_cases ha : a = 46
  · exact ⟨0,fun i hi => by omega,by rw [ha]; rfl⟩
  · obtain ⟨j,h1,h2⟩ := first_at l (by simpa [Ne.symm ha] using h)
    refine ⟨j + 1,fun i hi => ?_,by simpa using h2⟩
    cases i with
    | zero => simpa using ha
    | succ i => simpa using h1 i (by omega)
theorem split_le : ∀ (n : Nat) (s : ByteArray),s.size ≤ n → ∀ p ∈ splitW s dotB,p.size ≤ s.size := by
 intro n
 induction n with
 | zero =>
  intro s hs p hp
  have hz := size_b s
  have : bytesOf s = [] := List.eq_nil_of_length_eq_zero (by omega)
  rw [parts_miss (by rw [this]; simp)] at hp
  rw [List.mem_singleton.1 hp]
  exact Nat.le_refl _
 | succ n ih =>
  intro s hs p hp
  by_cases hm : (46 : Int) ∈ bytesOf s
  · have hz := size_b s
    have hex : ∃ j : Nat,(∀ i : Nat,i < j → (bytesOf s)[i]? ≠ some 46) ∧ (bytesOf s)[j]? = some 46 := first_at _ hm
    obtain ⟨j,h1,h2⟩ := hex
    have hj : j < (bytesOf s).length := (List.getElem?_eq_some_iff.1 h2).1
    rw [parts_hit h1 h2] at hp
    rcases List.mem_cons.1 hp with rfl | hp
    · rw [ByteArray.size_extract]; omega
    · have h3 := ih (s.extract (j + 1) s.size) (by rw [ByteArray.size_extract]; omega) p hp
      rw [ByteArray.size_extract] at h3
      omega
  · rw [parts_miss hm] at hp
    rw [List.mem_singleton.1 hp]
    exact Nat.le_refl _
theorem parts_len (s : ByteArray) : (partsW s).length ≤ s.size + 1 := by
 have h := Lib.splitB_length_le dotB 0 (Lib.countB s dotB) s
 have h2 := Lib.countB_le dotB (by decide) s.size s (Nat.le_refl _)
 show (splitW s dotB).length ≤ _
 unfold splitW
 omega
theorem expr_pathed.l_ev (n : Nat) (s0 : ByteArray) (l : List ByteArray) (hp : ∀ p ∈ l,p.size ≤ 900000) (hl : l.length ≤ 9223372036854775806) : ∀ (k m i : Nat),i + k = l.length → k + 1 ≤ m → expr_pathed.L0 n m s0 l (l.length : Int) (i : Int) = some (.ret (.bool ((l.drop i).all namedB)),lcRet [] [] 0) := by
 intro k
 induction k with
 | zero =>
  intro m i h1 h2
  obtain ⟨m,rfl⟩ : ∃ m',m = m' + 1 := ⟨m - 1,by omega⟩
  rw [expr_pathed.L0_s,if_neg (by simp; omega),List.drop_of_length_le (by omega)]
  rfl
 | succ k ih =>
  intro m i h1 h2
  obtain ⟨m,rfl⟩ : ∃ m',m = m' + 1 := ⟨m - 1,by omega⟩
  have hlt : i < l.length := by omega
  rw [expr_pathed.L0_s,if_pos (by simp; omega),if_pos (by omega),show ((i : Int)).toNat = i from by omega,nth_at hlt,List.drop_eq_getElem_cons hlt,wrN i (by omega),ih m (i + 1) (by omega) (by omega)]
  simp only [Option.bind_some,List.all_cons]
  rw [if_pos (hp _ (List.getElem_mem hlt))]
  simp only [Option.bind_some]
  cases namedB l[i] <;> rfl
theorem expr_pathed.ok : AllOk specs_expr_pathed := okS (cx := cx_expr_pathed) rfl ref_Named.ok (by kernel_rfl) fun args cs n K r g => by
 unfold expr_pathed.spec at g
 dsimp only [lcSt] at g
 split at g
 · rename_i s
   obtain ⟨v,h,h2⟩ := bind2 g
   clear g
   refine okG h2 ?_
   clear h2
   split at h
   · rename_i hs
     obtain rfl := Option.some.inj h
     have h3 := parts_len s
     refine ⟨(partsW s).length + 1,?_⟩
     rw [expr_pathed.top,if_pos ⟨by omega,by decide⟩]
     exact expr_pathed.l_ev _ s (partsW s) (fun p hp => Nat.le_trans (split_le s.size s (Nat.le_refl _) p hp) hs) (by omega) (partsW s).length _ 0 (by omega) (Nat.le_refl _)
   · cases h
 · cases g
theorem ref_Parts.l_ev (n : Nat) (s0 s : ByteArray) (hs : s.size ≤ 900000) : ∀ (d m a i : Nat) (acc : List ByteArray),i + d = (bytesOf s).length → a ≤ i → (∀ j,a ≤ j → j < i → (bytesOf s)[j]? ≠ some 46) → acc.length ≤ i → d + 2 ≤ m →
 ref_Parts.L0 n m s0 s acc (a : Int) ((s.size + 1 : Nat) : Int) (i : Int) = some (.ret (.sl .str (acc ++ splitW (s.extract a s.size) dotB) .no),lcRet [] [] 0) := by
 intro d
 induction d with
 | zero =>
  intro m a i acc h1 h2 h3 h4 h5
  obtain ⟨m,rfl⟩ : ∃ m',m = m' + 2 := ⟨m - 2,by omega⟩
  have hz := size_b s
  have hb : bytesOf (s.extract a s.size) = (bytesOf s).drop a := Quoted.ext_all s a
  have hmiss : (46 : Int) ∉ bytesOf (s.extract a s.size) := by
   rw [hb]
   intro hm
   obtain ⟨j,hj,e⟩ := List.getElem_of_mem hm
   rw [List.length_drop] at hj
   refine h3 (a + j) (by omega) (by omega) ?_
   rw [← e,List.getElem_drop]
   exact List.getElem?_eq_getElem _
  have hi : i = s.size := by omega
  subst hi
  rw [ref_Parts.L0_s,if_pos (decide_eq_true (by omega)),if_pos (by simp),if_pos (by omega),if_pos (by omega),if_pos (by omega),if_pos (by rw [List.length_singleton]; unfold most; omega),wrN s.size (by omega),parts_miss hmiss,ref_Parts.L0_s,if_neg (fun e => absurd (of_decide_eq_true e) (by omega))]
  rfl
 | succ d ih =>
  intro m a i acc h1 h2 h3 h4 h5
  obtain ⟨m,rfl⟩ : ∃ m',m = m' + 1 := ⟨m - 1,by omega⟩
  have hz := size_b s
  have hlt : i < (bytesOf s).length := by omega
  rw [ref_Parts.L0_s,if_pos (decide_eq_true (by omega)),if_neg (by rw [beq_iff_eq]; omega),if_pos (by omega),if_pos (by omega),bt_nat hlt,wrN i (by omega)]
  by_cases hd : (bytesOf s)[i] = 46
  · rw [if_pos (by rw [hd]; rfl),if_pos (by omega),if_pos (by omega),if_pos (by omega),if_pos (by rw [List.length_singleton]; unfold most; omega)]
    rw [ih m (i + 1) (i + 1) _ (by omega) (Nat.le_refl _) (fun j h6 h7 => by omega) (by simp; omega) (by omega)]
    have hb : bytesOf (s.extract a s.size) = (bytesOf s).drop a := Quoted.ext_all s a
    have hh := parts_hit (t := s.extract a s.size) (j := i - a) (fun j hj => by
     rw [hb,List.getElem?_drop]
     exact h3 (a + j) (by omega) (by omega)) (by
     rw [hb,List.getElem?_drop,show a + (i - a) = i from by omega,List.getElem?_eq_getElem hlt,hd])
    have e1 : (s.extract a s.size).extract 0 (i - a) = s.extract ((a : Int)).toNat ((i : Int)).toNat := by
     apply Bytes.b_inj
     rw [Bytes.b_extract,hb,Bytes.b_extract,List.drop_zero,show ((a : Int)).toNat = a from by omega,show ((i : Int)).toNat = i from by omega,Nat.sub_zero]
    have e2 : (s.extract a s.size).extract (i - a + 1) (s.extract a s.size).size = s.extract (i + 1) s.size := by
     apply Bytes.b_inj
     rw [Quoted.ext_all,hb,Quoted.ext_all,List.drop_drop,show a + (i - a + 1) = i + 1 from by omega]
    rw [hh,e1,e2,List.append_assoc]
    rfl
  · rw [if_neg (by simpa using hd)]
    exact ih m a (i + 1) acc (by omega) (by omega) (fun j h6 h7 => by
     by_cases hj : j = i
     · subst hj
       rw [List.getElem?_eq_getElem hlt]
       intro e
       exact hd (Option.some.inj e)
     · exact h3 j h6 (by omega)) (by omega) (by omega)
theorem ref_Parts.ok : AllOk specs_ref_Parts := okS (cx := cx_ref_Parts) rfl expr_pathed.ok (by kernel_rfl) fun args cs n K r g => by
 unfold ref_Parts.spec at g
 dsimp only [lcSt] at g
 split at g
 · rename_i s
   obtain ⟨v,h,h2⟩ := bind2 g
   clear g
   refine okG h2 ?_
   clear h2
   split at h
   · rename_i hs
     obtain rfl := Option.some.inj h
     have hz := size_b s
     refine ⟨s.size + 2,?_⟩
     rw [ref_Parts.top,wrN s.size (by omega)]
     have := ref_Parts.l_ev (s.size + 2) s s hs s.size (s.size + 2) 0 0 [] (by omega) (Nat.le_refl _) (fun j h1 h2 => by omega) (Nat.le_refl _) (Nat.le_refl _)
     rw [List.nil_append,show s.extract 0 s.size = s from by simp] at this
     exact this
   · cases h
 · cases g
theorem ref_pathed.l_ev (n : Nat) (s0 : ByteArray) (l : List ByteArray) (hp : ∀ p ∈ l,p.size ≤ 900000) (hl : l.length ≤ 9223372036854775806) : ∀ (k m i : Nat),i + k = l.length → k + 1 ≤ m → ref_pathed.L0 n m s0 l (l.length : Int) (i : Int) = some (.ret (.bool ((l.drop i).all namedB)),lcRet [] [] 0) := by
 intro k
 induction k with
 | zero =>
  intro m i h1 h2
  obtain ⟨m,rfl⟩ : ∃ m',m = m' + 1 := ⟨m - 1,by omega⟩
  rw [ref_pathed.L0_s,if_neg (by simp; omega),List.drop_of_length_le (by omega)]
  rfl
 | succ k ih =>
  intro m i h1 h2
  obtain ⟨m,rfl⟩ : ∃ m',m = m' + 1 := ⟨m - 1,by omega⟩
  have hlt : i < l.length := by omega
  rw [ref_pathed.L0_s,if_pos (by simp; omega),if_pos (by omega),show ((i : Int)).toNat = i from by omega,nth_at hlt,List.drop_eq_getElem_cons hlt,wrN i (by omega),ih m (i + 1) (by omega) (by omega)]
  simp only [Option.bind_some,List.all_cons]
  rw [if_pos (hp _ (List.getElem_mem hlt))]
  simp only [Option.bind_some]
  cases namedB l[i] <;> rfl
theorem ref_pathed.ok : AllOk specs_ref_pathed := okS (cx := cx_ref_pathed) rfl ref_Parts.ok (by kernel_rfl) fun args cs n K r g => by
 unfold ref_pathed.spec at g
 dsimp only [lcSt] at g
 split at g
 · rename_i s
   obtain ⟨v,h,h2⟩ := bind2 g
   clear g
   refine okG h2 ?_
   clear h2
   split at h
   · rename_i hs
     obtain rfl := Option.some.inj h
     have h3 := parts_len s
     refine ⟨(partsW s).length + 1,?_⟩
     rw [ref_pathed.top,if_pos hs]
     simp only [Option.bind_some]
     exact ref_pathed.l_ev _ s (partsW s) (fun p hp => Nat.le_trans (split_le s.size s (Nat.le_refl _) p hp) hs) (by omega) (partsW s).length _ 0 (by omega) (Nat.le_refl _)
   · cases h
 · cases g
def findC (z : Int) : List (Int × Int × ByteArray) → Option (Rr U0)
 | [] => some (.ret (.tup [.agg [.int .i64 0,.int .i64 0,.str (⟨#[]⟩ : ByteArray)],.bool false]),lcRet [] [] 0)
 | o :: r => if (o.1 == z) = true then some (.ret (.tup [.agg [.int .i64 o.1,.int .i64 o.2.1,.str o.2.2],.bool true]),lcRet [] [] 0) else findC z r
theorem findC_is (z : Int) : ∀ l : List (Int × Int × ByteArray),findC z l = (match l.find? (fun o => o.1 == z) with
 | some o => some (.ret (.tup [.agg [.int .i64 o.1,.int .i64 o.2.1,.str o.2.2],.bool true]),lcRet [] [] 0)
 | none => some (.ret (.tup [.agg [.int .i64 0,.int .i64 0,.str (⟨#[]⟩ : ByteArray)],.bool false]),lcRet [] [] 0))
 | [] => rfl
 | o :: r => by
  rw [findC,List.find?_cons,findC_is z r]
  cases h : (o.1 == z) <;> rfl
theorem expr_find.run (z : Int) : callX false (fnF cx_expr_find noCalls 14 120) ([AVal.int IntKind.i64 z]) (lcSt [] 0) out = findC z opsL := by kernel_rfl
theorem expr_find.ok : AllOk specs_expr_find := okS (cx := cx_expr_find) rfl ref_pathed.ok (by kernel_rfl) fun args cs n K r g => by
 unfold expr_find.spec at g
 dsimp only [lcSt] at g
 split at g
 · rename_i z
   obtain ⟨v,h,h2⟩ := bind2 g
   clear g
   refine okG h2 ?_
   clear h2
   obtain rfl := Option.some.inj h
   refine ⟨14,?_⟩
   rw [expr_find.run,findC_is]
   unfold findO
   cases opsL.find? (fun o => o.1 == z) <;> rfl
 · cases g
theorem findO_is (z : Int) : (findO z).2.2.2 = decide (7 ≤ z ∧ z ≤ 19) := by
 by_cases h : 7 ≤ z ∧ z ≤ 19
 · have hc : z = 7 ∨ z = 8 ∨ z = 9 ∨ z = 10 ∨ z = 11 ∨ z = 12 ∨ z = 13 ∨ z = 14 ∨ z = 15 ∨ z = 16 ∨ z = 17 ∨ z = 18 ∨ z = 19 := by omega
   rcases hc with rfl | rfl | rfl | rfl | rfl | rfl | rfl | rfl | rfl | rfl | rfl | rfl | rfl <;> rfl
 · have e : opsL.find? (fun o => o.1 == z) = none := by
    rw [List.find?_eq_none]
    intro o ho
    have : ∀ o ∈ opsL,7 ≤ o.1 ∧ o.1 ≤ 19 := by decide +kernel
    have := this o ho
    simp
    omega
   unfold findO
   rw [e,decide_eq_false h]
theorem expr_kids.ok : AllOk specs_expr_kids := okS (cx := cx_expr_kids) rfl expr_find.ok (by kernel_rfl) fun args cs n K r g => by
 unfold expr_kids.spec at g
 dsimp only [lcSt] at g
 split at g
 · rename_i z
   obtain ⟨v,h,h2⟩ := bind2 g
   clear g
   refine okG h2 ?_
   clear h2
   obtain rfl := Option.some.inj h
   refine ⟨0,?_⟩
   rw [expr_kids.top,findO_is]
   unfold kidsZ
   simp only [ite_or,beq_iff_eq,decide_eq_true_eq]
   repeat' split
   all_goals first | rfl | (exfalso; omega)
 · cases g
theorem ref_kids.ok : AllOk specs_ref_kids := okS (cx := cx_ref_kids) rfl expr_kids.ok (by kernel_rfl) fun args cs n K r g => by
 unfold ref_kids.spec at g
 dsimp only [lcSt] at g
 split at g
 · rename_i z
   obtain ⟨v,h,h2⟩ := bind2 g
   clear g
   refine okG h2 ?_
   clear h2
   obtain rfl := Option.some.inj h
   refine ⟨0,?_⟩
   rw [ref_kids.top]
   unfold kidsZ
   simp only [ite_or,ite_and,decide_eq_true_eq,beq_iff_eq]
   by_cases h1 : 1 ≤ z ∧ z ≤ 4
   · rw [if_pos (by omega),if_pos h1]
   rw [if_neg (by omega),if_neg h1]
   by_cases h2 : z = 5 ∨ z = 6
   · rw [if_pos h2,if_pos h2]
   rw [if_neg h2,if_neg h2]
   by_cases h3 : 7 ≤ z ∧ z ≤ 19
   · rw [if_pos (by omega),if_pos h3]
   · rw [if_neg (by omega),if_neg h3]
 · cases g
theorem ref01_Wrong.l_ev (n : Nat) (b : List Int) : ∀ (k m : Nat) (l : List Int) (i : Int) (v : Int),k ≤ 1000000 → k ≤ m → Q.dossierref01_Wrong.l0 k l i = some v → ref01_Wrong.L0 n m b l i = some (.ret (.int .i64 v),lcRet [] [] 0) := by
 intro k
 induction k with
 | zero => intro m l i v _ _ h; simp [Q.dossierref01_Wrong.l0] at h
 | succ k ih =>
  intro m l i v hk0 hk h
  obtain ⟨m,rfl⟩ : ∃ m',m = m' + 1 := ⟨m - 1,by omega⟩
  rw [Q.dossierref01_Wrong.l0] at h
  rw [ref01_Wrong.L0_s]
  have hx : ∀ r v,Q.dossierref01_OfXML.f k r = some v → lim (fun k => Q.dossierref01_OfXML.f k r) = some v := fun r v h => lim_of (fun k => Q.dossierref01_OfXML.mono r k) (by omega) h
  have hy : ∀ r v,Q.dossierref01_Decode.f k r = some v → lim (fun k => Q.dossierref01_Decode.f k r) = some v := fun r v h => lim_of (fun k => Q.dossierref01_Decode.mono r k) (by omega) h
  simp only [ite_or,ite_and,seq_list,wrap_64,ba_list,decide_eq_true_eq,beq_iff_eq] at h ⊢
  grind [→ bindE]
theorem ref01_Wrong.ok : AllOk specs_ref01_Wrong := okS (cx := cx_ref01_Wrong) rfl ref_kids.ok (by kernel_rfl) fun args cs n K r g => by
 unfold ref01_Wrong.spec at g
 dsimp only [lcSt] at g
 split at g
 · rename_i b
   obtain ⟨v,h1,h2⟩ := bind2 g
   obtain ⟨k,hk,h⟩ := lim_some h1
   clear h1
   clear g
   refine okG h2 ?_
   clear h2
   refine ⟨k,?_⟩
   rw [ref01_Wrong.top]
   exact ref01_Wrong.l_ev k b k k b 0 v hk (Nat.le_refl _) h
 · cases g
theorem value_Can.ok : AllOk specs_value_Can := okS (cx := cx_value_Can) rfl ref01_Wrong.ok (by kernel_rfl) fun args cs n K r g => by
 unfold value_Can.spec at g
 dsimp only [lcSt] at g
 split at g
 · rename_i y0 y1 y2 y3
   obtain ⟨v,h,h2⟩ := bind2 g
   clear g
   refine okG h2 ?_
   clear h2
   obtain rfl := Option.some.inj h
   refine ⟨0,?_⟩
   rw [value_Can.top]
   have hnil : seq y3 (⟨#[]⟩ : ByteArray) = true → y3 = (⟨#[]⟩ : ByteArray) := fun e => by rw [seq_nil] at e; exact Values.empty_of (by simpa using e)
   have wn := Values.wrong_none
   have hz0 : (((⟨#[]⟩ : ByteArray) : ByteArray).size : Int) ≤ 256 := by decide
   show _ = some (Res.ret (AVal.bool (Values.canV y0 y1 y2 y3)),lcRet [] [] 0)
   unfold Values.canV
   simp only [← seq_nil]
   by_cases h0 : y0 = 0
   · subst h0
     by_cases hn : seq y3 (⟨#[]⟩ : ByteArray) = true
     · obtain rfl := hnil hn
       rw [wrong_lim _ (by decide),wn]
       by_cases h1 : y1 = 0 <;> cases y2 <;> simp [h1,seq,hz0]
     · simp [hn]
   by_cases h1 : y0 = 1
   · subst h1
     by_cases hn : seq y3 (⟨#[]⟩ : ByteArray) = true
     · obtain rfl := hnil hn
       rw [wrong_lim _ (by decide),wn]
       cases y2 <;> simp [seq,hz0]
     · simp [hn]
   by_cases h2 : y0 = 2
   · subst h2
     by_cases hn : seq y3 (⟨#[]⟩ : ByteArray) = true
     · obtain rfl := hnil hn
       rw [wrong_lim _ (by decide),wn]
       by_cases h1 : y1 = 0 <;> simp [h1,seq,hz0]
     · simp [hn]
   by_cases h3 : y0 = 3
   · subst h3
     by_cases hz : y3.size ≤ 256
     · rw [wrong_lim _ hz]
       have : (y3.size : Int) ≤ 256 := by omega
       by_cases h1 : y1 = 0 <;> cases y2 <;> simp [h1,seq,hz,this]
     · have : ¬ (y3.size : Int) ≤ 256 := by omega
       by_cases h1 : y1 = 0 <;> cases y2 <;> simp [h1,seq,hz,this]
   · simp [h0,h1,h2,h3]
 · cases g
theorem ref07_Can.ok : AllOk specs_ref07_Can := okS (cx := cx_ref07_Can) rfl value_Can.ok (by kernel_rfl) fun args cs n K r g => by
 unfold ref07_Can.spec at g
 dsimp only [lcSt] at g
 split at g
 · rename_i y0 y1 y2 y3
   obtain ⟨v,h,h2⟩ := bind2 g
   clear g
   refine okG h2 ?_
   clear h2
   obtain rfl := Option.some.inj h
   refine ⟨0,?_⟩
   rw [ref07_Can.top]
   show _ = some (Res.ret (AVal.bool (Values.canV y0 y1 y2 y3)),lcRet [] [] 0)
   unfold Values.canV
   simp only [← seq_nil]
   by_cases h0 : y0 = 0
   · subst h0
     cases y2 <;> simp
   by_cases h1 : y0 = 1
   · subst h1
     cases y2 <;> simp
   by_cases h2 : y0 = 2
   · subst h2
     simp
   by_cases h3 : y0 = 3
   · subst h3
     by_cases hz : y3.size ≤ 256
     · rw [wrongR_lim _ hz]
       have : (y3.size : Int) ≤ 256 := by omega
       by_cases h1 : y1 = 0 <;> cases y2 <;> simp [h1,seq,hz,this]
     · have : ¬ (y3.size : Int) ≤ 256 := by omega
       by_cases h1 : y1 = 0 <;> cases y2 <;> simp [h1,seq,hz,this]
   · simp [h0,h1,h2,h3]
 · cases g
theorem value_sortOf.ok : AllOk specs_value_sortOf := okS (cx := cx_value_sortOf) rfl ref07_Can.ok (by kernel_rfl) fun args cs n K r g => by
 unfold value_sortOf.spec at g
 dsimp only [lcSt] at g
 split at g
 · rename_i z
   obtain ⟨v,h,h2⟩ := bind2 g
   clear g
   refine okG h2 ?_
   clear h2
   obtain rfl := Option.some.inj h
   refine ⟨0,?_⟩
   rw [value_sortOf.top]
   unfold sortZ Values.sortV
   simp only [ite_or,beq_iff_eq]
   repeat' split
   all_goals first | rfl | (exfalso; omega)
 · cases g
theorem value_Kind.ok : AllOk specs_value_Kind := okS (cx := cx_value_Kind) rfl value_sortOf.ok (by kernel_rfl) fun args cs n K r g => by
 unfold value_Kind.spec at g
 dsimp only [lcSt] at g
 split at g
 · rename_i z a b
   obtain ⟨v,h,h2⟩ := bind2 g
   clear g
   refine okG h2 ?_
   clear h2
   obtain rfl := Option.some.inj h
   refine ⟨0,?_⟩
   rw [value_Kind.top]
   show _ = some (Res.ret (AVal.tup [AVal.int .i64 (Values.kindV z a b).1,AVal.bool (Values.kindV z a b).2]),lcRet [] [] 0)
   by_cases hz : z < 5 ∨ 19 < z
   · rw [show sortZ z = 0 from Values.sortV_out z hz,Values.kindV_out z a b hz]; rfl
   rcases Values.op_in z hz with rfl | rfl | rfl | rfl | rfl | rfl | rfl | rfl | rfl | rfl | rfl | rfl | rfl | rfl | rfl
   all_goals (simp only [sortZ,Values.sortV,Values.kindV]; simp; repeat' split)
   all_goals first | rfl | (exfalso; omega)
 · cases g
theorem ref07_Kind.ok : AllOk specs_ref07_Kind := okS (cx := cx_ref07_Kind) rfl value_Kind.ok (by kernel_rfl) fun args cs n K r g => by
 unfold ref07_Kind.spec at g
 dsimp only [lcSt] at g
 split at g
 · rename_i z a b
   obtain ⟨v,h,h2⟩ := bind2 g
   clear g
   refine okG h2 ?_
   clear h2
   obtain rfl := Option.some.inj h
   refine ⟨0,?_⟩
   rw [ref07_Kind.top]
   show _ = some (Res.ret (AVal.tup [AVal.int .i64 (Values.kindV z a b).1,AVal.bool (Values.kindV z a b).2]),lcRet [] [] 0)
   unfold Values.kindV
   simp only [ite_or,ite_and,beq_iff_eq,decide_eq_true_eq]
   repeat' split
   all_goals first | rfl | (exfalso; omega)
 · cases g
theorem nmP_ne (j : Int) : (seq (nmP j) (⟨#[]⟩ : ByteArray) = false) = (1 ≤ j ∧ j ≤ 8) := by
 apply propext
 constructor
 · intro h
   unfold nmP at h
   split at h
   · rw [show seq (⟨#[]⟩ : ByteArray) (⟨#[]⟩ : ByteArray) = true from rfl] at h; cases h
   · split at h
     · rw [show seq (⟨#[]⟩ : ByteArray) (⟨#[]⟩ : ByteArray) = true from rfl] at h; cases h
     · omega
 · intro h
   have : j = 1 ∨ j = 2 ∨ j = 3 ∨ j = 4 ∨ j = 5 ∨ j = 6 ∨ j = 7 ∨ j = 8 := by omega
   rcases this with rfl | rfl | rfl | rfl | rfl | rfl | rfl | rfl <;> rfl
theorem seq_self (s : ByteArray) : seq s s = true := by simp [seq]
theorem expr_right.l1 (n k : Nat) (a0 a1 a2 : Int) (a3 : Bool) (a4 a5 : ByteArray) (a6 : Int) (a7 : List Node) (b0 b1 b2 : Int) (b3 : Bool) (b4 b5 : ByteArray) (b6 : Int) (b7 : List Node) (c0 c1 c2 : Int) (c3 : Bool) (c4 c5 : ByteArray) (c6 : Int) (c7 : List Node) (l : List Node) (hl : l.length ≤ 1000000) : ∀ (j m : Nat) (i : Int) (v : Bool),0 ≤ i → j + i = l.length → j + 1 ≤ m → allW (rightW k) (l.drop i.toNat) = some v →
 expr_right.L1 n m k a0 a1 a2 a3 a4 a5 a6 a7 l l.length i b0 b1 b2 b3 b4 b5 b6 b7 c0 c1 c2 c3 c4 c5 c6 c7 = some (.ret (.bool v),lcRet [] [] 0) := by
 intro j
 induction j with
 | zero =>
  intro m i v h0 h1 h2 h
  obtain ⟨m,rfl⟩ : ∃ m',m = m' + 1 := ⟨m - 1,by omega⟩
  rw [List.drop_eq_nil_of_le (by omega),allW] at h
  obtain rfl := Option.some.inj h
  rw [expr_right.L1_s,if_neg (by simp; omega)]
 | succ j ih =>
  intro m i v h0 h1 h2 h
  obtain ⟨m,rfl⟩ : ∃ m',m = m' + 1 := ⟨m - 1,by omega⟩
  have hlt : i.toNat < l.length := by omega
  rw [List.drop_eq_getElem_cons hlt,allW] at h
  obtain ⟨e,h3,h4⟩ := bind2 h
  rw [expr_right.L1_s,if_pos (by simp; omega),if_pos h0,nth_at hlt,Option.bind_some,nd_y,h3,Option.bind_some]
  cases e with
  | false =>
   rw [if_neg (by decide)] at h4
   obtain rfl := Option.some.inj h4
   rw [if_pos (by decide)]
  | true =>
   rw [if_pos rfl] at h4
   rw [if_neg (by decide),wrS i h0 (by omega)]
   refine ih m (i + 1) v (by omega) (by omega) (by omega) ?_
   rw [show (i + 1).toNat = i.toNat + 1 from by omega]
   exact h4
theorem expr_right.step (k : Nat) (h0 : CallOkL Tryz.prog C0 41 (expr_right.specR k)) : CallOkL Tryz.prog C0 41 (expr_right.specR (k + 1)) := okR (cx := cx_expr_right) (R := expr_right.rec k) rfl rfl ref07_Kind.ok (fun x hx => by
 obtain rfl := List.mem_singleton.1 hx
 exact ⟨fnOk_of (by kernel_rfl),h0⟩) fun args cs n K r g => by
 unfold expr_right.specR at g
 dsimp only [lcSt] at g
 split at g
 · rename_i a0 a1 a2 a3 a4 a5 a6 a7
   obtain ⟨v,h,h2⟩ := bind2 g
   clear g
   refine okG h2 ?_
   clear h2
   rw [rightW_nd] at h
   split at h
   · rename_i hs
     refine ⟨a7.length + 1,?_⟩
     rw [expr_right.top]
     have hx := kids_le a0
     by_cases hA : aloneB a0 a1 a2 a3 a4 a5 a6 = true ∧ (a7.length : Int) = kidsZ a0
     · rw [if_pos hA] at h
       obtain ⟨hA,hK⟩ := hA
       have fin : ∀ c0 c1 c2 c3 c4 c5 c6 c7,expr_right.L1 (a7.length + 1) (a7.length + 1) k a0 a1 a2 a3 a4 a5 a6 a7 a7 a7.length 0 a0 a1 a2 a3 a4 a5 a6 a7 c0 c1 c2 c3 c4 c5 c6 c7 = some (.ret (.bool v),lcRet [] [] 0) := fun c0 c1 c2 c3 c4 c5 c6 c7 => by
        rw [expr_right.L1_s,← expr_right.L1_s]
        exact expr_right.l1 _ _ _ _ _ _ _ _ _ _ _ _ _ _ _ _ _ _ _ _ _ _ _ _ _ _ a7 (by omega) a7.length _ 0 v (by omega) (by omega) (Nat.le_refl _) h
       have hk : ((a7.length : Int) != kidsZ a0) = false := by simp [hK]
       unfold aloneB none4 at hA
       by_cases h1 : a0 = 1
       · rw [if_pos h1] at hA
         simp only [Bool.and_eq_true,decide_eq_true_eq] at hA
         obtain ⟨g1,g2,g3,g4,g5⟩ := hA
         rw [if_pos (by simpa using h1)]
         simp only [Option.bind_some]
         rw [if_neg (by simp [g1,g2,g3]),if_neg (by simp [seq_self]),if_neg (by simp [g4]),if_neg (by simp [g5]),if_neg (by simp [hk])]
         exact fin _ _ _ _ _ _ _ _
       rw [if_neg h1] at hA
       by_cases h2 : a0 = 2 ∨ a0 = 3
       · rw [if_pos h2] at hA
         simp only [Bool.and_eq_true,decide_eq_true_eq,Bool.not_eq_true'] at hA
         obtain ⟨⟨g1,g2,g3,g4⟩,g5,g6⟩ := hA
         rw [if_neg (by simpa using h1),if_pos (by simpa using h2),if_pos hs.2]
         simp only [Option.bind_some]
         rw [if_neg (by simp [g5]),if_neg (by simp [g1,g2,g3,g4]),if_neg (by simp [seq_self]),if_neg (by simp [g6]),if_neg (by simp [hk])]
         exact fin _ _ _ _ _ _ _ _
       rw [if_neg h2] at hA
       by_cases h4 : a0 = 4
       · rw [if_pos h4] at hA
         simp only [Bool.and_eq_true,decide_eq_true_eq,Bool.not_eq_true'] at hA
         obtain ⟨⟨g1,g2,g3,g4⟩,g5,g6⟩ := hA
         have g7 : seq (nmP a6) (⟨#[]⟩ : ByteArray) = false := by rw [nmP_ne]; exact g6
         rw [if_neg (by simpa using h1),if_neg (by simpa using h2),if_pos (by simpa using h4),if_pos hs.2]
         simp only [Option.bind_some]
         rw [if_pos g5,if_neg (by simp [g7]),if_neg (by simp [g1,g2,g3,g4]),if_neg (by simp [seq_self]),if_neg (by simp),if_neg (by simp [hk])]
         exact fin _ _ _ _ _ _ _ _
       · rw [if_neg h4] at hA
         simp only [Bool.and_eq_true,decide_eq_true_eq,Bool.not_eq_true'] at hA
         obtain ⟨⟨g1,g2,g3,g4⟩,g5,g6⟩ := hA
         rw [if_neg (by simpa using h1),if_neg (by simpa using h2),if_neg (by simpa using h4)]
         rw [if_neg (by simp [g1,g2,g3,g4]),if_neg (by simp [g5]),if_neg (by simp [g6]),if_neg (by simp [hk])]
         exact fin _ _ _ _ _ _ _ _
     · rw [if_neg hA] at h
       obtain rfl := Option.some.inj h
       unfold aloneB none4 at hA
       by_cases h1 : a0 = 1
       · rw [if_pos h1] at hA
         rw [if_pos (by simpa using h1)]
         simp only [Option.bind_some]
         repeat' split
         all_goals first | rfl | contradiction | (exfalso; apply hA; clear hA hs hx h; simp_all [seq_self])
       rw [if_neg h1] at hA
       by_cases h2 : a0 = 2 ∨ a0 = 3
       · rw [if_pos h2] at hA
         rw [if_neg (by simpa using h1),if_pos (by simpa using h2),if_pos hs.2]
         simp only [Option.bind_some]
         repeat' split
         all_goals first | rfl | contradiction | (exfalso; apply hA; clear hA hs hx h; simp_all [seq_self])
       rw [if_neg h2] at hA
       by_cases h4 : a0 = 4
       · rw [if_pos h4] at hA
         have g7 := nmP_ne a6
         rw [if_neg (by simpa using h1),if_neg (by simpa using h2),if_pos (by simpa using h4),if_pos hs.2]
         simp only [Option.bind_some]
         repeat' split
         all_goals first | rfl | contradiction | (exfalso; apply hA; clear hA hs hx h; simp_all [seq_self])
       · rw [if_neg h4] at hA
         rw [if_neg (by simpa using h1),if_neg (by simpa using h2),if_neg (by simpa using h4)]
         repeat' split
         all_goals first | rfl | contradiction | (exfalso; apply hA; clear hA hs hx h; simp_all [seq_self])
   · cases h
 · cases g
theorem expr_right.zero : CallOkL Tryz.prog C0 41 (expr_right.specR 0) := fun args cs n K r h => by
 unfold expr_right.specR at h
 dsimp only [lcSt] at h
 split at h
 · obtain ⟨v,h1,h2⟩ := bind2 h
   exact absurd h1 (by first | (simp [rightW]; done) | (unfold rightW; simp))
 · cases h
theorem expr_right.recOk : ∀ k,CallOkL Tryz.prog C0 41 (expr_right.specR k)
 | 0 => expr_right.zero
 | k + 1 => expr_right.step k (expr_right.recOk k)
theorem expr_right.ok : AllOk specs_expr_right := allOk_cons ref07_Kind.ok (fnOk_of (by kernel_rfl)) fun args cs n K r h => by
 unfold expr_right.spec at h
 dsimp only [lcSt] at h
 split at h
 · rename_i a0 a1 a2 a3 a4 a5 a6 a7
   refine expr_right.recOk (big a7) _ _ _ K r ?_
   unfold expr_right.specR
   exact h
 · cases h
theorem expr_Can.ok : AllOk specs_expr_Can := okS (cx := cx_expr_Can) rfl expr_right.ok (by kernel_rfl) fun args cs n K r g => by
 unfold expr_Can.spec at g
 dsimp only [lcSt] at g
 split at g
 · rename_i a0 a1 a2 a3 a4 a5 a6 a7
   obtain ⟨v,h,h2⟩ := bind2 g
   clear g
   refine okG h2 ?_
   clear h2
   refine ⟨0,?_⟩
   rw [expr_Can.top]
   unfold canW at h
   simp only [ndx] at h
   obtain ⟨d,h1,h2⟩ := bind2 h
   rw [h1]
   simp only [Option.bind_some]
   split at h2
   · rename_i hd
     rw [if_pos (by simpa using hd),h2]
     rfl
   · rename_i hd
     rw [if_neg (by simpa using hd)]
     obtain rfl := Option.some.inj h2
     rfl
 · cases g
theorem ref_alone.ok : AllOk specs_ref_alone := okS (cx := cx_ref_alone) rfl expr_Can.ok (by kernel_rfl) fun args cs n K r g => by
 unfold ref_alone.spec at g
 dsimp only [lcSt] at g
 split at g
 · rename_i a0 a1 a2 a3 a4 a5 a6 a7
   obtain ⟨v,h,h2⟩ := bind2 g
   clear g
   refine okG h2 ?_
   clear h2
   split at h
   · rename_i hs
     obtain rfl := Option.some.inj h
     refine ⟨0,?_⟩
     rw [ref_alone.top]
     unfold aloneB none4
     by_cases h1 : a0 = 1
     · subst h1
       simp only [Option.bind_some]
       cases canV a1 a2 a3 a4 <;> by_cases e1 : a1 = 0 <;> by_cases e2 : 0 ≤ a2 <;> cases seq a5 (⟨#[]⟩ : ByteArray) <;> by_cases e3 : a6 = 0 <;> simp [e1,e2,e3]
     by_cases h2 : a0 = 2 ∨ a0 = 3
     · rw [if_neg (by simpa using h1),if_pos (by simpa using h2),if_neg h1,if_pos h2]
       simp only [if_pos hs.2]
       by_cases e1 : a1 = 0 <;> by_cases e2 : a2 = 0 <;> cases a3 <;> cases seq a4 (⟨#[]⟩ : ByteArray) <;> cases pathB a5 <;> by_cases e3 : a6 = 0 <;> simp [e1,e2,e3]
     by_cases h4 : a0 = 4
     · rw [if_neg (by simpa using h1),if_neg (by simpa using h2),if_pos (by simpa using h4),if_neg h1,if_neg h2,if_pos h4]
       simp only [if_pos hs.2]
       by_cases e1 : a1 = 0 <;> by_cases e2 : a2 = 0 <;> cases a3 <;> cases seq a4 (⟨#[]⟩ : ByteArray) <;> cases namedB a5 <;> by_cases e3 : 1 ≤ a6 <;> by_cases e4 : a6 ≤ 8 <;> simp [e1,e2,e3,e4]
     · rw [if_neg (by simpa using h1),if_neg (by simpa using h2),if_neg (by simpa using h4),if_neg h1,if_neg h2,if_neg h4]
       by_cases e1 : a1 = 0 <;> by_cases e2 : a2 = 0 <;> cases a3 <;> cases seq a4 (⟨#[]⟩ : ByteArray) <;> cases seq a5 (⟨#[]⟩ : ByteArray) <;> by_cases e3 : a6 = 0 <;> simp [e1,e2,e3]
   · cases h
 · cases g
theorem ref_can.l1 (n k : Nat) (a0 a1 a2 : Int) (a3 : Bool) (a4 a5 : ByteArray) (a6 : Int) (a7 : List Node) (b0 b1 b2 : Int) (b3 : Bool) (b4 b5 : ByteArray) (b6 : Int) (b7 : List Node) (l : List Node) (hl : l.length ≤ 1000000) : ∀ (j m : Nat) (i : Int) (v : Bool),0 ≤ i → j + i = l.length → j + 1 ≤ m → allW (rightW k) (l.drop i.toNat) = some v →
 ref_can.L1 n m k a0 a1 a2 a3 a4 a5 a6 a7 l l.length i b0 b1 b2 b3 b4 b5 b6 b7 = some (.ret (.bool v),lcRet [] [] 0) := by
 intro j
 induction j with
 | zero =>
  intro m i v h0 h1 h2 h
  obtain ⟨m,rfl⟩ : ∃ m',m = m' + 1 := ⟨m - 1,by omega⟩
  rw [List.drop_eq_nil_of_le (by omega),allW] at h
  obtain rfl := Option.some.inj h
  rw [ref_can.L1_s,if_neg (by simp; omega)]
 | succ j ih =>
  intro m i v h0 h1 h2 h
  obtain ⟨m,rfl⟩ : ∃ m',m = m' + 1 := ⟨m - 1,by omega⟩
  have hlt : i.toNat < l.length := by omega
  rw [List.drop_eq_getElem_cons hlt,allW] at h
  obtain ⟨e,h3,h4⟩ := bind2 h
  rw [ref_can.L1_s,if_pos (by simp; omega),if_pos h0,nth_at hlt,Option.bind_some,nd_y,h3,Option.bind_some]
  cases e with
  | false =>
   rw [if_neg (by decide)] at h4
   obtain rfl := Option.some.inj h4
   rw [if_pos (by decide)]
  | true =>
   rw [if_pos rfl] at h4
   rw [if_neg (by decide),wrS i h0 (by omega)]
   refine ih m (i + 1) v (by omega) (by omega) (by omega) ?_
   rw [show (i + 1).toNat = i.toNat + 1 from by omega]
   exact h4
theorem ref_can.step (k : Nat) (h0 : CallOkL Tryz.prog C0 50 (ref_can.specR k)) : CallOkL Tryz.prog C0 50 (ref_can.specR (k + 1)) := okR (cx := cx_ref_can) (R := ref_can.rec k) rfl rfl ref_alone.ok (fun x hx => by
 obtain rfl := List.mem_singleton.1 hx
 exact ⟨fnOk_of (by kernel_rfl),h0⟩) fun args cs n K r g => by
 unfold ref_can.specR at g
 dsimp only [lcSt] at g
 split at g
 · rename_i a0 a1 a2 a3 a4 a5 a6 a7
   obtain ⟨v,h,h2⟩ := bind2 g
   clear g
   refine okG h2 ?_
   clear h2
   rw [rightW_nd] at h
   split at h
   · rename_i hs
     have hx := kids_le a0
     refine ⟨a7.length + 1,?_⟩
     rw [ref_can.top,if_pos hs]
     simp only [Option.bind_some]
     split at h
     · rename_i hc
       rw [if_neg (by simp [hc.2]),if_neg (by simp [hc.1]),ref_can.L1_s,← ref_can.L1_s]
       exact ref_can.l1 _ _ _ _ _ _ _ _ _ _ _ _ _ _ _ _ _ _ a7 (by omega) a7.length _ 0 v (by omega) (by omega) (Nat.le_refl _) h
     · rename_i hc
       obtain rfl := Option.some.inj h
       by_cases hk : (a7.length : Int) = kidsZ a0
       · rw [if_neg (by simp [hk]),if_pos]
         have : ¬ aloneB a0 a1 a2 a3 a4 a5 a6 = true := fun q => hc ⟨q,hk⟩
         simp [this]
       · rw [if_pos (by simpa using hk)]
   · cases h
 · cases g
theorem ref_can.zero : CallOkL Tryz.prog C0 50 (ref_can.specR 0) := fun args cs n K r h => by
 unfold ref_can.specR at h
 dsimp only [lcSt] at h
 split at h
 · obtain ⟨v,h1,h2⟩ := bind2 h
   exact absurd h1 (by first | (simp [rightW]; done) | (unfold rightW; simp))
 · cases h
theorem ref_can.recOk : ∀ k,CallOkL Tryz.prog C0 50 (ref_can.specR k)
 | 0 => ref_can.zero
 | k + 1 => ref_can.step k (ref_can.recOk k)
theorem ref_can.ok : AllOk specs_ref_can := allOk_cons ref_alone.ok (fnOk_of (by kernel_rfl)) fun args cs n K r h => by
 unfold ref_can.spec at h
 dsimp only [lcSt] at h
 split at h
 · rename_i a0 a1 a2 a3 a4 a5 a6 a7
   refine ref_can.recOk (big a7) _ _ _ K r ?_
   unfold ref_can.specR
   exact h
 · cases h
theorem ref_Can.ok : AllOk specs_ref_Can := okS (cx := cx_ref_Can) rfl ref_can.ok (by kernel_rfl) fun args cs n K r g => by
 unfold ref_Can.spec at g
 dsimp only [lcSt] at g
 split at g
 · rename_i a0 a1 a2 a3 a4 a5 a6 a7
   obtain ⟨v,h,h2⟩ := bind2 g
   clear g
   refine okG h2 ?_
   clear h2
   refine ⟨0,?_⟩
   rw [ref_Can.top]
   unfold canW at h
   simp only [ndx] at h
   obtain ⟨d,h1,h2⟩ := bind2 h
   rw [h1]
   simp only [Option.bind_some]
   split at h2
   · rename_i hd
     rw [if_pos (by simpa using hd),h2]
     rfl
   · rename_i hd
     rw [if_neg (by simpa using hd)]
     obtain rfl := Option.some.inj h2
     rfl
 · cases g
end Go.Proofs.YtbcpnpbkbndkjaaGreatDoor.Ev
end
section
-- PRINTED BY print.sh 35421559b90ae4d0a3588c463048766b98c2df88dd9212a6774a882060cdf62d: not written by this session
namespace Go.Proofs.YtbcpnpbkbndkjaaGreatDoorW.PrintLast
open Go.Proofs.YtbcpnpbkbndkjaaGreatDoorW.PrintWords (Aside0)
section
variable {md : Region.Mode} {ops : Array Oper} {T : Bool × List (List Nat × List Nat)} {l l' li lj lk : Array Bool} {ds : List Nat} {i j k : Nat}
end
end Go.Proofs.YtbcpnpbkbndkjaaGreatDoorW.PrintLast
end
section
-- PRINTED BY print.sh 35421559b90ae4d0a3588c463048766b98c2df88dd9212a6774a882060cdf62d: not written by this session
namespace Go.Proofs.YtbcpnpbkbndkjaaGreatDoorW.PrintLast
section
variable {P : Program} {ops : Array Oper} {Q : Exit → Act → World → Prop} {md : Region.Mode} {S : World → Prop} {ds : List Nat} {T : Bool × List (List Nat × List Nat)}
end
end Go.Proofs.YtbcpnpbkbndkjaaGreatDoorW.PrintLast
end
section
-- PRINTED BY print.sh 35421559b90ae4d0a3588c463048766b98c2df88dd9212a6774a882060cdf62d: not written by this session
namespace Go.Proofs.YtbcpnpbkbndkjaaGreatDoorW.PrintWords
open Go.RowKit
namespace Kd
section
variable {α : Type} {d : Kd α} {W : World} {g n : Nat} {S ok : Nat → Prop} {A : Option Addr} {ad : Addr} {xs : List α}
end
end Kd
end Go.Proofs.YtbcpnpbkbndkjaaGreatDoorW.PrintWords
end
section
-- PRINTED BY print.sh 35421559b90ae4d0a3588c463048766b98c2df88dd9212a6774a882060cdf62d: not written by this session
namespace Go.Proofs.YtbcpnpbkbndkjaaGreatDoorW.PrintWords
open Go.RowKit
section
variable {w w' u : World} {m B g : Nat} {o : Obj} {row : Option Nat} {S : Nat → Prop} {a : Addr} {v : Value}
end
namespace Kd
section
variable {α : Type} {d : Kd α} {e base n m : Nat} {ok : Nat → Prop} {w w' : World} {v : Value} {A : Option Addr} {xs : List α}
end
end Kd
end Go.Proofs.YtbcpnpbkbndkjaaGreatDoorW.PrintWords
end
section
-- PRINTED BY print.sh 35421559b90ae4d0a3588c463048766b98c2df88dd9212a6774a882060cdf62d: not written by this session
namespace Go.Proofs.YtbcpnpbkbndkjaaGreatDoorW.PrintWords
open Go.RowKit
section
variable {P : Program} {d : Nat} {xs ys : Array Value} {f : Field} {fs : List Field} {a b : Value} {r s : Bool} {w : World}
end
end Go.Proofs.YtbcpnpbkbndkjaaGreatDoorW.PrintWords
end
section
-- PRINTED BY print.sh 35421559b90ae4d0a3588c463048766b98c2df88dd9212a6774a882060cdf62d: not written by this session
namespace Go.Proofs.YtbcpnpbkbndkjaaGreatDoorW.PrintWords
end Go.Proofs.YtbcpnpbkbndkjaaGreatDoorW.PrintWords
end
section
-- PRINTED BY print.sh 35421559b90ae4d0a3588c463048766b98c2df88dd9212a6774a882060cdf62d: not written by this session
namespace Go.Proofs.YtbcpnpbkbndkjaaGreatDoorW.PrintLast
section
variable {P : Program} {ops : Array Oper} {Q : Exit → Act → World → Prop} {md : Region.Mode} {T : Bool × List (List Nat × List Nat)} {B : List Nat} {O : List Nat} {b : Nat → Bool} {i j n : Nat}
end
end Go.Proofs.YtbcpnpbkbndkjaaGreatDoorW.PrintLast
end
section
-- PRINTED BY print.sh 35421559b90ae4d0a3588c463048766b98c2df88dd9212a6774a882060cdf62d: not written by this session
namespace Go.Proofs.YtbcpnpbkbndkjaaGreatDoorW.PrintWords
open Go.RowKit
end Go.Proofs.YtbcpnpbkbndkjaaGreatDoorW.PrintWords
namespace Go.Proofs.YtbcpnpbkbndkjaaGreatDoorW.PrintLast
section
variable {ops : Array Oper} {a : Act} {o og : Oper} {g : Nat} {t : Tmp} {u : Bool}
end
end Go.Proofs.YtbcpnpbkbndkjaaGreatDoorW.PrintLast
end
section
-- PRINTED BY print.sh 35421559b90ae4d0a3588c463048766b98c2df88dd9212a6774a882060cdf62d: not written by this session
namespace Go.Proofs.YtbcpnpbkbndkjaaGreatDoorW.PrintWords
open Go.RowKit
section
variable {P : Program} {ops : Array Oper} {rest : List Oper} {o : Oper} {a : Act} {Q : Exit → Act → World → Prop} {W : World}
end
end Go.Proofs.YtbcpnpbkbndkjaaGreatDoorW.PrintWords
end
section
/- eval.bare: it writes into the parts that it cut, so it is walked by itself; then it is a sealed word. -/
set_option linter.unusedVariables false
set_option linter.unusedSimpArgs false
namespace Go.Proofs.YtbcpnpbkbndkjaaGreatDoor.B
open Go.RowKit Go.Proofs.YtbcpnpbkbndkjaaGreatDoorH Go.Proofs.YtbcpnpbkbndkjaaGreatDoorW.PrintWords Go.Proofs.YtbcpnpbkbndkjaaGreatDoorW.PrintLast Go.Proofs.YtbcpnpbkbndkjaaGreatDoorW.PrintMore
/-- What the search for a text leans on: a number that stands where it is laid. -/
def Laid (w : World) : Prop := ∃ m,w.cell? ⟨Tryz.laySplit_ren.g 1,0,none⟩ = some (.int .i64 m)
theorem Laid_below {w W : World} (h : Laid w) (hb : Below w.heap.size w W) : Laid W := by
 obtain ⟨m,h⟩ := h
 exact ⟨m,(hb.cell (World.block_lt_of_cell? w _ h)).trans h⟩
theorem Split_new (w : World) (q : TypeId) (l : List ByteArray) (n : Nat) (hn : l.length = n) (hl : n < 9223372036854775807) : Kd.R Kd.string q (w.alloc (.cells (l.map Value.string).toArray q)) w.heap.size (fun _ => True) (.slice (some ⟨w.heap.size,0,none⟩) n n) l := by
 subst hn
 refine ⟨fun k hk => trivial,l.map Value.string,⟨by rw [List.length_map]; exact (Nat.mul_one _).symm,.inr ⟨_,_,(l.map Value.string).toArray,rfl,Nat.le_refl _,?_,Nat.le_refl _,by unfold maxLen; omega,?_,?_⟩⟩,?_⟩
 · simp [World.alloc,-World.alloc_eq]
 · simp [Kd.string,Kd.scalar]
 · simp [Kd.string,Kd.scalar]
   exact List.take_of_length_le (by simp)
 · refine ⟨by simp [Kd.string,Kd.scalar],fun j p hj => ?_⟩
   show ((l.map Value.string).drop (j * 1)).take 1 = [Value.string p]
   rw [Nat.mul_one]
   have hlt := (List.getElem?_eq_some_iff.1 hj).1
   have he := (List.getElem?_eq_some_iff.1 hj).2
   rw [List.drop_eq_getElem_cons (by rw [List.length_map]; exact hlt),List.getElem_map,he]
   rfl
/-! ### strings_Split: function 87 -/
/-- The parts of a text (nothing at a text that is too long, or where nothing stands between them). -/
def strings_Split.f (a0 : ByteArray) (a1 : ByteArray) : Option (List ByteArray) := if a0.size < 4294967281 ∧ 1 ≤ a1.size then some (Lib.splitB a1 0 (Lib.countB a0 a1) a0) else none
theorem strings_Split.calls (a0 : ByteArray) (a1 : ByteArray) (r : List ByteArray) (w : World) (hL_ : Laid w) (h : strings_Split.f a0 a1 = some r) :
 Calls Tryz.prog 87 #[.string a0,.string a1] w fun e w' => ∃ v0_ : Value,e = .returned (v0_) ∧ Kd.R Kd.string 9 w' w.heap.size (fun _ => True) v0_ r ∧ Below w.heap.size w w' := by
 unfold strings_Split.f at h
 split at h
 · rename_i hs
   obtain rfl := Option.some.inj h
   obtain ⟨m,hm⟩ := hL_
   refine (Any.strings_Split { Tryz.laySplit with } (Tryz.laySplit).i9 a0 a1 m w hs.1 hm hs.2).mono fun e w' ⟨h3,h4⟩ => ?_
   subst h4
   have hlen : (Lib.splitB a1 0 (Lib.countB a0 a1) a0).length = Lib.countB a0 a1 + 1 := Lib.splitB_all a1 hs.2 0 _ a0 rfl
   refine ⟨_,h3,?_,Below.alloc (Below.refl _ _) (Nat.le_refl _) _⟩
   have hq := Split_new w (Tryz.laySplit_ren.t 9) _ _ hlen (by have := Lib.countB_le a1 hs.2 _ a0 (Nat.le_refl _); omega)
   exact hq
 · cases h
/-! ### strings_Join: function 117 -/
theorem strings_Join.extra : Builder.Extra Tryz.prog Tryz.layJoin_ren where
 sizeBuilder := by kernel_rfl
 liesBuilder := by kernel_rfl
 t5 := Tryz.underlying5
 a5 := Tryz.isAgg5
 z5 := Tryz.sizeOf5
 v5 := Tryz.zeroValue5
 infoByte := by kernel_rfl
 cellsByte := by kernel_rfl
 sizeByte := by kernel_rfl
 neB5 := by decide
/-- Of texts that are not too many, and not too long together (nothing at others). -/
def strings_Join.f (l0 : List ByteArray) (a1 : ByteArray) : Option ByteArray := if l0.length ≤ 140737488355328 ∧ (Lib.join (l0.map (·.data.toList)) a1.data.toList).length ≤ 140737488355328 then some ⟨(Lib.join (l0.map (·.data.toList)) a1.data.toList).toArray⟩ else none
theorem strings_Join.calls (A0 : Option Addr) (c0 : Nat) (l0 : List ByteArray) (a1 : ByteArray) (r : ByteArray) (w : World) (hr0 : Kd.C Kd.string w A0 l0.length l0) (hc0 : l0.length ≤ c0) (h : strings_Join.f l0 a1 = some r) :
 Calls Tryz.prog 117 #[.slice A0 l0.length c0,.string a1] w fun e w' => e = .returned (.string r) ∧ Below w.heap.size w w' := by
 unfold strings_Join.f at h
 by_cases hk : l0.length ≤ 140737488355328 ∧ (Lib.join (l0.map (·.data.toList)) a1.data.toList).length ≤ 140737488355328
 · rw [if_pos hk] at h
   obtain rfl := Option.some.inj h
   by_cases h0 : l0.length = 0
   · obtain rfl := List.length_eq_zero_iff.1 h0
     refine (Any.strings_Join_none Tryz.layJoin strings_Join.extra A0 c0 a1 w).mono fun e w' hw => ?_
     exact ⟨hw.1,hw.2 ▸ Below.refl _ _⟩
   · obtain ⟨ad,rfl,hc⟩ := Kd.at_string hr0 0 (by omega) (by omega)
     have hsp := World.cell?_spot hc
     obtain ⟨bk,o,spot⟩ := ad
     obtain rfl : spot = none := by simpa [Addr.add] using hsp
     refine Any.strings_Join Tryz.layJoin strings_Join.extra bk o c0 l0 a1 w (fun j x hx => ?_) ?_ hk.1 hc0 hk.2
     · have hj := (List.getElem?_eq_some_iff.1 hx).1
       obtain ⟨ad2,e2,h2⟩ := Kd.at_string hr0 (j : Int) (by omega) (by omega)
       obtain rfl := Option.some.inj e2
       rw [Addr.add_lit,Int.toNat_natCast] at h2
       rw [h2]
       unfold rdOf
       rw [Int.toNat_natCast,List.getD_eq_getElem?_getD,hx]
       rfl
     · have := World.block_lt_of_cell? w _ hc
       simpa [Addr.add] using this
 · rw [if_neg hk] at h; cases h
/-! ### strings_Cut: function 133 -/
/-- What stands ahead of a text in another one, and behind it (nothing at a text that is too long). -/
def strings_Cut.f (a0 : ByteArray) (a1 : ByteArray) : Option (ByteArray × ByteArray × Bool) := if a0.size < 4294967281 then some (⟨(Lib.cut a0.data.toList a1.data.toList).1.toArray⟩,⟨(Lib.cut a0.data.toList a1.data.toList).2.1.toArray⟩,(Lib.cut a0.data.toList a1.data.toList).2.2) else none
theorem strings_Cut.calls (a0 : ByteArray) (a1 : ByteArray) (r1 : ByteArray) (r2 : ByteArray) (r3 : Bool) (w : World) (hL_ : Laid w) (h : strings_Cut.f a0 a1 = some (r1,r2,r3)) :
 Calls Tryz.prog 133 #[.string a0,.string a1] w fun e w' => e = .returned (.tuple #[.string r1,.string r2,.bool r3]) ∧ Below w.heap.size w w' := by
 unfold strings_Cut.f at h
 split at h
 · rename_i hs
   obtain ⟨rfl,h2⟩ := Prod.mk.inj (Option.some.inj h)
   obtain ⟨rfl,rfl⟩ := Prod.mk.inj h2
   obtain ⟨m,hm⟩ := hL_
   refine (Any.strings_Cut { Tryz.layCut with } a0 a1 m w hs hm).mono fun e w' ⟨h3,n,h4⟩ => ?_
   subst h4
   exact ⟨h3,⟨rfl,rfl,rfl,Nat.le_refl _,fun _ _ => rfl⟩⟩
 · cases h
/-! ### eval_bare: function 104 -/
def eval_bare.l0 : Nat → List ByteArray → Int → Int → Option (ByteArray)
 | 0,_,_,_ => none
 | k + 1,x3,x9,x10 => if x10 < x9 then (if 0 ≤ x10 then (if x10 < (x3.length : Int) then ((strings_Cut.f (rdOf ByteArray.empty x3 x10) (⟨#[35]⟩ : ByteArray)).bind fun bt105 => (eval_bare.l0 k (x3.set (x10 : Int).toNat bt105.1) x9 (wrap64 (x10 + 1)))) else (none)) else (none)) else ((strings_Join.f x3 (⟨#[46]⟩ : ByteArray)).bind fun t109 => (some t109))
def eval_bare.f (k : Nat) (a0 : ByteArray) : Option (ByteArray) := (strings_Split.f a0 (⟨#[46]⟩ : ByteArray)).bind fun t101 => (eval_bare.l0 k t101 (t101.length : Int) 0)
set_option maxHeartbeats 8000000 in
set_option maxRecDepth 100000 in
theorem eval_bare.calls (k : Nat) (a0 : ByteArray) (r : ByteArray) (w : World) (hL_ : Laid w) (h : eval_bare.f k a0 = some r) :
 Calls Tryz.prog 104 #[.string a0] w fun e w' => e = .returned (.string r) ∧ Below w.heap.size w w' := by
 have HB := Aside0.mk (Below.refl w.heap.size w)
 have HLd := Aside0.mk hL_
 clear hL_
 have H : ((strings_Split.f a0 (⟨#[46]⟩ : ByteArray)).bind fun t101 => (eval_bare.l0 k t101 (t101.length : Int) 0)) = some r := h
 clear h
 replace H := Option.bind_eq_some_iff.mp H
 obtain ⟨t101,A20,H⟩ := H
 replace H : (eval_bare.l0 k t101 (t101.length : Int) 0) = some r := H
 have A2 := Aside0.mk A20
 clear A20
 have H' := Aside0.mk H
 clear H
 go_enter Tryz.func104,Tryz.ntmps104
 go_wp2_with (first | ((with_reducible refine gate_callee (f := 87) rfl ?_); refine goesL_ (some 7) rfl rfl Tryz.func87 (by kernel_rfl) rfl #[.string a0,.string (⟨#[46]⟩ : ByteArray)] rfl (by (try simp only [List.map_toArray,List.map_cons,List.map_nil]); first | done | rfl | (simp only [List.length_drop,List.length_take]; rfl)) ?_; (with_reducible refine (strings_Split.calls a0 (⟨#[46]⟩ : ByteArray) t101 _ ?side1 A2.out).mono ?_); (case side1 => exact Laid_below HLd.out (by repeat (first | (with_reducible first | exact HB.out | apply below_alloc | apply pw_below_drewN | apply below_drew1 | apply bytes_below1) | exact HB.out))); rintro e w3 ⟨v102,rfl,ho0,hb⟩; refine ⟨_,rfl,?_⟩; have n0_ := Aside0.mk (Kd.R_lower ho0 (below_size (by repeat (first | (with_reducible first | exact HB.out | apply below_alloc | apply pw_below_drewN | apply below_drew1 | apply bytes_below1) | exact HB.out)))); have n1_ := Aside0.mk (below_step (by repeat (first | (with_reducible first | exact HB.out | apply below_alloc | apply pw_below_drewN | apply below_drew1 | apply bytes_below1) | exact HB.out)) hb); clear HB; have HO103 := n0_; have HB := n1_; clear n0_ n1_; (try clear hb); (try clear hb2); (try clear hk); (try clear hi); (try clear ho0); obtain ⟨Ao4,co4,eo4⟩ := Kd.R_slice HO103.out; subst eo4))
 go_loopg [10] k (fun kq v10 w' => ∃ (x3_1 : List ByteArray) (x10_1 : Int),v10 = .int .i64 x10_1 ∧ Aside0 (eval_bare.l0 kq x3_1 (t101.length : Int) x10_1 = some r) ∧ Aside0 (kq ≤ k) ∧ Aside0 (Kd.R Kd.string 9 w' w.heap.size (fun _ => True) (.slice Ao4 t101.length co4) x3_1) ∧ Aside0 (Below w.heap.size w w'))
 case atStart => exact ⟨(t101),(0),(by first | rfl | (simp; done) | (simp [*]; done)),H',⟨Nat.le_refl _⟩,⟨by (with_reducible repeat (first | apply Kd.R_alloc | apply R_bytes | apply Kd.R_drewN | apply Kd.R_drew)); exact HO103.out⟩,⟨by repeat (first | (with_reducible first | exact HB.out | apply below_alloc | apply pw_below_drewN | apply below_drew1 | apply bytes_below1) | exact HB.out)⟩⟩
 case round =>
  clear H'
  try clear c1
  try clear p2
  obtain ⟨x3_1,x10_1,rfl,HA,HK1,HO_3,HB⟩ := hrel
  have hl3_1 := (Kd.R_reads' HO_3.out).1
  rw [hl3_1] at HO_3
  (try simp only [hl3_1])
  cases gk with
  | zero => exact absurd HA.out (by simp [eval_bare.l0])
  | succ k1 =>
   have H := HA.out
   clear HA
   simp only [eval_bare.l0] at H
   by_cases c5 : x10_1 < (t101.length : Int)
   · rw [if_pos c5] at H
     have c5b0 : decide (x10_1 < (t101.length : Int)) = true := decide_eq_true c5
     clear c5
     by_cases c6 : 0 ≤ x10_1
     · rw [if_pos c6] at H
       have c6b0 : decide (0 ≤ x10_1) = true := decide_eq_true c6
       clear c6
       by_cases c7 : x10_1 < (x3_1.length : Int)
       · rw [if_pos c7] at H
         have c7b0 : decide (x10_1 < (x3_1.length : Int)) = true := decide_eq_true c7
         clear c7
         replace H := Option.bind_eq_some_iff.mp H
         obtain ⟨⟨t105,t106,t107⟩,A80,H⟩ := H
         replace H : (eval_bare.l0 k1 (x3_1.set (x10_1 : Int).toNat t105) (t101.length : Int) (wrap64 (x10_1 + 1))) = some r := H
         have A8 := Aside0.mk A80
         clear A80
         obtain ⟨y108,hy108⟩ : ∃ y_ : List ByteArray,y_ = (x3_1.set (x10_1 : Int).toNat t105) := ⟨_,rfl⟩
         replace H : (eval_bare.l0 k1 y108 (t101.length : Int) (wrap64 (x10_1 + 1))) = some r := by first | (rw [hy108]; with_reducible exact H) | (have H2_ := (Option.bind_some _ _).symm.trans H; rw [hy108]; with_reducible exact H2_) | (have H2_ := (Option.bind_some _ _).symm.trans H; with_reducible exact H2_) | with_reducible exact H | (rw [hy108]; exact H) | exact H
         have Ny108 := Aside0.mk hy108
         clear hy108
         have H' := Aside0.mk H
         clear H
         have p104 : 0 ≤ (x10_1 : Int) := of_decide_eq_true (by first | (with_reducible assumption) | assumption)
         have q104 : x10_1 < (x3_1.length : Int) := of_decide_eq_true (by first | (with_reducible assumption) | assumption)
         obtain ⟨ad104,e104,hx104_0⟩ := Kd.at_string (Kd.R_reads' HO_3.out).2.2 x10_1 p104 q104
         cases e104
         replace p104 := eq_true p104
         replace q104 := eq_true q104
         go_wp2_with (first | ((with_reducible refine gate_callee (f := 133) rfl ?_); refine goesL_ (some 19) rfl rfl Tryz.func133 (by kernel_rfl) rfl #[.string (rdOf ByteArray.empty x3_1 x10_1),.string (⟨#[35]⟩ : ByteArray)] rfl (by (try simp only [List.map_toArray,List.map_cons,List.map_nil]); first | done | rfl | (simp only [List.length_drop,List.length_take]; rfl)) ?_; (with_reducible refine (strings_Cut.calls (rdOf ByteArray.empty x3_1 x10_1) (⟨#[35]⟩ : ByteArray) t105 t106 t107 _ ?side1 A8.out).mono ?_); (case side1 => exact Laid_below HLd.out (by repeat (first | (with_reducible first | exact HB.out | apply below_alloc | apply pw_below_drewN | apply below_drew1 | apply bytes_below1) | exact HB.out))); rintro e w10 ⟨rfl,hb⟩; refine ⟨_,rfl,?_⟩; have n0_ := Aside0.mk (Kd.R_below (by (with_reducible repeat (first | apply Kd.R_alloc | apply R_bytes | apply Kd.R_drewN | apply Kd.R_drew)); exact HO_3.out) hb); have n1_ := Aside0.mk (below_step (by repeat (first | (with_reducible first | exact HB.out | apply below_alloc | apply pw_below_drewN | apply below_drew1 | apply bytes_below1) | exact HB.out)) hb); clear HO_3; clear HB; have HO_3 := n0_; have HB := n1_; clear n0_ n1_; (try clear hb); (try clear hb2); (try clear hk); (try clear hi); have p9 : 0 ≤ (x10_1 : Int) := of_decide_eq_true (by first | (with_reducible assumption) | assumption); have q9 : (x10_1 : Int) < ((x3_1.length : Int) : Int) := of_decide_eq_true (by first | (with_reducible assumption) | assumption); obtain ⟨go9,co9,eo9,gb9,gl9,cl9,HG9⟩ := Kd.R_form HO_3.out (by omega); (first | cases eo9 | (injection eo9 with ea_ en_ ec_; (first | subst ea_ | (injection ea_ with ea_; subst ea_)); subst ec_; clear en_)); have GB9 := Aside0.mk gb9; have GG9 := Aside0.mk HG9; clear gb9 gl9 HG9; (first | simp only [add_plain] at hx104_0 | skip); obtain ⟨hx9_0,hf9_0⟩ := Kd.R_celln (⟨#[]⟩ : ByteArray) HO_3.out (x10_1 : Int) p9 q9; replace p9 := eq_true p9; replace q9 := eq_true q9; obtain ⟨hy11_,hz11_⟩ := Kd.R_celln (⟨#[]⟩ : ByteArray) HO_3.out (x10_1 : Int) (of_decide_eq_true (by first | (with_reducible assumption) | assumption)) (of_decide_eq_true (by first | (with_reducible assumption) | assumption)); have HP11 := Kd.R_putg HO_3.out (x10_1 : Int) t105) | ((with_reducible refine gate_store (t := 9) (p := 23) rfl ?_); refine store_event (t := 9) (p := 23) (v := ?vo_w12) (w1 := (w10.setCell ⟨go9,(x10_1 : Int).toNat,none⟩ (.string t105))) ?hg ?ho ?hn ?hr ?_; (case ho => rfl); (case hg => rfl); (case hn => rfl); (case hr => first | (go_simp; done) | (go_simp; rfl)); intro w12 hw; have hg : w10.grownBy w12 (some go9) := (by rw [hw]; exact HP11.2); have hp_ : Kd.R Kd.string 9 w12 w.heap.size (fun _ => True) (.slice (some ⟨go9,0,none⟩) x3_1.length co4) y108 := (by rw [hw,Ny108.out]; exact HP11.1); clear HP11; have n0_ := Aside0.mk (hp_); have n1_ := Aside0.mk ((by rw [hw]; exact below_set (HB.out) GB9.out : Below w.heap.size w w12)); clear HO_3; clear HB; have HO_3 := n0_; have HB := n1_; clear n0_ n1_; clear hg hw hp_))
         (try simp only [← hl3_1])
         go_roundg k1
         case measure => have := HK1.out; omega
         case rel => exact ⟨(y108),(wrap64 (x10_1 + 1)),(by first | rfl | (simp; done) | (simp [*]; done)),H',⟨by have := HK1.out; omega⟩,⟨by (try simp only [hl3_1]); (with_reducible repeat (first | apply Kd.R_alloc | apply R_bytes | apply Kd.R_drewN | apply Kd.R_drew)); exact HO_3.out⟩,⟨by repeat (first | (with_reducible first | exact HB.out | apply below_alloc | apply pw_below_drewN | apply below_drew1 | apply bytes_below1) | exact HB.out)⟩⟩
       · rw [if_neg c7] at H
         exact absurd H (by simp)
     · rw [if_neg c6] at H
       exact absurd H (by simp)
   · rw [if_neg c5] at H
     have c5b0 : decide (x10_1 < (t101.length : Int)) = false := decide_eq_false c5
     clear c5
     have c5c := c5b0
     rw [hl3_1] at c5c
     replace H := Option.bind_eq_some_iff.mp H
     obtain ⟨t109,A130,H⟩ := H
     replace H : (some t109) = some r := H
     have A13 := Aside0.mk A130
     clear A130
     obtain rfl := Option.some.inj H
     go_wp2_with (first | ((with_reducible refine gate_callee (f := 117) rfl ?_); refine goesL_ (some 26) rfl rfl Tryz.func117 (by kernel_rfl) rfl #[.slice Ao4 x3_1.length co4,.string (⟨#[46]⟩ : ByteArray)] rfl (by (try simp only [List.map_toArray,List.map_cons,List.map_nil]); first | done | rfl | (simp only [List.length_drop,List.length_take]; rfl)) ?_; (with_reducible refine (strings_Join.calls _ _ x3_1 (⟨#[46]⟩ : ByteArray) t109 _ ?side1 ?side2 A13.out).mono ?_); (case side1 => repeat (first | exact (Kd.R_reads' HO_3.out).2.2 | (with_reducible refine Kd.C_alloc ?_ _) | (with_reducible refine C_bytes ?_ _ _) | (with_reducible refine Kd.C_drewN ?_ _) | (with_reducible refine Kd.C_drew ?_))); (case side2 => exact (Kd.R_reads' HO_3.out).2.1); rintro e w14 ⟨rfl,hb⟩; refine ⟨_,rfl,?_⟩; have n0_ := Aside0.mk (Kd.R_below (by (with_reducible repeat (first | apply Kd.R_alloc | apply R_bytes | apply Kd.R_drewN | apply Kd.R_drew)); exact HO_3.out) hb); have n1_ := Aside0.mk (below_step (by repeat (first | (with_reducible first | exact HB.out | apply below_alloc | apply pw_below_drewN | apply below_drew1 | apply bytes_below1) | exact HB.out)) hb); clear HO_3; clear HB; have HO_3 := n0_; have HB := n1_; clear n0_ n1_; (try clear hb); (try clear hb2); (try clear hk); (try clear hi)))
     go_ret
     exact ⟨by first | rfl | (simp [errW_none,errW_some] <;> rfl) | (simp [*,errW_none,errW_some] <;> rfl),by repeat (first | (with_reducible first | exact HB.out | apply below_alloc | apply pw_below_drewN | apply below_drew1 | apply bytes_below1) | exact HB.out)⟩
/-! ### What it computes -/
def cutP (p : ByteArray) : ByteArray := ⟨(Lib.cut p.data.toList [35]).1.toArray⟩
def joinP (l : List ByteArray) : ByteArray := ⟨(Lib.join (l.map (·.data.toList)) [46]).toArray⟩
theorem tail_len (sep : List UInt8) (m : Nat) : ∀ l : List (List UInt8),(∀ x ∈ l,x.length ≤ m) → (Lib.joinTail sep l).length ≤ l.length * (sep.length + m)
 | [],_ => by simp [Lib.joinTail]
 | x :: r,h => by
  have ih := tail_len sep m r fun y hy => h y (List.mem_cons_of_mem _ hy)
  have hx := h x (List.mem_cons_self ..)
  unfold Lib.joinTail at ih ⊢
  rw [List.map_cons,List.flatten_cons,List.length_append,List.length_append,List.length_cons,Nat.add_mul,Nat.one_mul]
  omega
theorem join_len (sep : List UInt8) (m : Nat) (l : List (List UInt8)) (h : ∀ x ∈ l,x.length ≤ m) : (Lib.join l sep).length ≤ l.length * (sep.length + m) := by
 cases l with
 | nil => simp [Lib.join_nil]
 | cons x r =>
  have hx := h x (List.mem_cons_self ..)
  have ih := tail_len sep m r fun y hy => h y (List.mem_cons_of_mem _ hy)
  rw [Lib.join_cons,List.length_append,List.length_cons,Nat.add_mul,Nat.one_mul]
  omega
theorem cut_len (p : ByteArray) : (cutP p).data.toList.length ≤ p.size := by
 unfold cutP Lib.cut
 split
 · simp; exact Nat.min_le_right _ _
 · simp
theorem join_f (l : List ByteArray) (hl : l.length ≤ 900001) (hs : ∀ p ∈ l,p.size ≤ 900000) : strings_Join.f (l.map cutP) ⟨#[46]⟩ = some (joinP (l.map cutP)) := by
 unfold strings_Join.f
 refine if_pos ⟨by rw [List.length_map]; omega,?_⟩
 have h := join_len [46] 900000 ((l.map cutP).map (·.data.toList)) fun x hx => by
  obtain ⟨y,hy,rfl⟩ := List.mem_map.1 hx
  obtain ⟨p,hp,rfl⟩ := List.mem_map.1 hy
  exact Nat.le_trans (cut_len p) (hs p hp)
 rw [List.length_map,List.length_map] at h
 refine Nat.le_trans h ?_
 have : l.length * ([46].length + 900000 : Nat) ≤ 900001 * 900001 := Nat.mul_le_mul hl (by decide)
 omega
theorem bare_l0 (L : List ByteArray) (hl : L.length ≤ 900001) (hs : ∀ p ∈ L,p.size ≤ 900000) : ∀ (d k i : Nat),i + d = L.length → d + 1 ≤ k → eval_bare.l0 k ((L.take i).map cutP ++ L.drop i) L.length i = some (joinP (L.map cutP)) := by
 intro d
 induction d with
 | zero =>
  intro k i h1 h2
  obtain ⟨k,rfl⟩ : ∃ k',k = k' + 1 := ⟨k - 1,by omega⟩
  obtain rfl : i = L.length := by omega
  rw [eval_bare.l0,if_neg (by omega),List.take_length,List.drop_length,List.append_nil,join_f L hl hs]
  rfl
 | succ d ih =>
  intro k i h1 h2
  obtain ⟨k,rfl⟩ : ∃ k',k = k' + 1 := ⟨k - 1,by omega⟩
  have hlt : i < L.length := by omega
  have hln : ((L.take i).map cutP ++ L.drop i).length = L.length := by simp; omega
  have hm : ((L.take i).map cutP).length = i := by simp; omega
  have hrd : rdOf ByteArray.empty ((L.take i).map cutP ++ L.drop i) (i : Int) = L[i] := by
   unfold rdOf
   rw [Int.toNat_natCast,List.getD_eq_getElem?_getD,List.getElem?_append_right (by omega),hm,Nat.sub_self,List.drop_eq_getElem_cons hlt]
   rfl
  have hset : (((L.take i).map cutP ++ L.drop i).set (i : Int).toNat (cutP L[i])) = (L.take (i + 1)).map cutP ++ L.drop (i + 1) := by
   rw [Int.toNat_natCast,List.set_append_right _ _ (by omega),hm,Nat.sub_self,List.drop_eq_getElem_cons hlt,List.set_cons_zero,List.take_succ_eq_append_getElem hlt,List.map_append,List.append_assoc]
   rfl
  rw [eval_bare.l0,if_pos (by omega),if_pos (by omega),if_pos (by rw [hln]; omega),hrd]
  have hc : strings_Cut.f L[i] ⟨#[35]⟩ = some (cutP L[i],⟨(Lib.cut L[i].data.toList [35]).2.1.toArray⟩,(Lib.cut L[i].data.toList [35]).2.2) := by
   unfold strings_Cut.f
   exact if_pos (by have := hs L[i] (List.getElem_mem hlt); omega)
  rw [hc,Option.bind_some,hset,show wrap64 ((i : Int) + 1) = ((i + 1 : Nat) : Int) from by unfold wrap64; omega]
  exact ih k (i + 1) (by omega) (by omega)
theorem splits_size (sep : ByteArray) : ∀ (n : Nat) (s : ByteArray),∀ p ∈ Lib.splitB sep 0 n s,p.size ≤ s.size
 | 0,s,p,h => by
  rw [Lib.splitB,List.mem_singleton] at h
  rw [h]; exact Nat.le_refl _
 | n + 1,s,p,h => by
  rw [Lib.splitB] at h
  split at h
  · rw [List.mem_singleton] at h
    rw [h]; exact Nat.le_refl _
  · rcases List.mem_cons.1 h with rfl | h
    · rw [ByteArray.size_extract]; omega
    · have := splits_size sep n _ p h
      rw [ByteArray.size_extract] at this
      omega
theorem splits_len (sep : ByteArray) (h1 : 1 ≤ sep.size) (s : ByteArray) : (Lib.splitB sep 0 (Lib.countB s sep) s).length ≤ s.size + 1 := by
 have h := Lib.splitB_length_le sep 0 (Lib.countB s sep) s
 have h2 := Lib.countB_le sep h1 _ s (Nat.le_refl _)
 omega
def bareW (s : ByteArray) : ByteArray := joinP ((Lib.splitB ⟨#[46]⟩ 0 (Lib.countB s ⟨#[46]⟩) s).map cutP)
theorem bare_f (s : ByteArray) (hs : s.size ≤ 900000) : ∃ k,eval_bare.f k s = some (bareW s) := by
 refine ⟨(Lib.splitB ⟨#[46]⟩ 0 (Lib.countB s ⟨#[46]⟩) s).length + 1,?_⟩
 unfold eval_bare.f strings_Split.f
 rw [if_pos ⟨by omega,by decide⟩,Option.bind_some]
 have hl := splits_len ⟨#[46]⟩ (by decide) s
 have h := bare_l0 (Lib.splitB ⟨#[46]⟩ 0 (Lib.countB s ⟨#[46]⟩) s) (by omega) (fun p hp => Nat.le_trans (splits_size _ _ _ p hp) hs) _ _ 0 (Nat.zero_add _) (Nat.le_refl _)
 exact h
end Go.Proofs.YtbcpnpbkbndkjaaGreatDoor.B
namespace Go.Proofs.YtbcpnpbkbndkjaaGreatDoor.Ev
open Go Go.RowKit
section
variable {U : Nat → Type} {C : Codec U} {R : Type}
def bareF : List (AVal U) → Option (AVal U)
 | [.str s] => if s.size ≤ 900000 then some (.str (B.bareW s)) else none
 | _ => none
theorem bare_ok : CallOk (R := Rr U) Tryz.prog C 104 (asExt bareF) := by
 refine callOk_ext fun args v h g w cs ha hi hw => ?_
 unfold bareF at h
 split at h
 · rename_i s
   split at h
   · rename_i hs
     obtain rfl := Option.some.inj h
     obtain ⟨c,rfl,hc⟩ := RelVs.one ha
     cases hc
     obtain ⟨w0,hw1,hw2⟩ := hw
     obtain ⟨m,hm⟩ := (Tryz.laySplit).s1_3 w0 hw2.2
     have hlt := World.block_lt_of_cell? _ _ hm
     have hm' : w.cell? _ = _ := (cell_below hw1 hlt).1.trans hm
     obtain ⟨k,hk⟩ := B.bare_f s hs
     exact (B.eval_bare.calls k s _ w ⟨m,hm'⟩ hk).mono fun e w' ⟨h3,h4⟩ => ⟨_,h3,h4,.str _⟩
   · cases h
 · cases h
def bareS : List (AVal U) → St U → (Res U → St U → Option R) → Option R := fun args st K => match args with
 | [.str s] => if s.size ≤ 900000 then K (.ret (.str (B.bareW s))) st else none
 | _ => none
end
theorem bareS_ok {U : Nat → Type} {C : Codec U} : CallOkL (R := Rr U) Tryz.prog C 104 bareS := callOk_by bare_ok fun args st K r h => by
 unfold bareS at h
 unfold asExt bareF
 split at h
 · split at h
   · rename_i h1
     rw [if_pos h1]; exact h
   · cases h
 · cases h
section
variable {U : Nat → Type} {C : Codec U} {R : Type}
/-! ### strings.Compare, bits.Mul64: the shelf's contracts -/
def compareF : List (AVal U) → Option (AVal U)
 | [.str s,.str t] => some (.int .i64 (Lib.compareBytes s.data.toList t.data.toList))
 | _ => none
theorem compare_ok : CallOk (R := Rr U) Tryz.prog C 136 (asExt compareF) := by
 refine callOk_ext fun args v h g w cs ha hi hw => ?_
 unfold compareF at h
 split at h
 · obtain rfl := Option.some.inj h
   obtain ⟨c,d,rfl,hc,hd⟩ := RelVs.two ha
   cases hc
   cases hd
   exact (Any.strings_Compare Tryz.layCompare _ _ w).mono fun e w' ⟨h1,h2⟩ => ⟨_,h1,h2 ▸ Below.refl _ _,.int _ _⟩
 · cases h
def compareS : List (AVal U) → St U → (Res U → St U → Option R) → Option R := fun args st K => match args with
 | [.str s,.str t] => K (.ret (.int .i64 (Lib.compareBytes s.data.toList t.data.toList))) st
 | _ => none
def mul64F : List (AVal U) → Option (AVal U)
 | [.int .u64 a,.int .u64 b] => if 0 ≤ a ∧ a < 18446744073709551616 ∧ 0 ≤ b ∧ b < 18446744073709551616 then some (.tup [.int .u64 (a * b / 18446744073709551616),.int .u64 (a * b % 18446744073709551616)]) else none
 | _ => none
theorem mul64_ok : CallOk (R := Rr U) Tryz.prog C 161 (asExt mul64F) := by
 refine callOk_ext fun args v h g w cs ha hi hw => ?_
 unfold mul64F at h
 split at h
 · split at h
   · rename_i a b hc
     obtain rfl := Option.some.inj h
     obtain ⟨c,d,rfl,h5,h6⟩ := RelVs.two ha
     cases h5
     cases h6
     obtain ⟨x,rfl⟩ := Int.eq_ofNat_of_zero_le hc.1
     obtain ⟨y,rfl⟩ := Int.eq_ofNat_of_zero_le hc.2.2.1
     refine (Any.bits_Mul64 Tryz.layMul64 x y (by omega) (by omega) w).mono fun e w' ⟨h1,h2⟩ => ⟨_,h1,h2 ▸ Below.refl _ _,?_⟩
     simp only [Int.natCast_ediv,Int.natCast_emod,Int.natCast_mul]
     exact .tup (.cons (.int _ _) (.cons (.int _ _) .nil))
   · cases h
 · cases h
def mul64S : List (AVal U) → St U → (Res U → St U → Option R) → Option R := fun args st K => match args with
 | [.int .u64 a,.int .u64 b] => if 0 ≤ a ∧ a < 18446744073709551616 ∧ 0 ≤ b ∧ b < 18446744073709551616 then K (.ret (.tup [.int .u64 (a * b / 18446744073709551616),.int .u64 (a * b % 18446744073709551616)])) st else none
 | _ => none
end
theorem compareS_ok {U : Nat → Type} {C : Codec U} : CallOkL (R := Rr U) Tryz.prog C 136 compareS := callOk_by compare_ok fun args st K r h => by
 unfold compareS at h
 unfold asExt compareF
 split at h
 · exact h
 · cases h
theorem mul64S_ok {U : Nat → Type} {C : Codec U} : CallOkL (R := Rr U) Tryz.prog C 161 mul64S := callOk_by mul64_ok fun args st K r h => by
 unfold mul64S at h
 unfold asExt mul64F
 split at h
 · split at h
   · rename_i h1
     rw [if_pos h1]; exact h
   · cases h
 · cases h
end Go.Proofs.YtbcpnpbkbndkjaaGreatDoor.Ev
end
