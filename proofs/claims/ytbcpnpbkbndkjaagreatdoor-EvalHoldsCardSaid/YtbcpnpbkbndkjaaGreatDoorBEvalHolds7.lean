/- Several texts in one, in their order. -/
import Derived.Test.YtbcpnpbkbndkjaaGreatDoorBEvalHolds6
import Derived.KernelRfl
section
/- What is known of each function: its word; and the contexts in which it is reckoned. -/
-- prev lib
-- map words %s.map fun x : Q.S69 => (x.f0,x.f1,x.f2)
set_option linter.unusedVariables false
namespace Go.Proofs.YtbcpnpbkbndkjaaGreatDoor.Ev
open Go
noncomputable def cx_chars_Decode := cxOf specs_lib
noncomputable def chars_Decode.spec : Spec := fun args st K => match args,st.box,st.nt with
 | [.sl (.int .u8) b .no],[],0 => (Q.chars_Decode.f b).bind fun v => K (.ret (.tup [.int .i64 v.1,.int .i64 v.2])) (lcRet [] [] 0)
 | _,_,_ => none
noncomputable def specs_chars_Decode : SpecL := (144,false,chars_Decode.spec) :: specs_lib
noncomputable def cx_chars_in := cxOf specs_chars_Decode
noncomputable def chars_in.spec : Spec := fun args st K => match args,st.box,st.nt with
 | [.int .i64 r,.sl (.pair (.int .i64) (.int .i64)) l .no],[],0 => (lim fun k => Q.chars_in.f k r (l.map fun p => ⟨p.1,p.2⟩)).bind fun v => K (.ret (.bool v)) (lcRet [] [] 0)
 | _,_,_ => none
noncomputable def specs_chars_in : SpecL := (167,false,chars_in.spec) :: specs_chars_Decode
noncomputable def cx_chars_ofXML := cxOf specs_chars_in
noncomputable def chars_ofXML.spec : Spec := fun args st K => match args,st.box,st.nt with
 | [.int .i64 r],[],0 => (lim fun k => Q.chars_ofXML.f k r).bind fun v => K (.ret (.bool v)) (lcRet [] [] 0)
 | _,_,_ => none
noncomputable def specs_chars_ofXML : SpecL := (145,false,chars_ofXML.spec) :: specs_chars_in
noncomputable def cx_chars_Wrong := cxOf specs_chars_ofXML
noncomputable def chars_Wrong.spec : Spec := fun args st K => match args,st.box,st.nt with
 | [.sl (.int .u8) b .no],[],0 => (lim fun k => Q.chars_Wrong.f k b).bind fun v => K (.ret (.int .i64 v)) (lcRet [] [] 0)
 | _,_,_ => none
noncomputable def specs_chars_Wrong : SpecL := (115,false,chars_Wrong.spec) :: specs_chars_ofXML
noncomputable def cx_chars_Number := cxOf specs_chars_Wrong
noncomputable def chars_Number.spec : Spec := fun args st K => match args,st.box,st.nt with
 | [.str s],[],0 => (lim fun k => Q.chars_Number.f k s).bind fun v => K (.ret (.tup [.int .i64 v.1,.int .i64 v.2])) (lcRet [] [] 0)
 | _,_,_ => none
noncomputable def specs_chars_Number : SpecL := (70,false,chars_Number.spec) :: specs_chars_Wrong
noncomputable def cx_lexer_is := cxOf specs_chars_Number
noncomputable def lexer_is.spec : Spec := fun args st K => match args,st.box,st.nt with
 | [.int .u8 x,.str s],[],0 => (Q.lexer_is.f x s).bind fun v => K (.ret (.bool v)) (lcRet [] [] 0)
 | _,_,_ => none
noncomputable def specs_lexer_is : SpecL := (68,false,lexer_is.spec) :: specs_chars_Number
noncomputable def cx_lexer_run := cxOf specs_lexer_is
noncomputable def lexer_run.spec : Spec := fun args st K => match args,st.box,st.nt with
 | [.str s,.str t],[],0 => (lim fun k => Q.lexer_run.f k s t).bind fun v => K (.ret (.str v)) (lcRet [] [] 0)
 | _,_,_ => none
noncomputable def specs_lexer_run : SpecL := (69,false,lexer_run.spec) :: specs_lexer_is
noncomputable def cx_lexer_quoted := cxOf specs_lexer_run
noncomputable def lexer_quoted.spec : Spec := fun args st K => match args,st.box,st.nt with
 | [.str s],[],0 => (lim fun k => Q.lexer_quoted.f k s).bind fun v => K (.ret (.tup [.str v.1,.int .i64 v.2])) (lcRet [] [] 0)
 | _,_,_ => none
noncomputable def specs_lexer_quoted : SpecL := (71,false,lexer_quoted.spec) :: specs_lexer_run
noncomputable def cx_lexer_sign := cxOf specs_lexer_quoted
noncomputable def lexer_sign.spec : Spec := fun args st K => match args,st.box,st.nt with
 | [.str s],[],0 => (lim fun k => Q.lexer_sign.f k s).bind fun v => K (.ret (.str v)) (lcRet [] [] 0)
 | _,_,_ => none
noncomputable def specs_lexer_sign : SpecL := (72,false,lexer_sign.spec) :: specs_lexer_quoted
noncomputable def cx_lexer_word := cxOf specs_lexer_sign
noncomputable def lexer_word.spec : Spec := fun args st K => match args,st.box,st.nt with
 | [.str s],[],0 => (lim fun k => Q.lexer_word.f k s).bind fun v => K (.ret (.tup [.agg [.int .i64 v.1,.str v.2.1,.int .i64 v.2.2.1],.int .i64 v.2.2.2])) (lcRet [] [] 0)
 | _,_,_ => none
noncomputable def specs_lexer_word : SpecL := (37,false,lexer_word.spec) :: specs_lexer_sign
noncomputable def cx_lexer_Words := cxOf specs_lexer_word
noncomputable def lexer_Words.spec : Spec := fun args st K => match args,st.box,st.nt with
 | [.str s],[],0 => (lim fun k => Q.lexer_Words.f k s).bind fun v => K (.ret (.tup [.sl W (v.1.map fun x : Q.S69 => (x.f0,x.f1,x.f2)) .no,.int .i64 v.2.1,.int .i64 v.2.2])) (lcRet [] [] 0)
 | _,_,_ => none
noncomputable def specs_lexer_Words : SpecL := (22,false,lexer_Words.spec) :: specs_lexer_word
noncomputable def cx_dossierref01_Space := cxOf specs_lexer_Words
noncomputable def dossierref01_Space.spec : Spec := fun args st K => match args,st.box,st.nt with
 | [.int .i64 r],[],0 => (Q.dossierref01_Space.f r).bind fun v => K (.ret (.bool v)) (lcRet [] [] 0)
 | _,_,_ => none
noncomputable def specs_dossierref01_Space : SpecL := (45,false,dossierref01_Space.spec) :: specs_lexer_Words
noncomputable def cx_dossierref01_Encode := cxOf specs_dossierref01_Space
noncomputable def dossierref01_Encode.spec : Spec := fun args st K => match args,st.box,st.nt with
 | [.int .i64 r],[],0 => (lim fun k => Q.dossierref01_Encode.f k r).bind fun v => K (.ret (.sl (.int .u8) (v) .no)) (lcRet [] [] 0)
 | _,_,_ => none
noncomputable def specs_dossierref01_Encode : SpecL := (153,false,dossierref01_Encode.spec) :: specs_dossierref01_Space
noncomputable def cx_dossierref01_Decode := cxOf specs_dossierref01_Encode
noncomputable def dossierref01_Decode.spec : Spec := fun args st K => match args,st.box,st.nt with
 | [.sl (.int .u8) b .no],[],0 => (lim fun k => Q.dossierref01_Decode.f k b).bind fun v => K (.ret (.tup [.int .i64 v.1,.int .i64 v.2])) (lcRet [] [] 0)
 | _,_,_ => none
noncomputable def specs_dossierref01_Decode : SpecL := (123,false,dossierref01_Decode.spec) :: specs_dossierref01_Encode
noncomputable def cx_dossierref01_within := cxOf specs_dossierref01_Decode
noncomputable def dossierref01_within.spec : Spec := fun args st K => match args,st.box,st.nt with
 | [.int .i64 r,.sl (.int .i64) l .no],[],0 => (lim fun k => Q.dossierref01_within.f k r l).bind fun v => K (.ret (.bool v)) (lcRet [] [] 0)
 | _,_,_ => none
noncomputable def specs_dossierref01_within : SpecL := (154,false,dossierref01_within.spec) :: specs_dossierref01_Decode
noncomputable def cx_dossierref01_OfXML := cxOf specs_dossierref01_within
noncomputable def dossierref01_OfXML.spec : Spec := fun args st K => match args,st.box,st.nt with
 | [.int .i64 r],[],0 => (lim fun k => Q.dossierref01_OfXML.f k r).bind fun v => K (.ret (.bool v)) (lcRet [] [] 0)
 | _,_,_ => none
noncomputable def specs_dossierref01_OfXML : SpecL := (124,false,dossierref01_OfXML.spec) :: specs_dossierref01_within
noncomputable def cx_dossierref01_Text := cxOf specs_dossierref01_OfXML
noncomputable def dossierref01_Text.specR (k : Nat) : Spec := fun args st K => match args,st.box,st.nt with
 | [.int .i64 r],[],0 => (Q.dossierref01_Text.f k r).bind fun v => K (.ret (.str v)) (lcRet [] [] 0)
 | _,_,_ => none
noncomputable def dossierref01_Text.rec (k : Nat) := recL [(152,dossierref01_Text.specR k)]
noncomputable def dossierref01_Text.spec : Spec := fun args st K => match args,st.box,st.nt with
 | [.int .i64 r],[],0 => (lim fun k => Q.dossierref01_Text.f k r).bind fun v => K (.ret (.str v)) (lcRet [] [] 0)
 | _,_,_ => none
noncomputable def specs_dossierref01_Text : SpecL := (152,false,dossierref01_Text.spec) :: specs_dossierref01_OfXML
noncomputable def cx_dossierref01_Number := cxOf specs_dossierref01_Text
noncomputable def dossierref01_Number.spec : Spec := fun args st K => match args,st.box,st.nt with
 | [.str s],[],0 => (lim fun k => Q.dossierref01_Number.f k s).bind fun v => K (.ret (.tup [.int .i64 v.1,.int .i64 v.2])) (lcRet [] [] 0)
 | _,_,_ => none
noncomputable def specs_dossierref01_Number : SpecL := (122,false,dossierref01_Number.spec) :: specs_dossierref01_Text
noncomputable def cx_dossierref08_digit := cxOf specs_dossierref01_Number
noncomputable def dossierref08_digit.spec : Spec := fun args st K => match args,st.box,st.nt with
 | [.int .u8 x],[],0 => (Q.dossierref08_digit.f x).bind fun v => K (.ret (.bool v)) (lcRet [] [] 0)
 | _,_,_ => none
noncomputable def specs_dossierref08_digit : SpecL := (91,false,dossierref08_digit.spec) :: specs_dossierref01_Number
noncomputable def cx_dossierref08_letter := cxOf specs_dossierref08_digit
noncomputable def dossierref08_letter.spec : Spec := fun args st K => match args,st.box,st.nt with
 | [.int .u8 x],[],0 => (Q.dossierref08_letter.f x).bind fun v => K (.ret (.bool v)) (lcRet [] [] 0)
 | _,_,_ => none
noncomputable def specs_dossierref08_letter : SpecL := (94,false,dossierref08_letter.spec) :: specs_dossierref08_digit
noncomputable def cx_dossierref08_integer := cxOf specs_dossierref08_letter
noncomputable def dossierref08_integer.spec : Spec := fun args st K => match args,st.box,st.nt with
 | [.str s],[],0 => (lim fun k => Q.dossierref08_integer.f k s).bind fun v => K (.ret (.tup [.agg [.int .i64 v.1,.str v.2.1,.int .i64 v.2.2.1],.int .i64 v.2.2.2.1,.bool v.2.2.2.2])) (lcRet [] [] 0)
 | _,_,_ => none
noncomputable def specs_dossierref08_integer : SpecL := (92,false,dossierref08_integer.spec) :: specs_dossierref08_letter
noncomputable def cx_dossierref08_text := cxOf specs_dossierref08_integer
noncomputable def dossierref08_text.spec : Spec := fun args st K => match args,st.box,st.nt with
 | [.str s],[],0 => (lim fun k => Q.dossierref08_text.f k s).bind fun v => K (.ret (.tup [.agg [.int .i64 v.1,.str v.2.1,.int .i64 v.2.2.1],.int .i64 v.2.2.2.1,.bool v.2.2.2.2])) (lcRet [] [] 0)
 | _,_,_ => none
noncomputable def specs_dossierref08_text : SpecL := (93,false,dossierref08_text.spec) :: specs_dossierref08_integer
noncomputable def cx_dossierref08_sign := cxOf specs_dossierref08_text
noncomputable def dossierref08_sign.spec : Spec := fun args st K => match args,st.box,st.nt with
 | [.str s],[],0 => (lim fun k => Q.dossierref08_sign.f k s).bind fun v => K (.ret (.tup [.agg [.int .i64 v.1,.str v.2.1,.int .i64 v.2.2.1],.int .i64 v.2.2.2.1,.bool v.2.2.2.2])) (lcRet [] [] 0)
 | _,_,_ => none
noncomputable def specs_dossierref08_sign : SpecL := (95,false,dossierref08_sign.spec) :: specs_dossierref08_text
noncomputable def cx_dossierref08_word := cxOf specs_dossierref08_sign
noncomputable def dossierref08_word.spec : Spec := fun args st K => match args,st.box,st.nt with
 | [.str s],[],0 => (lim fun k => Q.dossierref08_word.f k s).bind fun v => K (.ret (.tup [.agg [.int .i64 v.1,.str v.2.1,.int .i64 v.2.2.1],.int .i64 v.2.2.2.1,.bool v.2.2.2.2])) (lcRet [] [] 0)
 | _,_,_ => none
noncomputable def specs_dossierref08_word : SpecL := (46,false,dossierref08_word.spec) :: specs_dossierref08_sign
noncomputable def cx_dossierref08_Words := cxOf specs_dossierref08_word
noncomputable def dossierref08_Words.spec : Spec := fun args st K => match args,st.box,st.nt with
 | [.str s],[],0 => (lim fun k => Q.dossierref08_Words.f k s).bind fun v => K (.ret (.tup [.sl W (v.1.map fun x : Q.S69 => (x.f0,x.f1,x.f2)) .no,.int .i64 v.2.1,.int .i64 v.2.2])) (lcRet [] [] 0)
 | _,_,_ => none
noncomputable def specs_dossierref08_Words : SpecL := (29,false,dossierref08_Words.spec) :: specs_dossierref08_word
end Go.Proofs.YtbcpnpbkbndkjaaGreatDoor.Ev
end
section
/- What each function comes to, one step of it at a time: the kernel's own reckoning. -/
set_option linter.unusedVariables false
set_option maxRecDepth 100000
namespace Go.Proofs.YtbcpnpbkbndkjaaGreatDoor.Ev
open Go Go.RowKit
open Go.IntKind (i64 u8 i32 u64)
theorem chars_Decode.top (n : Nat) (b : List Int) : callX false (fnF cx_chars_Decode noCalls n 144) ([.sl (.int .u8) b .no]) (lcSt [] 0) out = ((Q.utf8_DecodeRune.f b).bind fun v0 => if (if (v0.1 == 65533) = true then decide (v0.2 ≤ 1) else false) = true then some (.ret (.tup [.int .i64 0,.int .i64 0]),lcRet [] [] 0) else some (.ret (.tup [.int .i64 (i64.wrap v0.1),.int .i64 v0.2]),lcRet [] [] 0)) := by kernel_rfl
noncomputable def lexer_quoted.L0 (n k0 : Nat) (s j0 : ByteArray) (j1 : List (Ty.den U0 (.int .u8))) (j2 : Int) : Option (Rr U0) := loopF cx_lexer_quoted noCalls k0 0 ([(0,false),(4,true),(5,false)]) ((siteC (Tryz.f71.body.getD .skip) [1,1,0,1,0]).getD .skip) (siteK cx_lexer_quoted noCalls n [] (Tryz.f71.body.getD .skip) [1,1,0,1,0] (bodyK cx_lexer_quoted Tryz.f71 (lcSt [] 0) (callK false [] [] (lcSt [] 0) out))) (St.mk [(0,.str j0),(4,.sl (.int .u8) j1 (Perm.tok 0)),(5,.int .i64 j2)] [] [0] 1 0 0 0 0 71 [] 53)
theorem lexer_quoted.L0_s (n k0 : Nat) (s j0 : ByteArray) (j1 : List (Ty.den U0 (.int .u8))) (j2 : Int) : lexer_quoted.L0 n (k0 + 1) s j0 j1 j2 = if decide (j2 < (↑j0.size : Int)) = true then if 0 ≤ j2 then if j2 < (↑j0.size : Int) then if (bt j0 j2 == 34) = true then if decide ((↑j1.length : Int) > 256) = true then some (.ret (.tup [.str ⟨#[]⟩,.int .i64 0]),lcRet [] [] 0) else ((lim fun k => Q.chars_Wrong.f k j1).bind fun v0 => if (if false = true then true else decide (v0 ≥ 0)) = true then some (.ret (.tup [.str ⟨#[]⟩,.int .i64 0]),lcRet [] [] 0) else some (.ret (.tup [.str (ofBytes j1),.int .i64 (i64.wrap (j2 + 1))]),lcRet [] [] 0)) else if (bt j0 j2 == 92) = true then if (i64.wrap (j2 + 1) == (↑j0.size : Int)) = true then some (.ret (.tup [.str ⟨#[]⟩,.int .i64 0]),lcRet [] [] 0) else if 0 ≤ i64.wrap (j2 + 1) then if i64.wrap (j2 + 1) < (↑j0.size : Int) then ((Q.lexer_is.f (bt j0 (i64.wrap (j2 + 1))) (ByteArray.mk #[34,92])).bind fun v1 => if (if false = true then true else !v1) = true then some (.ret (.tup [.str ⟨#[]⟩,.int .i64 0]),lcRet [] [] 0) else if 0 ≤ i64.wrap (j2 + 1) then if i64.wrap (j2 + 1) < (↑j0.size : Int) then if (j1.length + [bt j0 (i64.wrap (j2 + 1))].length) * 1 ≤ most then (lexer_quoted.L0 n k0 s j0 (j1 ++ [bt j0 (i64.wrap (j2 + 1))]) (i64.wrap (i64.wrap (j2 + 1) + 1))) else none else none else none) else none else none else if 0 ≤ j2 then if j2 < (↑j0.size : Int) then if (j1.length + [bt j0 j2].length) * 1 ≤ most then (lexer_quoted.L0 n k0 s j0 (j1 ++ [bt j0 j2]) (i64.wrap (j2 + 1))) else none else none else none else none else none else some (.ret (.tup [.str ⟨#[]⟩,.int .i64 0]),lcRet [] [] 0) := by kernel_rfl
theorem lexer_quoted.top (n : Nat) (s : ByteArray) : callX false (fnF cx_lexer_quoted noCalls n 71) ([.str s]) (lcSt [] 0) out = (lexer_quoted.L0 n n s s [] 1) := by kernel_rfl
noncomputable def dossierref01_within.L0 (n k0 : Nat) (r : Int) (l : List Int) (j0 : Int) (j1 : List Int) (j2 : Int) : Option (Rr U0) := loopF cx_dossierref01_within noCalls k0 0 ([(0,false),(1,false),(5,false)]) ((siteC (Tryz.f154.body.getD .skip) [1,0,1,0]).getD .skip) (siteK cx_dossierref01_within noCalls n [] (Tryz.f154.body.getD .skip) [1,0,1,0] (bodyK cx_dossierref01_within Tryz.f154 (lcSt [] 0) (callK false [] [] (lcSt [] 0) out))) (St.mk [(0,.int .i64 j0),(1,.sl (.int .i64) j1 .no),(5,.int .i64 j2)] [] [] 0 0 0 0 0 154 [] 28)
theorem dossierref01_within.L0_s (n k0 : Nat) (r : Int) (l : List Int) (j0 : Int) (j1 : List Int) (j2 : Int) : dossierref01_within.L0 n (k0 + 1) r l j0 j1 j2 = if decide (i64.wrap (j2 + 1) < (↑j1.length : Int)) = true then if 0 ≤ j2 then ((nth j1 j2.toNat).bind fun v0 => if decide (j0 ≥ v0) = true then if 0 ≤ i64.wrap (j2 + 1) then ((nth j1 (i64.wrap (j2 + 1)).toNat).bind fun v1 => if (if true = true then decide (j0 ≤ v1) else false) = true then some (.ret (.bool true),lcRet [] [] 0) else (dossierref01_within.L0 n k0 r l j0 j1 (i64.wrap (j2 + 2)))) else none else (dossierref01_within.L0 n k0 r l j0 j1 (i64.wrap (j2 + 2)))) else none else some (.ret (.bool false),lcRet [] [] 0) := by kernel_rfl
theorem dossierref01_within.top (n : Nat) (r : Int) (l : List Int) : callX false (fnF cx_dossierref01_within noCalls n 154) ([.int .i64 r,.sl (.int .i64) l .no]) (lcSt [] 0) out = (dossierref01_within.L0 n n r l r l 0) := by kernel_rfl
noncomputable def dossierref08_text.L1 (n k0 : Nat) (s j0 j1 : ByteArray) (j2 j3 : Int) (j4 : ByteArray) (j5 : Int) : Option (Rr U0) := loopF cx_dossierref08_text noCalls k0 (1) ([(0,false),(2,false),(5,false),(6,false)]) ((siteC (Tryz.f93.body.getD .skip) [1,1,0,1,0]).getD .skip) (siteK cx_dossierref08_text noCalls n [] (Tryz.f93.body.getD .skip) [1,1,0,1,0] (bodyK cx_dossierref08_text Tryz.f93 (lcSt [] 0) (callK false [] [] (lcSt [] 0) out))) (St.mk [(0,.str j0),(2,.ptr 0 0),(5,.str j1),(6,.int .i64 j2)] [[.int .i64 j3,.str j4,.int .i64 j5]] [] 0 0 0 0 0 93 [] 88)
theorem dossierref08_text.L1_s (n k0 : Nat) (s j0 j1 : ByteArray) (j2 j3 : Int) (j4 : ByteArray) (j5 : Int) : dossierref08_text.L1 n (k0 + 1) s j0 j1 j2 j3 j4 j5 = if decide (j2 < (↑j0.size : Int)) = true then if 0 ≤ j2 then if j2 < (↑j0.size : Int) then if (bt j0 j2 == 34) = true then some (.ret (.tup [.agg [.int .i64 3,.str j1,.int .i64 0],.int .i64 (i64.wrap (j2 + 1)),.bool (decide ((↑j1.size : Int) ≤ 256))]),lcRet [] [] 0) else if 0 ≤ j2 then if j2 < (↑j0.size : Int) then if (bt j0 j2 == 92) = true then if decide (i64.wrap (j2 + 1) ≥ (↑j0.size : Int)) = true then some (.ret (.tup [.agg [.int .i64 0,.str ⟨#[]⟩,.int .i64 0],.int .i64 0,.bool false]),lcRet [] [] 0) else if 0 ≤ i64.wrap (j2 + 1) then if i64.wrap (j2 + 1) < (↑j0.size : Int) then if (bt j0 (i64.wrap (j2 + 1)) != 34) = true then if 0 ≤ i64.wrap (j2 + 1) then if i64.wrap (j2 + 1) < (↑j0.size : Int) then if (if false = true then true else if true = true then bt j0 (i64.wrap (j2 + 1)) != 92 else false) = true then some (.ret (.tup [.agg [.int .i64 0,.str ⟨#[]⟩,.int .i64 0],.int .i64 0,.bool false]),lcRet [] [] 0) else if 0 ≤ i64.wrap (j2 + 1) then if i64.wrap (j2 + 1) ≤ i64.wrap (j2 + 2) then if i64.wrap (j2 + 2) ≤ (↑j0.size : Int) then if j1.size + (j0.extract (i64.wrap (j2 + 1)).toNat (i64.wrap (j2 + 2)).toNat).size ≤ 9223372036854775807 then (dossierref08_text.L1 n k0 s j0 (j1 ++ j0.extract (i64.wrap (j2 + 1)).toNat (i64.wrap (j2 + 2)).toNat) (i64.wrap (j2 + 2)) j3 j4 j5) else none else none else none else none else none else none else if 0 ≤ i64.wrap (j2 + 1) then if i64.wrap (j2 + 1) ≤ i64.wrap (j2 + 2) then if i64.wrap (j2 + 2) ≤ (↑j0.size : Int) then if j1.size + (j0.extract (i64.wrap (j2 + 1)).toNat (i64.wrap (j2 + 2)).toNat).size ≤ 9223372036854775807 then (dossierref08_text.L1 n k0 s j0 (j1 ++ j0.extract (i64.wrap (j2 + 1)).toNat (i64.wrap (j2 + 2)).toNat) (i64.wrap (j2 + 2)) j3 j4 j5) else none else none else none else none else none else none else if 0 ≤ j2 then if j2 ≤ (↑j0.size : Int) then ((lim fun k => Q.dossierref01_Decode.f k (toBytes (j0.extract j2.toNat j0.size))).bind fun v0 => if (v0.2 == 0) = true then some (.ret (.tup [.agg [.int .i64 0,.str ⟨#[]⟩,.int .i64 0],.int .i64 0,.bool false]),lcRet [] [] 0) else ((lim fun k => Q.dossierref01_OfXML.f k v0.1).bind fun v1 => if (if false = true then true else !v1) = true then some (.ret (.tup [.agg [.int .i64 0,.str ⟨#[]⟩,.int .i64 0],.int .i64 0,.bool false]),lcRet [] [] 0) else if 0 ≤ j2 then if j2 ≤ i64.wrap (j2 + v0.2) then if i64.wrap (j2 + v0.2) ≤ (↑j0.size : Int) then if j1.size + (j0.extract j2.toNat (i64.wrap (j2 + v0.2)).toNat).size ≤ 9223372036854775807 then (dossierref08_text.L1 n k0 s j0 (j1 ++ j0.extract j2.toNat (i64.wrap (j2 + v0.2)).toNat) (i64.wrap (j2 + v0.2)) j3 j4 j5) else none else none else none else none)) else none else none else none else none else none else none else some (.ret (.tup [.agg [.int .i64 0,.str ⟨#[]⟩,.int .i64 0],.int .i64 0,.bool false]),lcRet [] [] 0) := by kernel_rfl
theorem dossierref08_text.top (n : Nat) (s : ByteArray) : callX false (fnF cx_dossierref08_text noCalls n 93) ([.str s]) (lcSt [] 0) out = (dossierref08_text.L1 n n s s (ByteArray.mk #[]) 1 0 (ByteArray.mk #[]) 0) := by kernel_rfl
noncomputable def chars_in.L0 (n k0 : Nat) (r : Int) (l : List (Int × Int)) (j0 : Int) (j1 : List (Int × Int)) (j2 j3 : Int) : Option (Rr U0) := loopF cx_chars_in noCalls k0 0 ([(0,false),(7,false),(8,false),(9,false)]) ((siteC (Tryz.f167.body.getD .skip) [1,0,1,0]).getD .skip) (siteK cx_chars_in noCalls n [] (Tryz.f167.body.getD .skip) [1,0,1,0] (bodyK cx_chars_in Tryz.f167 (lcSt [] 0) (callK false [] [] (lcSt [] 0) out))) (St.mk [(0,.int .i64 j0),(7,.sl ((Ty.int IntKind.i64).pair (.int .i64)) j1 .no),(8,.int .i64 j2),(9,.int .i64 j3)] [] [] 0 0 0 0 0 167 [] 24)
theorem chars_in.L0_s (n k0 : Nat) (r : Int) (l : List (Int × Int)) (j0 : Int) (j1 : List (Int × Int)) (j2 j3 : Int) : chars_in.L0 n (k0 + 1) r l j0 j1 j2 j3 = if decide (j3 < j2) = true then if 0 ≤ j3 then ((nth j1 j3.toNat).bind fun v0 => if (if decide (v0.1 ≤ j0) = true then decide (j0 ≤ v0.2) else false) = true then some (.ret (.bool true),lcRet [] [] 0) else (chars_in.L0 n k0 r l j0 j1 j2 (i64.wrap (j3 + 1)))) else none else some (.ret (.bool false),lcRet [] [] 0) := by kernel_rfl
theorem chars_in.top (n : Nat) (r : Int) (l : List (Int × Int)) : callX false (fnF cx_chars_in noCalls n 167) ([.int .i64 r,.sl ((Ty.int IntKind.i64).pair (.int .i64)) l .no]) (lcSt [] 0) out = (chars_in.L0 n n r l r l ((↑l.length : Int)) 0) := by kernel_rfl
noncomputable def lexer_sign.L0 (n k0 : Nat) (s j0 : ByteArray) (j1 : Int) : Option (Rr U0) := loopF cx_lexer_sign noCalls k0 0 ([(0,false),(3,false)]) ((siteC (Tryz.f72.body.getD .skip) [1,0,1,0]).getD .skip) (siteK cx_lexer_sign noCalls n [] (Tryz.f72.body.getD .skip) [1,0,1,0] (bodyK cx_lexer_sign Tryz.f72 (lcSt [] 0) (callK false [] [] (lcSt [] 0) out))) (St.mk [(0,.str j0),(3,.int .i64 j1)] [] [] 0 0 0 0 0 72 [] 33)
theorem lexer_sign.L0_s (n k0 : Nat) (s j0 : ByteArray) (j1 : Int) : lexer_sign.L0 n (k0 + 1) s j0 j1 = if decide (j1 > 0) = true then if 0 ≤ j1 then if j1 ≤ (↑j0.size : Int) then if (if seq (j0.extract 0 j1.toNat) (ByteArray.mk #[60,61]) = true then true else if seq (j0.extract 0 j1.toNat) (ByteArray.mk #[62,61]) = true then true else if seq (j0.extract 0 j1.toNat) (ByteArray.mk #[33,61]) = true then true else if seq (j0.extract 0 j1.toNat) (ByteArray.mk #[40]) = true then true else if seq (j0.extract 0 j1.toNat) (ByteArray.mk #[41]) = true then true else if seq (j0.extract 0 j1.toNat) (ByteArray.mk #[46]) = true then true else if seq (j0.extract 0 j1.toNat) (ByteArray.mk #[44]) = true then true else if seq (j0.extract 0 j1.toNat) (ByteArray.mk #[43]) = true then true else if seq (j0.extract 0 j1.toNat) (ByteArray.mk #[45]) = true then true else if seq (j0.extract 0 j1.toNat) (ByteArray.mk #[42]) = true then true else if seq (j0.extract 0 j1.toNat) (ByteArray.mk #[47]) = true then true else if seq (j0.extract 0 j1.toNat) (ByteArray.mk #[37]) = true then true else if seq (j0.extract 0 j1.toNat) (ByteArray.mk #[60]) = true then true else if seq (j0.extract 0 j1.toNat) (ByteArray.mk #[62]) = true then true else seq (j0.extract 0 j1.toNat) (ByteArray.mk #[61])) = true then if 0 ≤ j1 then if j1 ≤ (↑j0.size : Int) then some (.ret (.str (j0.extract 0 j1.toNat)),lcRet [] [] 0) else none else none else (lexer_sign.L0 n k0 s j0 (i64.wrap (j1 - 1))) else none else none else some (.ret (.str ⟨#[]⟩),lcRet [] [] 0) := by kernel_rfl
theorem lexer_sign.top (n : Nat) (s : ByteArray) : callX false (fnF cx_lexer_sign noCalls n 72) ([.str s]) (lcSt [] 0) out = (lexer_sign.L0 n n s s (if (↑s.size : Int) < 2 then (↑s.size : Int) else (2 : Int))) := by kernel_rfl
theorem dossierref01_OfXML.top (n : Nat) (r : Int) : callX false (fnF cx_dossierref01_OfXML noCalls n 124) ([.int .i64 r]) (lcSt [] 0) out = ((lim fun k => Q.dossierref01_within.f k r [(9 : Int),(10 : Int),(13 : Int),(13 : Int),(32 : Int),(55295 : Int),(57344 : Int),(65533 : Int),(65536 : Int),(1114111 : Int)]).bind fun v0 => some (.ret (.bool v0),lcRet [] [] 0)) := by kernel_rfl
noncomputable def dossierref08_sign.L1 (n k0 : Nat) (s j0 : ByteArray) (j1 : List (Ty.den U0 Ty.str)) (j2 j3 j4 : Int) (j5 : ByteArray) (j6 : Int) : Option (Rr U0) := loopF cx_dossierref08_sign noCalls k0 (1) ([(0,false),(2,false),(28,false),(29,false),(30,false)]) ((siteC (Tryz.f95.body.getD .skip) [1,1,0,1,0]).getD .skip) (siteK cx_dossierref08_sign noCalls n [] (Tryz.f95.body.getD .skip) [1,1,0,1,0] (bodyK cx_dossierref08_sign Tryz.f95 (lcSt [] 0) (callK false [] [] (lcSt [] 0) out))) (St.mk [(0,.str j0),(2,.ptr 0 0),(28,.sl .str j1 .no),(29,.int .i64 j2),(30,.int .i64 j3)] [[.int .i64 j4,.str j5,.int .i64 j6]] [] 0 0 0 0 0 95 [] 42)
theorem dossierref08_sign.L1_s (n k0 : Nat) (s j0 : ByteArray) (j1 : List (Ty.den U0 Ty.str)) (j2 j3 j4 : Int) (j5 : ByteArray) (j6 : Int) : dossierref08_sign.L1 n (k0 + 1) s j0 j1 j2 j3 j4 j5 j6 = if decide (j3 < j2) = true then if 0 ≤ j3 then ((nth j1 j3.toNat).bind fun v1 => if (1 : Int) ≤ (↑j0.size : Int) then if seq (j0.extract 0 (Int.toNat (1 : Int))) v1 = true then some (.ret (.tup [.agg [.int .i64 4,.str v1,.int .i64 0],.int .i64 1,.bool true]),lcRet [] [] 0) else (dossierref08_sign.L1 n k0 s j0 j1 j2 (i64.wrap (j3 + 1)) j4 j5 j6) else none) else none else some (.ret (.tup [.agg [.int .i64 0,.str ⟨#[]⟩,.int .i64 0],.int .i64 0,.bool false]),lcRet [] [] 0) := by kernel_rfl
theorem dossierref08_sign.top (n : Nat) (s : ByteArray) : callX false (fnF cx_dossierref08_sign noCalls n 95) ([.str s]) (lcSt [] 0) out = if decide ((↑s.size : Int) ≥ 2) = true then if (2 : Int) ≤ (↑s.size : Int) then if seq (s.extract 0 (Int.toNat (2 : Int))) (ByteArray.mk #[60,61]) = true then if (2 : Int) ≤ (↑s.size : Int) then some (.ret (.tup [.agg [.int .i64 4,.str (s.extract 0 (Int.toNat (2 : Int))),.int .i64 0],.int .i64 2,.bool true]),lcRet [] [] 0) else none else if (2 : Int) ≤ (↑s.size : Int) then if (if false = true then true else seq (s.extract 0 (Int.toNat (2 : Int))) (ByteArray.mk #[62,61])) = true then if (2 : Int) ≤ (↑s.size : Int) then some (.ret (.tup [.agg [.int .i64 4,.str (s.extract 0 (Int.toNat (2 : Int))),.int .i64 0],.int .i64 2,.bool true]),lcRet [] [] 0) else none else if (2 : Int) ≤ (↑s.size : Int) then if (if true = true then if false = true then true else seq (s.extract 0 (Int.toNat (2 : Int))) (ByteArray.mk #[33,61]) else false) = true then if (2 : Int) ≤ (↑s.size : Int) then some (.ret (.tup [.agg [.int .i64 4,.str (s.extract 0 (Int.toNat (2 : Int))),.int .i64 0],.int .i64 2,.bool true]),lcRet [] [] 0) else none else (dossierref08_sign.L1 n n s s ([ByteArray.mk #[40],ByteArray.mk #[41],ByteArray.mk #[46],ByteArray.mk #[44],ByteArray.mk #[43],ByteArray.mk #[45],ByteArray.mk #[42],ByteArray.mk #[47],ByteArray.mk #[37],ByteArray.mk #[60],ByteArray.mk #[62],ByteArray.mk #[61]]) 12 0 0 (ByteArray.mk #[]) 0) else none else none else none else (dossierref08_sign.L1 n n s s ([ByteArray.mk #[40],ByteArray.mk #[41],ByteArray.mk #[46],ByteArray.mk #[44],ByteArray.mk #[43],ByteArray.mk #[45],ByteArray.mk #[42],ByteArray.mk #[47],ByteArray.mk #[37],ByteArray.mk #[60],ByteArray.mk #[62],ByteArray.mk #[61]]) 12 0 0 (ByteArray.mk #[]) 0) := by kernel_rfl
theorem chars_ofXML.top (n : Nat) (r : Int) : callX false (fnF cx_chars_ofXML noCalls n 145) ([.int .i64 r]) (lcSt [] 0) out = ((lim fun k => Q.chars_in.f k r (List.map (fun p => Q.S182.mk p.1 p.2) [((32 : Int),(55295 : Int)),((9 : Int),(10 : Int)),((13 : Int),(13 : Int)),((57344 : Int),(65533 : Int)),((65536 : Int),(1114111 : Int))])).bind fun v0 => some (.ret (.bool v0),lcRet [] [] 0)) := by kernel_rfl
theorem lexer_word.top (n : Nat) (s : ByteArray) : callX false (fnF cx_lexer_word noCalls n 37) ([.str s]) (lcSt [] 0) out = if (0 : Int) < (↑s.size : Int) then ((Q.lexer_is.f (bt s (0 : Int)) (ByteArray.mk #[65,66,67,68,69,70,71,72,73,74,75,76,77,78,79,80,81,82,83,84,85,86,87,88,89,90,97,98,99,100,101,102,103,104,105,106,107,108,109,110,111,112,113,114,115,116,117,118,119,120,121,122,95])).bind fun v0 => if v0 = true then ((lim fun k => Q.lexer_run.f k s (ByteArray.mk #[65,66,67,68,69,70,71,72,73,74,75,76,77,78,79,80,81,82,83,84,85,86,87,88,89,90,97,98,99,100,101,102,103,104,105,106,107,108,109,110,111,112,113,114,115,116,117,118,119,120,121,122,95,48,49,50,51,52,53,54,55,56,57])).bind fun v1 => some (.ret (.tup [.agg [.int .i64 1,.str v1,.int .i64 0],.int .i64 (↑v1.size : Int)]),lcRet [] [] 0)) else ((Q.lexer_is.f (bt s (0 : Int)) (ByteArray.mk #[48,49,50,51,52,53,54,55,56,57])).bind fun v2 => if v2 = true then ((lim fun k => Q.lexer_run.f k s (ByteArray.mk #[48,49,50,51,52,53,54,55,56,57])).bind fun v3 => ((lim fun k => Q.chars_Number.f k v3).bind fun v4 => if (v4.2 != 0) = true then some (.ret (.tup [.agg [.int .i64 0,.str ⟨#[]⟩,.int .i64 0],.int .i64 0]),lcRet [] [] 0) else some (.ret (.tup [.agg [.int .i64 2,.str ⟨#[]⟩,.int .i64 v4.1],.int .i64 (↑v3.size : Int)]),lcRet [] [] 0))) else if (bt s (0 : Int) == 34) = true then ((lim fun k => Q.lexer_quoted.f k s).bind fun v5 => some (.ret (.tup [.agg [.int .i64 3,.str v5.1,.int .i64 0],.int .i64 v5.2]),lcRet [] [] 0)) else ((lim fun k => Q.lexer_sign.f k s).bind fun v6 => some (.ret (.tup [.agg [.int .i64 4,.str v6,.int .i64 0],.int .i64 (↑v6.size : Int)]),lcRet [] [] 0)))) else none := by kernel_rfl
theorem dossierref01_Text.top (n k : Nat) (r : Int) : callX false (fnF cx_dossierref01_Text (dossierref01_Text.rec k) n 152) ([.int .i64 r]) (lcSt [] 0) out = if decide (r < 0) = true then if decide (r > (-10 : Int)) = true then ((Q.dossierref01_Text.f k (i64.wrap ((0 : Int) - r))).bind fun v0 => if (ByteArray.mk #[45]).size + v0.size ≤ 9223372036854775807 then some (.ret (.str (ByteArray.mk #[45] ++ v0)),lcRet [] [] 0) else none) else ((Q.dossierref01_Text.f k (i64.wrap (r.tdiv (10 : Int)))).bind fun v1 => ((Q.dossierref01_Text.f k (i64.wrap ((0 : Int) - r.tmod (10 : Int)))).bind fun v2 => if v1.size + v2.size ≤ 9223372036854775807 then some (.ret (.str (v1 ++ v2)),lcRet [] [] 0) else none)) else if decide (r < 10) = true then if 0 ≤ r then if r ≤ i64.wrap (r + 1) then if i64.wrap (r + 1) ≤ (↑(ByteArray.mk #[48,49,50,51,52,53,54,55,56,57]).size : Int) then some (.ret (.str ((ByteArray.mk #[48,49,50,51,52,53,54,55,56,57]).extract r.toNat (i64.wrap (r + 1)).toNat)),lcRet [] [] 0) else none else none else none else ((Q.dossierref01_Text.f k (i64.wrap (r.tdiv (10 : Int)))).bind fun v3 => ((Q.dossierref01_Text.f k (r.tmod (10 : Int))).bind fun v4 => if v3.size + v4.size ≤ 9223372036854775807 then some (.ret (.str (v3 ++ v4)),lcRet [] [] 0) else none)) := by kernel_rfl
noncomputable def dossierref08_word.L1 (n k0 : Nat) (s j0 : ByteArray) (j1 j2 : Int) (j3 : ByteArray) (j4 : Int) : Option (Rr U0) := loopF cx_dossierref08_word noCalls k0 (1) ([(0,false),(2,false),(5,false)]) ((siteC (Tryz.f46.body.getD .skip) [1,1,1,0,0]).getD .skip) (siteK cx_dossierref08_word noCalls n [] (Tryz.f46.body.getD .skip) [1,1,1,0,0] (bodyK cx_dossierref08_word Tryz.f46 (lcSt [] 0) (callK false [] [] (lcSt [] 0) out))) (St.mk [(0,.str j0),(2,.ptr 0 0),(5,.int .i64 j1)] [[.int .i64 j2,.str j3,.int .i64 j4]] [] 0 0 0 0 0 46 [] 57)
theorem dossierref08_word.L1_s (n k0 : Nat) (s j0 : ByteArray) (j1 j2 : Int) (j3 : ByteArray) (j4 : Int) : dossierref08_word.L1 n (k0 + 1) s j0 j1 j2 j3 j4 = if decide (j1 < (↑j0.size : Int)) = true then if 0 ≤ j1 then if j1 < (↑j0.size : Int) then ((Q.dossierref08_letter.f (bt j0 j1)).bind fun v6 => if v6 = true then (dossierref08_word.L1 n k0 s j0 (i64.wrap (j1 + 1)) j2 j3 j4) else if 0 ≤ j1 then if j1 < (↑j0.size : Int) then ((Q.dossierref08_digit.f (bt j0 j1)).bind fun v7 => if (if true = true then if false = true then true else v7 else false) = true then (dossierref08_word.L1 n k0 s j0 (i64.wrap (j1 + 1)) j2 j3 j4) else if 0 ≤ j1 then if j1 ≤ (↑j0.size : Int) then some (.ret (.tup [.agg [.int .i64 1,.str (j0.extract 0 j1.toNat),.int .i64 0],.int .i64 j1,.bool true]),lcRet [] [] 0) else none else none) else none else none) else none else none else if 0 ≤ j1 then if j1 ≤ (↑j0.size : Int) then some (.ret (.tup [.agg [.int .i64 1,.str (j0.extract 0 j1.toNat),.int .i64 0],.int .i64 j1,.bool true]),lcRet [] [] 0) else none else none := by kernel_rfl
theorem dossierref08_word.top (n : Nat) (s : ByteArray) : callX false (fnF cx_dossierref08_word noCalls n 46) ([.str s]) (lcSt [] 0) out = if (0 : Int) < (↑s.size : Int) then ((Q.dossierref08_digit.f (bt s (0 : Int))).bind fun v0 => if v0 = true then ((lim fun k => Q.dossierref08_integer.f k s).bind fun v1 => some (.ret (.tup [.agg [.int .i64 v1.1,.str v1.2.1,.int .i64 v1.2.2.1],.int .i64 v1.2.2.2.1,.bool v1.2.2.2.2]),lcRet [] [] 0)) else if (0 : Int) < (↑s.size : Int) then if (bt s (0 : Int) == 34) = true then ((lim fun k => Q.dossierref08_text.f k s).bind fun v2 => some (.ret (.tup [.agg [.int .i64 v2.1,.str v2.2.1,.int .i64 v2.2.2.1],.int .i64 v2.2.2.2.1,.bool v2.2.2.2.2]),lcRet [] [] 0)) else if (0 : Int) < (↑s.size : Int) then ((Q.dossierref08_letter.f (bt s (0 : Int))).bind fun v3 => if (!v3) = true then ((lim fun k => Q.dossierref08_sign.f k s).bind fun v4 => some (.ret (.tup [.agg [.int .i64 v4.1,.str v4.2.1,.int .i64 v4.2.2.1],.int .i64 v4.2.2.2.1,.bool v4.2.2.2.2]),lcRet [] [] 0)) else (dossierref08_word.L1 n n s s 1 0 (ByteArray.mk #[]) 0)) else none else none) else none := by kernel_rfl
noncomputable def chars_Wrong.L0 (n k0 : Nat) (b j0 : List Int) (j1 : Int) : Option (Rr U0) := loopF cx_chars_Wrong noCalls k0 0 ([(0,false),(3,false)]) ((siteC (Tryz.f115.body.getD .skip) [1,0,1,0]).getD .skip) (siteK cx_chars_Wrong noCalls n [] (Tryz.f115.body.getD .skip) [1,0,1,0] (bodyK cx_chars_Wrong Tryz.f115 (lcSt [] 0) (callK false [] [] (lcSt [] 0) out))) (St.mk [(0,.sl (.int .u8) j0 .no),(3,.int .i64 j1)] [] [] 0 0 0 0 0 115 [] 28)
theorem chars_Wrong.L0_s (n k0 : Nat) (b j0 : List Int) (j1 : Int) : chars_Wrong.L0 n (k0 + 1) b j0 j1 = if decide (j1 < (↑j0.length : Int)) = true then if 0 ≤ j1 then if j1 ≤ (↑j0.length : Int) then ((Q.chars_Decode.f (List.drop j1.toNat j0)).bind fun v0 => if (v0.2 == 0) = true then some (.ret (.int .i64 j1),lcRet [] [] 0) else ((lim fun k => Q.chars_ofXML.f k v0.1).bind fun v1 => if (if false = true then true else !v1) = true then some (.ret (.int .i64 j1),lcRet [] [] 0) else (chars_Wrong.L0 n k0 b j0 (i64.wrap (j1 + v0.2))))) else none else none else some (.ret (.int .i64 (-1 : Int)),lcRet [] [] 0) := by kernel_rfl
theorem chars_Wrong.top (n : Nat) (b : List Int) : callX false (fnF cx_chars_Wrong noCalls n 115) ([.sl (.int .u8) b .no]) (lcSt [] 0) out = (chars_Wrong.L0 n n b b 0) := by kernel_rfl
noncomputable def lexer_Words.L0 (n k0 : Nat) (s j0 : ByteArray) (j1 : List (Ty.den U0 W)) (j2 : ByteArray) : Option (Rr U0) := loopF cx_lexer_Words noCalls k0 0 ([(0,false),(5,true),(6,false)]) ((siteC (Tryz.f22.body.getD .skip) [1,1,1,0,1,0]).getD .skip) (siteK cx_lexer_Words noCalls n [] (Tryz.f22.body.getD .skip) [1,1,1,0,1,0] (bodyK cx_lexer_Words Tryz.f22 (lcSt [] 0) (callK false [] [] (lcSt [] 0) out))) (St.mk [(0,.str j0),(5,.sl W j1 (Perm.tok 0)),(6,.str j2)] [] [0] 1 0 0 0 0 22 [] 41)
theorem lexer_Words.L0_s (n k0 : Nat) (s j0 : ByteArray) (j1 : List (Ty.den U0 W)) (j2 : ByteArray) : lexer_Words.L0 n (k0 + 1) s j0 j1 j2 = if (!seq j2 (ByteArray.mk #[])) = true then ((lim fun k => Q.lexer_word.f k j2).bind fun v1 => if (v1.2.2.2 == 0) = true then some (.ret (.tup [.sl W [] .no,.int .i64 (i64.wrap ((↑j0.size : Int) - (↑j2.size : Int))),.int .i64 20]),lcRet [] [] 0) else if (j1.length + [(v1.1,v1.2.1,v1.2.2.1)].length) * 32 ≤ most then if 0 ≤ v1.2.2.2 then if v1.2.2.2 ≤ (↑j2.size : Int) then ((Q.strings_TrimLeft.f (j2.extract v1.2.2.2.toNat j2.size) (ByteArray.mk #[32,9,10,13])).bind fun v2 => (lexer_Words.L0 n k0 s j0 (j1 ++ [(v1.1,v1.2.1,v1.2.2.1)]) v2)) else none else none else none) else if (j1.length + [((0 : Int),ByteArray.mk #[],(0 : Int))].length) * 32 ≤ most then some (.ret (.tup [.sl W (j1 ++ [((0 : Int),ByteArray.mk #[],(0 : Int))]) .no,.int .i64 0,.int .i64 0]),lcRet [] [] 0) else none := by kernel_rfl
theorem lexer_Words.top (n : Nat) (s : ByteArray) : callX false (fnF cx_lexer_Words noCalls n 22) ([.str s]) (lcSt [] 0) out = if decide ((↑s.size : Int) > 400) = true then some (.ret (.tup [.sl W [] .no,.int .i64 0,.int .i64 4]),lcRet [] [] 0) else ((Q.strings_TrimLeft.f s (ByteArray.mk #[32,9,10,13])).bind fun v0 => (lexer_Words.L0 n n s s [] v0)) := by kernel_rfl
noncomputable def dossierref01_Number.L0 (n k0 : Nat) (s j0 j1 : ByteArray) (j2 j3 : Int) : Option (Rr U0) := loopF cx_dossierref01_Number noCalls k0 0 ([(0,false),(4,false),(33,false),(34,false)]) ((siteC (Tryz.f122.body.getD .skip) [1,1,1,1,0,1,0]).getD .skip) (siteK cx_dossierref01_Number noCalls n [] (Tryz.f122.body.getD .skip) [1,1,1,1,0,1,0] (bodyK cx_dossierref01_Number Tryz.f122 (lcSt [] 0) (callK false [] [] (lcSt [] 0) out))) (St.mk [(0,.str j0),(4,.str j1),(33,.int .i64 j2),(34,.int .i64 j3)] [] [] 0 0 0 0 0 122 [] 77)
noncomputable def dossierref01_Number.L1 (n k0 : Nat) (s j0 j1 : ByteArray) (j2 j3 j4 : Int) : Option (Rr U0) := loopF cx_dossierref01_Number noCalls k0 0 ([(0,false),(4,false),(6,false),(52,false),(53,false)]) ((siteC (Tryz.f122.body.getD .skip) [1,1,1,1,1,1,1,0,1,0]).getD .skip) (siteK cx_dossierref01_Number noCalls n [] (Tryz.f122.body.getD .skip) [1,1,1,1,1,1,1,0,1,0] (bodyK cx_dossierref01_Number Tryz.f122 (lcSt [] 0) (callK false [] [] (lcSt [] 0) out))) (St.mk [(0,.str j0),(4,.str j1),(6,.int .i64 j2),(52,.int .i64 j3),(53,.int .i64 j4)] [] [] 0 0 0 0 0 122 [] 77)
theorem dossierref01_Number.L0_s (n k0 : Nat) (s j0 j1 : ByteArray) (j2 j3 : Int) : dossierref01_Number.L0 n (k0 + 1) s j0 j1 j2 j3 = if decide (j3 < j2) = true then if 0 ≤ j3 then if j3 < (↑j1.size : Int) then if decide (bt j1 j3 < 48) = true then some (.ret (.tup [.int .i64 0,.int .i64 5]),lcRet [] [] 0) else if 0 ≤ j3 then if j3 < (↑j1.size : Int) then if (if false = true then true else decide (bt j1 j3 > 57)) = true then some (.ret (.tup [.int .i64 0,.int .i64 5]),lcRet [] [] 0) else (dossierref01_Number.L0 n k0 s j0 j1 j2 (i64.wrap (j3 + 1))) else none else none else none else none else if decide ((↑j1.size : Int) > 19) = true then some (.ret (.tup [.int .i64 0,.int .i64 4]),lcRet [] [] 0) else (dossierref01_Number.L1 n n s j0 j1 0 ((↑j1.size : Int)) 0) := by kernel_rfl
theorem dossierref01_Number.L1_s (n k0 : Nat) (s j0 j1 : ByteArray) (j2 j3 j4 : Int) : dossierref01_Number.L1 n (k0 + 1) s j0 j1 j2 j3 j4 = if decide (j4 < j3) = true then if 0 ≤ j4 then if j4 < (↑j1.size : Int) then (dossierref01_Number.L1 n k0 s j0 j1 (i64.wrap (i64.wrap ((10 : Int) * j2) - i64.wrap (u8.wrap (bt j1 j4 - 48)))) j3 (i64.wrap (j4 + 1))) else none else none else if ((↑j1.size : Int) == (↑j0.size : Int)) = true then ((lim fun k => Q.dossierref01_Text.f k (i64.wrap ((0 : Int) - j2))).bind fun v0 => if (!seq v0 j0) = true then some (.ret (.tup [.int .i64 0,.int .i64 4]),lcRet [] [] 0) else some (.ret (.tup [.int .i64 (i64.wrap ((0 : Int) - j2)),.int .i64 0]),lcRet [] [] 0)) else ((lim fun k => Q.dossierref01_Text.f k j2).bind fun v1 => if (!seq v1 j0) = true then some (.ret (.tup [.int .i64 0,.int .i64 4]),lcRet [] [] 0) else some (.ret (.tup [.int .i64 j2,.int .i64 0]),lcRet [] [] 0)) := by kernel_rfl
theorem dossierref01_Number.top (n : Nat) (s : ByteArray) : callX false (fnF cx_dossierref01_Number noCalls n 122) ([.str s]) (lcSt [] 0) out = if decide ((↑s.size : Int) > 0) = true then if (0 : Int) < (↑s.size : Int) then if (if true = true then bt s (0 : Int) == 45 else false) = true then if (1 : Int) ≤ (↑s.size : Int) then if ((↑(s.extract (Int.toNat (1 : Int)) s.size).size : Int) == 0) = true then some (.ret (.tup [.int .i64 0,.int .i64 5]),lcRet [] [] 0) else if (0 : Int) < (↑(s.extract (Int.toNat (1 : Int)) s.size).size : Int) then if (if false = true then true else if (bt (s.extract (Int.toNat (1 : Int)) s.size) (0 : Int) == 48) = true then decide ((↑s.size : Int) > 1) else false) = true then some (.ret (.tup [.int .i64 0,.int .i64 5]),lcRet [] [] 0) else (dossierref01_Number.L0 n n s s (s.extract (Int.toNat (1 : Int)) s.size) ((↑(s.extract (Int.toNat (1 : Int)) s.size).size : Int)) 0) else none else none else if ((↑s.size : Int) == 0) = true then some (.ret (.tup [.int .i64 0,.int .i64 5]),lcRet [] [] 0) else if (0 : Int) < (↑s.size : Int) then if (if false = true then true else if (bt s (0 : Int) == 48) = true then decide ((↑s.size : Int) > 1) else false) = true then some (.ret (.tup [.int .i64 0,.int .i64 5]),lcRet [] [] 0) else (dossierref01_Number.L0 n n s s s ((↑s.size : Int)) 0) else none else none else if ((↑s.size : Int) == 0) = true then some (.ret (.tup [.int .i64 0,.int .i64 5]),lcRet [] [] 0) else if (0 : Int) < (↑s.size : Int) then if (if false = true then true else if (bt s (0 : Int) == 48) = true then decide ((↑s.size : Int) > 1) else false) = true then some (.ret (.tup [.int .i64 0,.int .i64 5]),lcRet [] [] 0) else (dossierref01_Number.L0 n n s s s ((↑s.size : Int)) 0) else none := by kernel_rfl
noncomputable def dossierref08_Words.L0 (n k0 : Nat) (s j0 : ByteArray) (j1 : List (Ty.den U0 W)) (j2 : Int) : Option (Rr U0) := loopF cx_dossierref08_Words noCalls k0 0 ([(0,false),(5,true),(6,false)]) ((siteC (Tryz.f29.body.getD .skip) [1,1,1,0,1,0]).getD .skip) (siteK cx_dossierref08_Words noCalls n [] (Tryz.f29.body.getD .skip) [1,1,1,0,1,0] (bodyK cx_dossierref08_Words Tryz.f29 (lcSt [] 0) (callK false [] [] (lcSt [] 0) out))) (St.mk [(0,.str j0),(5,.sl W j1 (Perm.tok 0)),(6,.int .i64 j2)] [] [0] 1 0 0 0 0 29 [] 46)
theorem dossierref08_Words.L0_s (n k0 : Nat) (s j0 : ByteArray) (j1 : List (Ty.den U0 W)) (j2 : Int) : dossierref08_Words.L0 n (k0 + 1) s j0 j1 j2 = if decide (j2 < (↑j0.size : Int)) = true then if 0 ≤ j2 then if j2 < (↑j0.size : Int) then ((Q.dossierref01_Space.f (i64.wrap (bt j0 j2))).bind fun v0 => if v0 = true then (dossierref08_Words.L0 n k0 s j0 j1 (i64.wrap (j2 + 1))) else if 0 ≤ j2 then if j2 ≤ (↑j0.size : Int) then ((lim fun k => Q.dossierref08_word.f k (j0.extract j2.toNat j0.size)).bind fun v1 => if (!v1.2.2.2.2) = true then some (.ret (.tup [.sl W [] .no,.int .i64 j2,.int .i64 20]),lcRet [] [] 0) else if (j1.length + [(v1.1,v1.2.1,v1.2.2.1)].length) * 32 ≤ most then (dossierref08_Words.L0 n k0 s j0 (j1 ++ [(v1.1,v1.2.1,v1.2.2.1)]) (i64.wrap (j2 + v1.2.2.2.1))) else none) else none else none) else none else none else if (j1.length + [((0 : Int),ByteArray.mk #[],(0 : Int))].length) * 32 ≤ most then some (.ret (.tup [.sl W (j1 ++ [((0 : Int),ByteArray.mk #[],(0 : Int))]) .no,.int .i64 0,.int .i64 0]),lcRet [] [] 0) else none := by kernel_rfl
theorem dossierref08_Words.top (n : Nat) (s : ByteArray) : callX false (fnF cx_dossierref08_Words noCalls n 29) ([.str s]) (lcSt [] 0) out = if decide ((↑s.size : Int) > 400) = true then some (.ret (.tup [.sl W [] .no,.int .i64 0,.int .i64 4]),lcRet [] [] 0) else (dossierref08_Words.L0 n n s s [] 0) := by kernel_rfl
noncomputable def chars_Number.L0 (n k0 : Nat) (s : ByteArray) (j0 : Bool) (j1 : Int) (j2 : Bool) (j3 : List Int) (j4 j5 : Int) : Option (Rr U0) := loopF cx_chars_Number noCalls k0 0 ([(4,false),(6,false),(7,false),(39,false),(40,false),(41,false)]) ((siteC (Tryz.f70.body.getD .skip) [1,1,1,1,1,1,1,0,1,0]).getD .skip) (siteK cx_chars_Number noCalls n [] (Tryz.f70.body.getD .skip) [1,1,1,1,1,1,1,0,1,0] (bodyK cx_chars_Number Tryz.f70 (lcSt [] 0) (callK false [] [] (lcSt [] 0) out))) (St.mk [(4,.bool j0),(6,.int .u64 j1),(7,.bool j2),(39,.sl (.int .u8) j3 .no),(40,.int .i64 j4),(41,.int .i64 j5)] [] [] 0 0 0 0 0 70 [] 78)
theorem chars_Number.L0_s (n k0 : Nat) (s : ByteArray) (j0 : Bool) (j1 : Int) (j2 : Bool) (j3 : List Int) (j4 j5 : Int) : chars_Number.L0 n (k0 + 1) s j0 j1 j2 j3 j4 j5 = if decide (j5 < j4) = true then if 0 ≤ j5 then ((nth j3 j5.toNat).bind fun v0 => if (if decide (v0 < 48) = true then true else decide (v0 > 57)) = true then some (.ret (.tup [.int .i64 0,.int .i64 5]),lcRet [] [] 0) else if (!j2) = true then (chars_Number.L0 n k0 s j0 (u64.wrap (u64.wrap ((10 : Int) * j1) + u64.wrap (u8.wrap (v0 - 48)))) j2 j3 j4 (i64.wrap (j5 + 1))) else (chars_Number.L0 n k0 s j0 j1 j2 j3 j4 (i64.wrap (j5 + 1)))) else none else if (!j0) = true then if (if j2 = true then true else decide (j1 > 9223372036854775807)) = true then some (.ret (.tup [.int .i64 0,.int .i64 4]),lcRet [] [] 0) else if j0 = true then some (.ret (.tup [.int .i64 (i64.wrap ((0 : Int) - i64.wrap j1)),.int .i64 0]),lcRet [] [] 0) else some (.ret (.tup [.int .i64 (i64.wrap j1),.int .i64 0]),lcRet [] [] 0) else if (if j2 = true then true else decide (j1 > 9223372036854775808)) = true then some (.ret (.tup [.int .i64 0,.int .i64 4]),lcRet [] [] 0) else if j0 = true then some (.ret (.tup [.int .i64 (i64.wrap ((0 : Int) - i64.wrap j1)),.int .i64 0]),lcRet [] [] 0) else some (.ret (.tup [.int .i64 (i64.wrap j1),.int .i64 0]),lcRet [] [] 0) := by kernel_rfl
theorem chars_Number.top (n : Nat) (s : ByteArray) : callX false (fnF cx_chars_Number noCalls n 70) ([.str s]) (lcSt [] 0) out = if decide ((↑s.size : Int) > 0) = true then if (0 : Int) < (↑s.size : Int) then if (if true = true then bt s (0 : Int) == 45 else false) = true then if (1 : Int) ≤ (↑s.size : Int) then if seq (s.extract (Int.toNat (1 : Int)) s.size) (ByteArray.mk #[]) = true then some (.ret (.tup [.int .i64 0,.int .i64 5]),lcRet [] [] 0) else if (0 : Int) < (↑(s.extract (Int.toNat (1 : Int)) s.size).size : Int) then if (if false = true then true else if (bt (s.extract (Int.toNat (1 : Int)) s.size) (0 : Int) == 48) = true then decide ((↑s.size : Int) > 1) else false) = true then some (.ret (.tup [.int .i64 0,.int .i64 5]),lcRet [] [] 0) else (chars_Number.L0 n n s (if true = true then bt s (0 : Int) == 45 else false) 0 (decide ((↑(s.extract (Int.toNat (1 : Int)) s.size).size : Int) > 19)) (toBytes (s.extract (Int.toNat (1 : Int)) s.size)) ((↑(toBytes (s.extract (Int.toNat (1 : Int)) s.size)).length : Int)) 0) else none else none else if seq s (ByteArray.mk #[]) = true then some (.ret (.tup [.int .i64 0,.int .i64 5]),lcRet [] [] 0) else if (0 : Int) < (↑s.size : Int) then if (if false = true then true else if (bt s (0 : Int) == 48) = true then decide ((↑s.size : Int) > 1) else false) = true then some (.ret (.tup [.int .i64 0,.int .i64 5]),lcRet [] [] 0) else (chars_Number.L0 n n s (if true = true then bt s (0 : Int) == 45 else false) 0 (decide ((↑s.size : Int) > 19)) (toBytes s) ((↑(toBytes s).length : Int)) 0) else none else none else if seq s (ByteArray.mk #[]) = true then some (.ret (.tup [.int .i64 0,.int .i64 5]),lcRet [] [] 0) else if (0 : Int) < (↑s.size : Int) then if (if false = true then true else if (bt s (0 : Int) == 48) = true then decide ((↑s.size : Int) > 1) else false) = true then some (.ret (.tup [.int .i64 0,.int .i64 5]),lcRet [] [] 0) else (chars_Number.L0 n n s false 0 (decide ((↑s.size : Int) > 19)) (toBytes s) ((↑(toBytes s).length : Int)) 0) else none := by kernel_rfl
theorem dossierref01_Space.top (n : Nat) (r : Int) : callX false (fnF cx_dossierref01_Space noCalls n 45) ([.int .i64 r]) (lcSt [] 0) out = some (.ret (.bool (if (if (if (r == 9) = true then true else r == 10) = true then true else r == 13) = true then true else r == 32)),lcRet [] [] 0) := by kernel_rfl
theorem dossierref08_digit.top (n : Nat) (x : Int) : callX false (fnF cx_dossierref08_digit noCalls n 91) ([.int .u8 x]) (lcSt [] 0) out = some (.ret (.bool (if decide (x ≥ 48) = true then decide (x ≤ 57) else false)),lcRet [] [] 0) := by kernel_rfl
theorem lexer_is.top (n : Nat) (x : Int) (s : ByteArray) : callX false (fnF cx_lexer_is noCalls n 68) ([.int .u8 x,.str s]) (lcSt [] 0) out = ((Q.strings_IndexByte.f s x).bind fun v0 => some (.ret (.bool (decide (v0 ≥ 0))),lcRet [] [] 0)) := by kernel_rfl
theorem dossierref01_Encode.top (n : Nat) (r : Int) : callX false (fnF cx_dossierref01_Encode noCalls n 153) ([.int .i64 r]) (lcSt [] 0) out = if (if (if decide (r < 0) = true then true else decide (r > 1114111)) = true then true else if decide (r ≥ 55296) = true then decide (r ≤ 57343) else false) = true then some (.ret (.sl (.int .u8) [] .no),lcRet [] [] 0) else if decide (r < 128) = true then some (.ret (.sl (.int .u8) [u8.wrap r] .no),lcRet [] [] 0) else if decide (r < 2048) = true then some (.ret (.sl (.int .u8) [u8.wrap (i64.wrap ((192 : Int) + r.fdiv ((2 : Int) ^ min (Int.toNat (6 : Int)) IntKind.i64.bits))),u8.wrap (i64.wrap ((128 : Int) + r.tmod (64 : Int)))] .no),lcRet [] [] 0) else if decide (r < 65536) = true then some (.ret (.sl (.int .u8) [u8.wrap (i64.wrap ((224 : Int) + r.fdiv ((2 : Int) ^ min (Int.toNat (12 : Int)) IntKind.i64.bits))),u8.wrap (i64.wrap ((128 : Int) + (r.fdiv ((2 : Int) ^ min (Int.toNat (6 : Int)) IntKind.i64.bits)).tmod (64 : Int))),u8.wrap (i64.wrap ((128 : Int) + r.tmod (64 : Int)))] .no),lcRet [] [] 0) else some (.ret (.sl (.int .u8) [u8.wrap (i64.wrap ((240 : Int) + r.fdiv ((2 : Int) ^ min (Int.toNat (18 : Int)) IntKind.i64.bits))),u8.wrap (i64.wrap ((128 : Int) + (r.fdiv ((2 : Int) ^ min (Int.toNat (12 : Int)) IntKind.i64.bits)).tmod (64 : Int))),u8.wrap (i64.wrap ((128 : Int) + (r.fdiv ((2 : Int) ^ min (Int.toNat (6 : Int)) IntKind.i64.bits)).tmod (64 : Int))),u8.wrap (i64.wrap ((128 : Int) + r.tmod (64 : Int)))] .no),lcRet [] [] 0) := by kernel_rfl
theorem dossierref08_letter.top (n : Nat) (x : Int) : callX false (fnF cx_dossierref08_letter noCalls n 94) ([.int .u8 x]) (lcSt [] 0) out = some (.ret (.bool (if (if (if decide (x ≥ 65) = true then decide (x ≤ 90) else false) = true then true else if decide (x ≥ 97) = true then decide (x ≤ 122) else false) = true then true else x == 95)),lcRet [] [] 0) := by kernel_rfl
noncomputable def lexer_run.L0 (n k0 : Nat) (s t j0 j1 : ByteArray) (j2 : Int) : Option (Rr U0) := loopF cx_lexer_run noCalls k0 0 ([(0,false),(1,false),(5,false)]) ((siteC (Tryz.f69.body.getD .skip) [1,1,0,0]).getD .skip) (siteK cx_lexer_run noCalls n [] (Tryz.f69.body.getD .skip) [1,1,0,0] (bodyK cx_lexer_run Tryz.f69 (lcSt [] 0) (callK false [] [] (lcSt [] 0) out))) (St.mk [(0,.str j0),(1,.str j1),(5,.int .i64 j2)] [] [] 0 0 0 0 0 69 [] 22)
theorem lexer_run.L0_s (n k0 : Nat) (s t j0 j1 : ByteArray) (j2 : Int) : lexer_run.L0 n (k0 + 1) s t j0 j1 j2 = if decide (j2 < (↑j0.size : Int)) = true then if 0 ≤ j2 then if j2 < (↑j0.size : Int) then ((Q.lexer_is.f (bt j0 j2) j1).bind fun v0 => if (if true = true then v0 else false) = true then (lexer_run.L0 n k0 s t j0 j1 (i64.wrap (j2 + 1))) else if 0 ≤ j2 then if j2 ≤ (↑j0.size : Int) then some (.ret (.str (j0.extract 0 j2.toNat)),lcRet [] [] 0) else none else none) else none else none else if 0 ≤ j2 then if j2 ≤ (↑j0.size : Int) then some (.ret (.str (j0.extract 0 j2.toNat)),lcRet [] [] 0) else none else none := by kernel_rfl
theorem lexer_run.top (n : Nat) (s t : ByteArray) : callX false (fnF cx_lexer_run noCalls n 69) ([.str s,.str t]) (lcSt [] 0) out = (lexer_run.L0 n n s t s t 0) := by kernel_rfl
noncomputable def dossierref01_Decode.L0 (n k0 : Nat) (b j0 : List Int) (j1 j2 : Int) (j3 : List (Ty.den U0 (.int .u8))) (j4 j5 : Int) : Option (Rr U0) := loopF cx_dossierref01_Decode noCalls k0 0 ([(0,false),(4,false),(5,false),(51,false),(52,false),(53,false)]) ((siteC (Tryz.f123.body.getD .skip) [1,1,1,1,1,0,1,0]).getD .skip) (siteK cx_dossierref01_Decode noCalls n [] (Tryz.f123.body.getD .skip) [1,1,1,1,1,0,1,0] (bodyK cx_dossierref01_Decode Tryz.f123 (lcSt [] 0) (callK false [] [] (lcSt [] 0) out))) (St.mk [(0,.sl (.int .u8) j0 .no),(4,.int .i64 j1),(5,.int .i64 j2),(51,.sl (.int .u8) j3 .no),(52,.int .i64 j4),(53,.int .i64 j5)] [] [] 0 0 0 0 0 123 [] 80)
theorem dossierref01_Decode.L0_s (n k0 : Nat) (b j0 : List Int) (j1 j2 : Int) (j3 : List (Ty.den U0 (.int .u8))) (j4 j5 : Int) : dossierref01_Decode.L0 n (k0 + 1) b j0 j1 j2 j3 j4 j5 = if decide (j5 < j4) = true then if 0 ≤ j5 then ((nth j3 j5.toNat).bind fun v3 => if (if decide (v3 < 128) = true then true else decide (v3 > 191)) = true then some (.ret (.tup [.int .i64 0,.int .i64 0]),lcRet [] [] 0) else (dossierref01_Decode.L0 n k0 b j0 j1 (i64.wrap (i64.wrap (i64.wrap (j2 * (64 : Int)) + i64.wrap v3) - 128)) j3 j4 (i64.wrap (j5 + 1)))) else none else if 0 ≤ j1 then if j1 ≤ (↑j0.length : Int) then ((lim fun k => Q.dossierref01_Encode.f k j2).bind fun v4 => if (!seq (ofBytes v4) (ofBytes (List.take j1.toNat j0))) = true then some (.ret (.tup [.int .i64 0,.int .i64 0]),lcRet [] [] 0) else some (.ret (.tup [.int .i64 j2,.int .i64 j1]),lcRet [] [] 0)) else none else none := by kernel_rfl
theorem dossierref01_Decode.top (n : Nat) (b : List Int) : callX false (fnF cx_dossierref01_Decode noCalls n 123) ([.sl (.int .u8) b .no]) (lcSt [] 0) out = if ((↑b.length : Int) == 0) = true then some (.ret (.tup [.int .i64 0,.int .i64 0]),lcRet [] [] 0) else ((nth b (Int.toNat (0 : Int))).bind fun v0 => ((nth b (Int.toNat (0 : Int))).bind fun v1 => if decide (v1 ≥ 240) = true then ((nth b (Int.toNat (0 : Int))).bind fun v2 => if decide ((4 : Int) > (↑b.length : Int)) = true then some (.ret (.tup [.int .i64 0,.int .i64 0]),lcRet [] [] 0) else if (4 : Int) ≤ (↑b.length : Int) then (dossierref01_Decode.L0 n n b b 4 (i64.wrap (i64.wrap v2 - 240)) (List.drop (Int.toNat (1 : Int)) (List.take (Int.toNat (4 : Int)) b)) ((↑(List.drop (Int.toNat (1 : Int)) (List.take (Int.toNat (4 : Int)) b)).length : Int)) 0) else none) else ((nth b (Int.toNat (0 : Int))).bind fun v5 => if decide (v5 ≥ 224) = true then ((nth b (Int.toNat (0 : Int))).bind fun v6 => if decide ((3 : Int) > (↑b.length : Int)) = true then some (.ret (.tup [.int .i64 0,.int .i64 0]),lcRet [] [] 0) else if (3 : Int) ≤ (↑b.length : Int) then (dossierref01_Decode.L0 n n b b 3 (i64.wrap (i64.wrap v6 - 224)) (List.drop (Int.toNat (1 : Int)) (List.take (Int.toNat (3 : Int)) b)) ((↑(List.drop (Int.toNat (1 : Int)) (List.take (Int.toNat (3 : Int)) b)).length : Int)) 0) else none) else ((nth b (Int.toNat (0 : Int))).bind fun v7 => if decide (v7 ≥ 192) = true then ((nth b (Int.toNat (0 : Int))).bind fun v8 => if decide ((2 : Int) > (↑b.length : Int)) = true then some (.ret (.tup [.int .i64 0,.int .i64 0]),lcRet [] [] 0) else if (2 : Int) ≤ (↑b.length : Int) then (dossierref01_Decode.L0 n n b b 2 (i64.wrap (i64.wrap v8 - 192)) (List.drop (Int.toNat (1 : Int)) (List.take (Int.toNat (2 : Int)) b)) ((↑(List.drop (Int.toNat (1 : Int)) (List.take (Int.toNat (2 : Int)) b)).length : Int)) 0) else none) else if decide ((1 : Int) > (↑b.length : Int)) = true then some (.ret (.tup [.int .i64 0,.int .i64 0]),lcRet [] [] 0) else if (1 : Int) ≤ (↑b.length : Int) then (dossierref01_Decode.L0 n n b b 1 (i64.wrap v0) (List.drop (Int.toNat (1 : Int)) (List.take (Int.toNat (1 : Int)) b)) ((↑(List.drop (Int.toNat (1 : Int)) (List.take (Int.toNat (1 : Int)) b)).length : Int)) 0) else none)))) := by kernel_rfl
noncomputable def dossierref08_integer.L1 (n k0 : Nat) (s j0 : ByteArray) (j1 j2 : Int) (j3 : ByteArray) (j4 : Int) : Option (Rr U0) := loopF cx_dossierref08_integer noCalls k0 (1) ([(0,false),(2,false),(5,false)]) ((siteC (Tryz.f92.body.getD .skip) [1,1,0,0]).getD .skip) (siteK cx_dossierref08_integer noCalls n [] (Tryz.f92.body.getD .skip) [1,1,0,0] (bodyK cx_dossierref08_integer Tryz.f92 (lcSt [] 0) (callK false [] [] (lcSt [] 0) out))) (St.mk [(0,.str j0),(2,.ptr 0 0),(5,.int .i64 j1)] [[.int .i64 j2,.str j3,.int .i64 j4]] [] 0 0 0 0 0 92 [] 32)
theorem dossierref08_integer.L1_s (n k0 : Nat) (s j0 : ByteArray) (j1 j2 : Int) (j3 : ByteArray) (j4 : Int) : dossierref08_integer.L1 n (k0 + 1) s j0 j1 j2 j3 j4 = if decide (j1 < (↑j0.size : Int)) = true then if 0 ≤ j1 then if j1 < (↑j0.size : Int) then ((Q.dossierref08_digit.f (bt j0 j1)).bind fun v1 => if (if true = true then v1 else false) = true then (dossierref08_integer.L1 n k0 s j0 (i64.wrap (j1 + 1)) j2 j3 j4) else if 0 ≤ j1 then if j1 ≤ (↑j0.size : Int) then ((lim fun k => Q.dossierref01_Number.f k (j0.extract 0 j1.toNat)).bind fun v2 => some (.ret (.tup [.agg [.int .i64 2,.str ⟨#[]⟩,.int .i64 v2.1],.int .i64 j1,.bool (v2.2 == 0)]),lcRet [] [] 0)) else none else none) else none else none else if 0 ≤ j1 then if j1 ≤ (↑j0.size : Int) then ((lim fun k => Q.dossierref01_Number.f k (j0.extract 0 j1.toNat)).bind fun v3 => some (.ret (.tup [.agg [.int .i64 2,.str ⟨#[]⟩,.int .i64 v3.1],.int .i64 j1,.bool (v3.2 == 0)]),lcRet [] [] 0)) else none else none := by kernel_rfl
theorem dossierref08_integer.top (n : Nat) (s : ByteArray) : callX false (fnF cx_dossierref08_integer noCalls n 92) ([.str s]) (lcSt [] 0) out = (dossierref08_integer.L1 n n s s 0 0 (ByteArray.mk #[]) 0) := by kernel_rfl
end Go.Proofs.YtbcpnpbkbndkjaaGreatDoor.Ev
end
section
/- The evaluator's trees are the functions that were printed: characters, words. -/
set_option linter.unusedVariables false
set_option linter.unusedSimpArgs false
namespace Go.Proofs.YtbcpnpbkbndkjaaGreatDoor.Ev
open Go Go.RowKit Go.Proofs.YtbcpnpbkbndkjaaGreatDoorW.PrintWords
theorem chars_Decode.ok : AllOk specs_chars_Decode := okS (cx := cx_chars_Decode) rfl lib_ok (by kernel_rfl) fun args cs n K r g => by
 unfold chars_Decode.spec at g
 dsimp only [lcSt] at g
 split at g
 · rename_i b
   obtain ⟨v,h,h2⟩ := bind2 g
   clear g
   refine okG h2 ?_
   clear h2
   refine ⟨0,?_⟩
   rw [chars_Decode.top]
   unfold Q.chars_Decode.f at h
   simp only [ite_or,ite_and,seq_list,wrap_64,ba_list,decide_eq_true_eq,beq_iff_eq] at h ⊢
   grind [→ bindE]
 · cases g
theorem chars_in.l_ev (n : Nat) (r : Int) (l0 : List (Int × Int)) : ∀ (k m : Nat) (x : Int) (l : List (Int × Int)) (c i : Int) (v : Bool),k ≤ m → Q.chars_in.l0 k x (l.map fun p => ⟨p.1,p.2⟩) c i = some v → chars_in.L0 n m r l0 x l c i = some (.ret (.bool v),lcRet [] [] 0) := by
 intro k
 induction k with
 | zero => intro m x l c i v _ h; simp [Q.chars_in.l0] at h
 | succ k ih =>
  intro m x l c i v hk h
  obtain ⟨m,rfl⟩ : ∃ m',m = m' + 1 := ⟨m - 1,by omega⟩
  rw [Q.chars_in.l0] at h
  rw [chars_in.L0_s]
  have hg : ∀ (i : Int),0 ≤ i → i < l.length → nth l i.toNat = some (l.getD i.toNat (0,0)) ∧ (Q.rd_T182 (l.map fun p => ⟨p.1,p.2⟩) i) = ⟨(l.getD i.toNat (0,0)).1,(l.getD i.toNat (0,0)).2⟩ := by
   intro i h0 h1
   have hlt : i.toNat < l.length := by omega
   rw [nth_get,List.getElem?_eq_getElem hlt]
   unfold Q.rd_T182
   rw [List.getD_eq_getElem?_getD,List.getD_eq_getElem?_getD,List.getElem?_map,List.getElem?_eq_getElem hlt]
   exact ⟨rfl,rfl⟩
  have hlen : (l.map fun p => (⟨p.1,p.2⟩ : Q.S182)).length = l.length := List.length_map _
  rw [hlen] at h
  simp only [ite_or,ite_and,seq_list,wrap_64,ba_list,decide_eq_true_eq,beq_iff_eq] at h ⊢
  grind [→ bindE]
theorem chars_in.ok : AllOk specs_chars_in := okS (cx := cx_chars_in) rfl chars_Decode.ok (by kernel_rfl) fun args cs n K r g => by
 unfold chars_in.spec at g
 dsimp only [lcSt] at g
 split at g
 · rename_i r l
   obtain ⟨v,h1,h2⟩ := bind2 g
   obtain ⟨k,hk,h⟩ := lim_some h1
   clear h1
   clear g
   refine okG h2 ?_
   clear h2
   refine ⟨k,?_⟩
   rw [chars_in.top]
   unfold Q.chars_in.f at h
   rw [List.length_map] at h
   exact chars_in.l_ev k r l k k r l _ 0 v (Nat.le_refl _) h
 · cases g
theorem chars_ofXML.ok : AllOk specs_chars_ofXML := okS (cx := cx_chars_ofXML) rfl chars_in.ok (by kernel_rfl) fun args cs n K r g => by
 unfold chars_ofXML.spec at g
 dsimp only [lcSt] at g
 split at g
 · rename_i r
   obtain ⟨v,h1,h2⟩ := bind2 g
   obtain ⟨k,hk,h⟩ := lim_some h1
   clear h1
   clear g
   refine okG h2 ?_
   clear h2
   refine ⟨0,?_⟩
   rw [chars_ofXML.top]
   unfold Q.chars_ofXML.f at h
   obtain ⟨b,h1,h2⟩ := bind2 h
   obtain rfl := Option.some.inj h2
   have := lim_of (X := fun k => Q.chars_in.f k r [⟨32,55295⟩,⟨9,10⟩,⟨13,13⟩,⟨57344,65533⟩,⟨65536,1114111⟩]) (fun k => Q.chars_in.mono r _ k) hk h1
   simp only [List.map] 
   rw [this]
   rfl
 · cases g
theorem chars_Wrong.l_ev (n : Nat) (b : List Int) : ∀ (k m : Nat) (l : List Int) (i : Int) (v : Int),k ≤ 1000000 → k ≤ m → Q.chars_Wrong.l0 k l i = some v → chars_Wrong.L0 n m b l i = some (.ret (.int .i64 v),lcRet [] [] 0) := by
 intro k
 induction k with
 | zero => intro m l i v _ _ h; simp [Q.chars_Wrong.l0] at h
 | succ k ih =>
  intro m l i v hk0 hk h
  obtain ⟨m,rfl⟩ : ∃ m',m = m' + 1 := ⟨m - 1,by omega⟩
  rw [Q.chars_Wrong.l0] at h
  rw [chars_Wrong.L0_s]
  have hx : ∀ r v,Q.chars_ofXML.f k r = some v → lim (fun k => Q.chars_ofXML.f k r) = some v := fun r v h => lim_of (fun k => Q.chars_ofXML.mono r k) (by omega) h
  simp only [ite_or,ite_and,seq_list,wrap_64,ba_list,decide_eq_true_eq,beq_iff_eq] at h ⊢
  grind [→ bindE]
theorem chars_Wrong.ok : AllOk specs_chars_Wrong := okS (cx := cx_chars_Wrong) rfl chars_ofXML.ok (by kernel_rfl) fun args cs n K r g => by
 unfold chars_Wrong.spec at g
 dsimp only [lcSt] at g
 split at g
 · rename_i b
   obtain ⟨v,h1,h2⟩ := bind2 g
   obtain ⟨k,hk,h⟩ := lim_some h1
   clear h1
   clear g
   refine okG h2 ?_
   clear h2
   refine ⟨k,?_⟩
   rw [chars_Wrong.top]
   exact chars_Wrong.l_ev k b k k b 0 v hk (Nat.le_refl _) h
 · cases g
theorem chars_Number.l_ev (n : Nat) (s0 : ByteArray) : ∀ (k m : Nat) (x4 : Bool) (x6 : Int) (x7 : Bool) (s : ByteArray) (c i : Int) (v : Int × Int),k ≤ m → Q.chars_Number.l0 k x4 x6 x7 s c i = some v → c = s.size → chars_Number.L0 n m s0 x4 x6 x7 (toBytes s) c i = some (.ret (.tup [.int .i64 v.1,.int .i64 v.2]),lcRet [] [] 0) := by
 intro k
 induction k using Nat.strongRecOn with
 | _ k ih =>
  intro m x4 x6 x7 s c i v hk h hc
  rcases k with _ | k
  · simp [Q.chars_Number.l0] at h
  obtain ⟨m,rfl⟩ : ∃ m',m = m' + 1 := ⟨m - 1,by omega⟩
  rw [Q.chars_Number.l0] at h
  rw [chars_Number.L0_s]
  have hn := nth_bytes s i
  rcases k with _ | _ | k <;> simp only [Q.chars_Number.j4,Q.chars_Number.j5,Q.chars_Number.j6] at h <;> simp only [ite_or,ite_and,seq_list,wrap_64,wrap_8,wrap_u64_mod,ba_list,decide_eq_true_eq,beq_iff_eq,Bool.not_eq_true',Int.zero_sub] at h ⊢
  · grind [→ bindE,Q.chars_Number.l0]
  · grind [→ bindE,Q.chars_Number.l0]
  · have ih0 := ih (k + 1) (by omega) m
    grind [→ bindE]
theorem chars_Number.ok : AllOk specs_chars_Number := okS (cx := cx_chars_Number) rfl chars_Wrong.ok (by kernel_rfl) fun args cs n K r g => by
 unfold chars_Number.spec at g
 dsimp only [lcSt] at g
 split at g
 · rename_i s
   obtain ⟨v,h1,h2⟩ := bind2 g
   obtain ⟨k,hk,h⟩ := lim_some h1
   clear h1
   clear g
   refine okG h2 ?_
   clear h2
   refine ⟨k,?_⟩
   rw [chars_Number.top]
   have key := chars_Number.l_ev k s
   unfold Q.chars_Number.f at h
   have hx : (s.extract 1 s.size).size = s.size - 1 := by rw [ByteArray.size_extract]; omega
   rcases k with _ | _ | _ | k <;> simp only [Q.chars_Number.j0,Q.chars_Number.j1,Q.chars_Number.j2] at h <;> simp only [ite_or,ite_and,seq_list,wrap_64,wrap_8,ba_list,decide_eq_true_eq,beq_iff_eq,Bool.not_eq_true',toBytes_len,bt_eq] at h ⊢
   · grind
   · grind
   · grind
   · grind (splits := 20)
 · cases g
theorem lexer_is.ok : AllOk specs_lexer_is := okS (cx := cx_lexer_is) rfl chars_Number.ok (by kernel_rfl) fun args cs n K r g => by
 unfold lexer_is.spec at g
 dsimp only [lcSt] at g
 split at g
 · rename_i x s
   obtain ⟨v,h,h2⟩ := bind2 g
   clear g
   refine okG h2 ?_
   clear h2
   refine ⟨0,?_⟩
   rw [lexer_is.top]
   unfold Q.lexer_is.f at h
   grind [→ bindE]
 · cases g
theorem lexer_run.l_ev (n : Nat) (s0 t0 : ByteArray) : ∀ (k m : Nat) (s t : ByteArray) (i : Int) (v : ByteArray),k ≤ m → Q.lexer_run.l0 k s t i = some v → lexer_run.L0 n m s0 t0 s t i = some (.ret (.str v),lcRet [] [] 0) := by
 intro k
 induction k with
 | zero => intro m s t i v _ h; simp [Q.lexer_run.l0] at h
 | succ k ih =>
  intro m s t i v hk h
  obtain ⟨m,rfl⟩ : ∃ m',m = m' + 1 := ⟨m - 1,by omega⟩
  rw [Q.lexer_run.l0] at h
  rw [lexer_run.L0_s]
  simp only [ite_or,ite_and,false_or_b,true_and_b,seq_list,seq_false,wrap_64,wrap_8,wrap_u64_mod,ba_list,decide_eq_true_eq,beq_iff_eq,Bool.not_eq_true',Int.zero_sub,toBytes_len,bt_eq,shr_6,shr_12,shr_18,wrap64_mod,toNat0,toNat1,toNat2,most,List.length_cons,List.length_nil,ofBytes_eq] at h ⊢
  grind [→ bindE]
theorem lexer_run.ok : AllOk specs_lexer_run := okS (cx := cx_lexer_run) rfl lexer_is.ok (by kernel_rfl) fun args cs n K r g => by
 unfold lexer_run.spec at g
 dsimp only [lcSt] at g
 split at g
 · rename_i s t
   obtain ⟨v,h1,h2⟩ := bind2 g
   obtain ⟨k,hk,h⟩ := lim_some h1
   clear h1
   clear g
   refine okG h2 ?_
   clear h2
   refine ⟨k,?_⟩
   rw [lexer_run.top]
   exact lexer_run.l_ev k s t k k s t 0 v (Nat.le_refl _) h
 · cases g
theorem lexer_quoted.l_ev (n : Nat) (s0 : ByteArray) : ∀ (k m : Nat) (s : ByteArray) (l : List Int) (i : Int) (v : ByteArray × Int),k ≤ m → l.length + k ≤ 1000000 → Q.lexer_quoted.l0 k s l i = some v → lexer_quoted.L0 n m s0 s l i = some (.ret (.tup [.str v.1,.int .i64 v.2]),lcRet [] [] 0) := by
 intro k
 induction k using Nat.strongRecOn with
 | _ k ih =>
  intro m s l i v hk hl h
  rcases k with _ | k
  · simp [Q.lexer_quoted.l0] at h
  obtain ⟨m,rfl⟩ : ∃ m',m = m' + 1 := ⟨m - 1,by omega⟩
  rw [Q.lexer_quoted.l0] at h
  rw [lexer_quoted.L0_s]
  have hx : ∀ v,Q.chars_Wrong.f k l = some v → lim (fun k => Q.chars_Wrong.f k l) = some v := fun v h => lim_of (fun k => Q.chars_Wrong.mono l k) (by omega) h
  have ih0 := ih k (by omega) m
  have hla : ∀ x : Int,(l ++ [x]).length = l.length + 1 := by intro x; simp
  rcases k with _ | k <;> simp only [Q.lexer_quoted.j1] at h <;> simp only [ite_or,ite_and,false_or_b,true_and_b,seq_list,seq_false,wrap_64,wrap_8,wrap_u64_mod,ba_list,decide_eq_true_eq,beq_iff_eq,Bool.not_eq_true',Int.zero_sub,toBytes_len,bt_eq,shr_6,shr_12,shr_18,wrap64_mod,toNat0,toNat1,toNat2,most,List.length_cons,List.length_nil,ofBytes_eq] at h ⊢ <;> grind [→ bindE]
theorem lexer_quoted.ok : AllOk specs_lexer_quoted := okS (cx := cx_lexer_quoted) rfl lexer_run.ok (by kernel_rfl) fun args cs n K r g => by
 unfold lexer_quoted.spec at g
 dsimp only [lcSt] at g
 split at g
 · rename_i s
   obtain ⟨v,h1,h2⟩ := bind2 g
   obtain ⟨k,hk,h⟩ := lim_some h1
   clear h1
   clear g
   refine okG h2 ?_
   clear h2
   refine ⟨k,?_⟩
   rw [lexer_quoted.top]
   exact lexer_quoted.l_ev k s k k s [] 1 v (Nat.le_refl _) (by simpa using hk) h
 · cases g
theorem lexer_sign.l_ev (n : Nat) (s0 : ByteArray) : ∀ (k m : Nat) (s : ByteArray) (i : Int) (v : ByteArray),k ≤ m → Q.lexer_sign.l0 k s i = some v → lexer_sign.L0 n m s0 s i = some (.ret (.str v),lcRet [] [] 0) := by
 intro k
 induction k with
 | zero => intro m s i v _ h; simp [Q.lexer_sign.l0] at h
 | succ k ih =>
  intro m s i v hk h
  obtain ⟨m,rfl⟩ : ∃ m',m = m' + 1 := ⟨m - 1,by omega⟩
  rw [Q.lexer_sign.l0] at h
  rw [lexer_sign.L0_s]
  simp only [ite_or,ite_and,false_or_b,true_and_b,seq_list,seq_false,wrap_64,wrap_8,wrap_u64_mod,ba_list,decide_eq_true_eq,beq_iff_eq,Bool.not_eq_true',Int.zero_sub,toBytes_len,bt_eq,shr_6,shr_12,shr_18,wrap64_mod,toNat0,toNat1,toNat2,most,List.length_cons,List.length_nil,ofBytes_eq] at h ⊢
  grind (splits := 40)
theorem lexer_sign.ok : AllOk specs_lexer_sign := okS (cx := cx_lexer_sign) rfl lexer_quoted.ok (by kernel_rfl) fun args cs n K r g => by
 unfold lexer_sign.spec at g
 dsimp only [lcSt] at g
 split at g
 · rename_i s
   obtain ⟨v,h1,h2⟩ := bind2 g
   obtain ⟨k,hk,h⟩ := lim_some h1
   clear h1
   clear g
   refine okG h2 ?_
   clear h2
   refine ⟨k,?_⟩
   rw [lexer_sign.top]
   exact lexer_sign.l_ev k s k k s _ v (Nat.le_refl _) h
 · cases g
theorem lexer_word.ok : AllOk specs_lexer_word := okS (cx := cx_lexer_word) rfl lexer_sign.ok (by kernel_rfl) fun args cs n K r g => by
 unfold lexer_word.spec at g
 dsimp only [lcSt] at g
 split at g
 · rename_i s
   obtain ⟨v,h1,h2⟩ := bind2 g
   obtain ⟨k,hk,h⟩ := lim_some h1
   clear h1
   clear g
   refine okG h2 ?_
   clear h2
   refine ⟨0,?_⟩
   rw [lexer_word.top]
   unfold Q.lexer_word.f at h
   have h1 : ∀ t v,Q.lexer_run.f k s t = some v → lim (fun k => Q.lexer_run.f k s t) = some v := fun t v h => lim_of (fun k => Q.lexer_run.mono s t k) hk h
   have h2 : ∀ t v,Q.chars_Number.f k t = some v → lim (fun k => Q.chars_Number.f k t) = some v := fun t v h => lim_of (fun k => Q.chars_Number.mono t k) hk h
   have h3 : ∀ t v,Q.lexer_quoted.f k t = some v → lim (fun k => Q.lexer_quoted.f k t) = some v := fun t v h => lim_of (fun k => Q.lexer_quoted.mono t k) hk h
   have h4 : ∀ t v,Q.lexer_sign.f k t = some v → lim (fun k => Q.lexer_sign.f k t) = some v := fun t v h => lim_of (fun k => Q.lexer_sign.mono t k) hk h
   simp only [ite_or,ite_and,false_or_b,true_and_b,seq_list,seq_false,wrap_64,wrap_8,wrap_u64_mod,ba_list,decide_eq_true_eq,beq_iff_eq,Bool.not_eq_true',Int.zero_sub,toBytes_len,bt_eq,shr_6,shr_12,shr_18,wrap64_mod,toNat0,toNat1,toNat2,most,List.length_cons,List.length_nil,ofBytes_eq] at h ⊢
   grind [→ bindE]
 · cases g
theorem lexer_Words.l_ev (n : Nat) (s0 : ByteArray) : ∀ (k m : Nat) (s : ByteArray) (l : List Q.S69) (t : ByteArray) (v : List Q.S69 × Int × Int),k ≤ m → l.length + k ≤ 1000000 → Q.lexer_Words.l0 k s l t = some v → lexer_Words.L0 n m s0 s (l.map fun x => (x.f0,x.f1,x.f2)) t = some (.ret (.tup [.sl W (v.1.map fun x => (x.f0,x.f1,x.f2)) .no,.int .i64 v.2.1,.int .i64 v.2.2]),lcRet [] [] 0) := by
 intro k
 induction k with
 | zero => intro m s l t v _ _ h; simp [Q.lexer_Words.l0] at h
 | succ k ih =>
  intro m s l t v hk hl h
  obtain ⟨m,rfl⟩ : ∃ m',m = m' + 1 := ⟨m - 1,by omega⟩
  rw [Q.lexer_Words.l0] at h
  rw [lexer_Words.L0_s]
  have hx : ∀ t v,Q.lexer_word.f k t = some v → lim (fun k => Q.lexer_word.f k t) = some v := fun t v h => lim_of (fun k => Q.lexer_word.mono t k) (by omega) h
  have ih0 := ih m s
  have hla : ∀ x : Q.S69,(l ++ [x]).length = l.length + 1 := by intro x; simp
  have hma : ∀ x : Q.S69,(l ++ [x]).map (fun x => (x.f0,x.f1,x.f2)) = l.map (fun x => (x.f0,x.f1,x.f2)) ++ [(x.f0,x.f1,x.f2)] := by intro x; simp
  have hml : (l.map fun x => (x.f0,x.f1,x.f2)).length = l.length := List.length_map _
  simp only [W] at ih0 ⊢
  simp only [ite_or,ite_and,false_or_b,true_and_b,seq_list,seq_false,wrap_64,wrap_8,wrap_u64_mod,ba_list,decide_eq_true_eq,beq_iff_eq,Bool.not_eq_true',Int.zero_sub,toBytes_len,bt_eq,shr_6,shr_12,shr_18,wrap64_mod,toNat0,toNat1,toNat2,most,List.length_cons,List.length_nil,ofBytes_eq] at h ⊢
  grind [→ bindE]
theorem lexer_Words.ok : AllOk specs_lexer_Words := okS (cx := cx_lexer_Words) rfl lexer_word.ok (by kernel_rfl) fun args cs n K r g => by
 unfold lexer_Words.spec at g
 dsimp only [lcSt] at g
 split at g
 · rename_i s
   obtain ⟨v,h1,h2⟩ := bind2 g
   obtain ⟨k,hk,h⟩ := lim_some h1
   clear h1
   clear g
   refine okG h2 ?_
   clear h2
   refine ⟨k,?_⟩
   rw [lexer_Words.top]
   unfold Q.lexer_Words.f at h
   have key := lexer_Words.l_ev k s k k s []
   simp only [ite_or,ite_and,false_or_b,true_and_b,seq_list,seq_false,wrap_64,wrap_8,wrap_u64_mod,ba_list,decide_eq_true_eq,beq_iff_eq,Bool.not_eq_true',Int.zero_sub,toBytes_len,bt_eq,shr_6,shr_12,shr_18,wrap64_mod,toNat0,toNat1,toNat2,most,List.length_cons,List.length_nil,ofBytes_eq] at h ⊢
   grind [→ bindE]
 · cases g
theorem dossierref01_Space.ok : AllOk specs_dossierref01_Space := okS (cx := cx_dossierref01_Space) rfl lexer_Words.ok (by kernel_rfl) fun args cs n K r g => by
 unfold dossierref01_Space.spec at g
 dsimp only [lcSt] at g
 split at g
 · rename_i r
   obtain ⟨v,h,h2⟩ := bind2 g
   clear g
   refine okG h2 ?_
   clear h2
   refine ⟨0,?_⟩
   rw [dossierref01_Space.top]
   unfold Q.dossierref01_Space.f at h
   simp only [ite_or,ite_and,false_or_b,true_and_b,seq_list,seq_false,wrap_64,wrap_8,wrap_u64_mod,ba_list,decide_eq_true_eq,beq_iff_eq,Bool.not_eq_true',Int.zero_sub,toBytes_len,bt_eq,shr_6,shr_12,shr_18,wrap64_mod,toNat0,toNat1,toNat2,most,List.length_cons,List.length_nil,ofBytes_eq] at h ⊢
   grind [→ bindE]
 · cases g
theorem dossierref01_Encode.ok : AllOk specs_dossierref01_Encode := okS (cx := cx_dossierref01_Encode) rfl dossierref01_Space.ok (by kernel_rfl) fun args cs n K r g => by
 unfold dossierref01_Encode.spec at g
 dsimp only [lcSt] at g
 split at g
 · rename_i r
   obtain ⟨v,h1,h2⟩ := bind2 g
   obtain ⟨k,hk,h⟩ := lim_some h1
   clear h1
   clear g
   refine okG h2 ?_
   clear h2
   refine ⟨0,?_⟩
   rw [dossierref01_Encode.top]
   unfold Q.dossierref01_Encode.f at h
   rcases k with _ | k <;> simp only [Q.dossierref01_Encode.j0] at h <;> simp only [ite_or,ite_and,false_or_b,true_and_b,seq_list,seq_false,wrap_64,wrap_8,wrap_u64_mod,ba_list,decide_eq_true_eq,beq_iff_eq,Bool.not_eq_true',Int.zero_sub,toBytes_len,bt_eq,shr_6,shr_12,shr_18,wrap64_mod,toNat0,toNat1,toNat2,most,List.length_cons,List.length_nil,ofBytes_eq] at h ⊢ <;> grind
 · cases g
theorem dossierref01_Decode.l_ev (n : Nat) (b0 : List Int) : ∀ (k m : Nat) (b : List Int) (x4 x5 : Int) (l : List Int) (c i : Int) (v : Int × Int),k ≤ 1000000 → k ≤ m → Q.dossierref01_Decode.l0 k b x4 x5 l c i = some v → dossierref01_Decode.L0 n m b0 b x4 x5 l c i = some (.ret (.tup [.int .i64 v.1,.int .i64 v.2]),lcRet [] [] 0) := by
 intro k
 induction k with
 | zero => intro m b x4 x5 l c i v _ _ h; simp [Q.dossierref01_Decode.l0] at h
 | succ k ih =>
  intro m b x4 x5 l c i v hk0 hk h
  obtain ⟨m,rfl⟩ : ∃ m',m = m' + 1 := ⟨m - 1,by omega⟩
  rw [Q.dossierref01_Decode.l0] at h
  rw [dossierref01_Decode.L0_s]
  have hx : ∀ t v,Q.dossierref01_Encode.f k t = some v → lim (fun k => Q.dossierref01_Encode.f k t) = some v := fun t v h => lim_of (fun k => Q.dossierref01_Encode.mono t k) (by omega) h
  have hn := nth_rd l i
  simp only [ite_or,ite_and,false_or_b,true_and_b,seq_list,seq_false,wrap_64,wrap_8,wrap_u64_mod,ba_list,decide_eq_true_eq,beq_iff_eq,Bool.not_eq_true',Int.zero_sub,toBytes_len,bt_eq,shr_6,shr_12,shr_18,wrap64_mod,toNat0,toNat1,toNat2,most,List.length_cons,List.length_nil,ofBytes_eq] at h ⊢
  grind [→ bindE]
theorem dossierref01_Decode.ok : AllOk specs_dossierref01_Decode := okS (cx := cx_dossierref01_Decode) rfl dossierref01_Encode.ok (by kernel_rfl) fun args cs n K r g => by
 unfold dossierref01_Decode.spec at g
 dsimp only [lcSt] at g
 split at g
 · rename_i b
   obtain ⟨v,h1,h2⟩ := bind2 g
   obtain ⟨k,hk,h⟩ := lim_some h1
   clear h1
   clear g
   refine okG h2 ?_
   clear h2
   refine ⟨k,?_⟩
   rw [dossierref01_Decode.top]
   unfold Q.dossierref01_Decode.f at h
   have key := dossierref01_Decode.l_ev k b
   have hn := nth_rd0 b
   rcases k with _ | k <;> simp only [Q.dossierref01_Decode.j0] at h <;> simp only [ite_or,ite_and,false_or_b,true_and_b,seq_list,seq_false,wrap_64,wrap_8,wrap_u64_mod,ba_list,decide_eq_true_eq,beq_iff_eq,Bool.not_eq_true',Int.zero_sub,toBytes_len,bt_eq,shr_6,shr_12,shr_18,wrap64_mod,toNat0,toNat1,toNat2,most,List.length_cons,List.length_nil,ofBytes_eq] at h ⊢ <;> grind [→ bindE]
 · cases g
theorem dossierref01_within.l_ev (n : Nat) (r0 : Int) (l0 : List Int) : ∀ (k m : Nat) (r : Int) (l : List Int) (i : Int) (v : Bool),k ≤ m → Q.dossierref01_within.l0 k r l i = some v → dossierref01_within.L0 n m r0 l0 r l i = some (.ret (.bool v),lcRet [] [] 0) := by
 intro k
 induction k with
 | zero => intro m r l i v _ h; simp [Q.dossierref01_within.l0] at h
 | succ k ih =>
  intro m r l i v hk h
  obtain ⟨m,rfl⟩ : ∃ m',m = m' + 1 := ⟨m - 1,by omega⟩
  rw [Q.dossierref01_within.l0] at h
  rw [dossierref01_within.L0_s]
  have hn := nth_rd l i
  have hn1 := nth_rd l (wrap64 (i + 1))
  simp only [ite_or,ite_and,false_or_b,true_and_b,seq_list,seq_false,wrap_64,wrap_8,wrap_u64_mod,ba_list,decide_eq_true_eq,beq_iff_eq,Bool.not_eq_true',Int.zero_sub,toBytes_len,bt_eq,shr_6,shr_12,shr_18,wrap64_mod,toNat0,toNat1,toNat2,most,List.length_cons,List.length_nil,ofBytes_eq] at h ⊢
  grind [→ bindE]
theorem dossierref01_within.ok : AllOk specs_dossierref01_within := okS (cx := cx_dossierref01_within) rfl dossierref01_Decode.ok (by kernel_rfl) fun args cs n K r g => by
 unfold dossierref01_within.spec at g
 dsimp only [lcSt] at g
 split at g
 · rename_i r l
   obtain ⟨v,h1,h2⟩ := bind2 g
   obtain ⟨k,hk,h⟩ := lim_some h1
   clear h1
   clear g
   refine okG h2 ?_
   clear h2
   refine ⟨k,?_⟩
   rw [dossierref01_within.top]
   exact dossierref01_within.l_ev k r l k k r l 0 v (Nat.le_refl _) h
 · cases g
theorem dossierref01_OfXML.ok : AllOk specs_dossierref01_OfXML := okS (cx := cx_dossierref01_OfXML) rfl dossierref01_within.ok (by kernel_rfl) fun args cs n K r g => by
 unfold dossierref01_OfXML.spec at g
 dsimp only [lcSt] at g
 split at g
 · rename_i r
   obtain ⟨v,h1,h2⟩ := bind2 g
   obtain ⟨k,hk,h⟩ := lim_some h1
   clear h1
   clear g
   refine okG h2 ?_
   clear h2
   refine ⟨0,?_⟩
   rw [dossierref01_OfXML.top]
   unfold Q.dossierref01_OfXML.f at h
   obtain ⟨b,h1,h2⟩ := bind2 h
   obtain rfl := Option.some.inj h2
   have := lim_of (fun k => Q.dossierref01_within.mono r _ k) hk h1
   rw [this]
   rfl
 · cases g
theorem dossierref01_Text.step (k : Nat) (h0 : CallOkL Tryz.prog C0 152 (dossierref01_Text.specR k)) : CallOkL Tryz.prog C0 152 (dossierref01_Text.specR (k + 1)) := okR (cx := cx_dossierref01_Text) (R := dossierref01_Text.rec k) rfl rfl dossierref01_OfXML.ok (fun x hx => by
 obtain rfl := List.mem_singleton.1 hx
 exact ⟨fnOk_of (by kernel_rfl),h0⟩) fun args cs n K r g => by
 unfold dossierref01_Text.specR at g
 dsimp only [lcSt] at g
 split at g
 · rename_i r
   obtain ⟨v,h,h2⟩ := bind2 g
   clear g
   refine okG h2 ?_
   clear h2
   refine ⟨0,?_⟩
   rw [dossierref01_Text.top]
   rw [Q.dossierref01_Text.f] at h
   have hs : (ByteArray.mk #[(45 : UInt8)]).size = 1 := rfl
   have hd : ((ByteArray.mk #[48,49,50,51,52,53,54,55,56,57]).size : Int) = 10 := rfl
   simp only [hs,hd] at h ⊢
   simp only [ite_or,ite_and,false_or_b,true_and_b,seq_list,seq_false,wrap_64,wrap_8,wrap_u64_mod,ba_list,decide_eq_true_eq,beq_iff_eq,Bool.not_eq_true',Int.zero_sub,toBytes_len,bt_eq,shr_6,shr_12,shr_18,wrap64_mod,toNat0,toNat1,toNat2,most,List.length_cons,List.length_nil,ofBytes_eq] at h ⊢
   grind [→ bindE]
 · cases g
theorem dossierref01_Text.zero : CallOkL Tryz.prog C0 152 (dossierref01_Text.specR 0) := fun args cs n K r h => by
 unfold dossierref01_Text.specR at h
 dsimp only [lcSt] at h
 split at h
 · obtain ⟨v,h1,h2⟩ := bind2 h
   exact absurd h1 (by first | (simp [Q.dossierref01_Text.f]; done) | (unfold Q.dossierref01_Text.f; simp))
 · cases h
theorem dossierref01_Text.recOk : ∀ k,CallOkL Tryz.prog C0 152 (dossierref01_Text.specR k)
 | 0 => dossierref01_Text.zero
 | k + 1 => dossierref01_Text.step k (dossierref01_Text.recOk k)
theorem dossierref01_Text.ok : AllOk specs_dossierref01_Text := allOk_cons dossierref01_OfXML.ok (fnOk_of (by kernel_rfl)) fun args cs n K r h => by
 unfold dossierref01_Text.spec at h
 dsimp only [lcSt] at h
 split at h
 · obtain ⟨v,h1,h2⟩ := bind2 h
   obtain ⟨k,hk,h3⟩ := lim_some h1
   refine dossierref01_Text.recOk k _ _ _ K r ?_
   unfold dossierref01_Text.specR
   dsimp only [lcSt]
   show Option.bind _ _ = some r
   rw [h3]
   exact h2
 · cases h
theorem dossierref01_Number.l1_ev (n : Nat) (s0 : ByteArray) : ∀ (k m : Nat) (s d : ByteArray) (x c i : Int) (v : Int × Int),k ≤ 1000000 → k ≤ m → Q.dossierref01_Number.l1 k s d x c i = some v → dossierref01_Number.L1 n m s0 s d x c i = some (.ret (.tup [.int .i64 v.1,.int .i64 v.2]),lcRet [] [] 0) := by
 intro k
 induction k with
 | zero => intro m s d x c i v _ _ h; simp [Q.dossierref01_Number.l1] at h
 | succ k ih =>
  intro m s d x c i v hk0 hk h
  obtain ⟨m,rfl⟩ : ∃ m',m = m' + 1 := ⟨m - 1,by omega⟩
  rw [Q.dossierref01_Number.l1] at h
  rw [dossierref01_Number.L1_s]
  have hx : ∀ t v,Q.dossierref01_Text.f k t = some v → lim (fun k => Q.dossierref01_Text.f k t) = some v := fun t v h => lim_of (fun k => Q.dossierref01_Text.mono t k) (by omega) h
  simp only [ite_or,ite_and,false_or_b,true_and_b,seq_list,seq_false,wrap_64,wrap_8,wrap_u64_mod,ba_list,decide_eq_true_eq,beq_iff_eq,Bool.not_eq_true',Int.zero_sub,toBytes_len,bt_eq,shr_6,shr_12,shr_18,wrap64_mod,toNat0,toNat1,toNat2,most,List.length_cons,List.length_nil,ofBytes_eq] at h ⊢
  grind [→ bindE]
theorem dossierref01_Number.l0_ev (n : Nat) (s0 : ByteArray) : ∀ (k m : Nat) (s d : ByteArray) (c i : Int) (v : Int × Int),n ≤ 1000000 → k ≤ n → k ≤ m → Q.dossierref01_Number.l0 k s d c i = some v → dossierref01_Number.L0 n m s0 s d c i = some (.ret (.tup [.int .i64 v.1,.int .i64 v.2]),lcRet [] [] 0) := by
 intro k
 induction k with
 | zero => intro m s d c i v _ _ _ h; simp [Q.dossierref01_Number.l0] at h
 | succ k ih =>
  intro m s d c i v hk0 hk1 hk h
  obtain ⟨m,rfl⟩ : ∃ m',m = m' + 1 := ⟨m - 1,by omega⟩
  rw [Q.dossierref01_Number.l0] at h
  rw [dossierref01_Number.L0_s]
  have key := dossierref01_Number.l1_ev n s0 k n s d
  simp only [ite_or,ite_and,false_or_b,true_and_b,seq_list,seq_false,wrap_64,wrap_8,wrap_u64_mod,ba_list,decide_eq_true_eq,beq_iff_eq,Bool.not_eq_true',Int.zero_sub,toBytes_len,bt_eq,shr_6,shr_12,shr_18,wrap64_mod,toNat0,toNat1,toNat2,most,List.length_cons,List.length_nil,ofBytes_eq] at h ⊢
  grind [→ bindE]
theorem dossierref01_Number.ok : AllOk specs_dossierref01_Number := okS (cx := cx_dossierref01_Number) rfl dossierref01_Text.ok (by kernel_rfl) fun args cs n K r g => by
 unfold dossierref01_Number.spec at g
 dsimp only [lcSt] at g
 split at g
 · rename_i s
   obtain ⟨v,h1,h2⟩ := bind2 g
   obtain ⟨k,hk,h⟩ := lim_some h1
   clear h1
   clear g
   refine okG h2 ?_
   clear h2
   refine ⟨k,?_⟩
   rw [dossierref01_Number.top]
   have key := dossierref01_Number.l0_ev k s
   unfold Q.dossierref01_Number.f at h
   have hx : (s.extract 1 s.size).size = s.size - 1 := by rw [ByteArray.size_extract]; omega
   rcases k with _ | _ | _ | k <;> simp only [Q.dossierref01_Number.j0,Q.dossierref01_Number.j1,Q.dossierref01_Number.j2] at h <;> simp only [ite_or,ite_and,false_or_b,true_and_b,seq_list,seq_false,wrap_64,wrap_8,wrap_u64_mod,ba_list,decide_eq_true_eq,beq_iff_eq,Bool.not_eq_true',Int.zero_sub,toBytes_len,bt_eq,shr_6,shr_12,shr_18,wrap64_mod,toNat0,toNat1,toNat2,most,List.length_cons,List.length_nil,ofBytes_eq] at h ⊢
   · grind
   · grind
   · grind
   · grind (splits := 20)
 · cases g
theorem dossierref08_digit.ok : AllOk specs_dossierref08_digit := okS (cx := cx_dossierref08_digit) rfl dossierref01_Number.ok (by kernel_rfl) fun args cs n K r g => by
 unfold dossierref08_digit.spec at g
 dsimp only [lcSt] at g
 split at g
 · rename_i x
   obtain ⟨v,h,h2⟩ := bind2 g
   clear g
   refine okG h2 ?_
   clear h2
   refine ⟨0,?_⟩
   rw [dossierref08_digit.top]
   unfold Q.dossierref08_digit.f at h
   simp only [ite_or,ite_and,false_or_b,true_and_b,seq_list,seq_false,wrap_64,wrap_8,wrap_u64_mod,ba_list,decide_eq_true_eq,beq_iff_eq,Bool.not_eq_true',Int.zero_sub,toBytes_len,bt_eq,shr_6,shr_12,shr_18,wrap64_mod,toNat0,toNat1,toNat2,most,List.length_cons,List.length_nil,ofBytes_eq] at h ⊢
   grind [→ bindE]
 · cases g
theorem dossierref08_letter.ok : AllOk specs_dossierref08_letter := okS (cx := cx_dossierref08_letter) rfl dossierref08_digit.ok (by kernel_rfl) fun args cs n K r g => by
 unfold dossierref08_letter.spec at g
 dsimp only [lcSt] at g
 split at g
 · rename_i x
   obtain ⟨v,h,h2⟩ := bind2 g
   clear g
   refine okG h2 ?_
   clear h2
   refine ⟨0,?_⟩
   rw [dossierref08_letter.top]
   unfold Q.dossierref08_letter.f at h
   simp only [ite_or,ite_and,false_or_b,true_and_b,seq_list,seq_false,wrap_64,wrap_8,wrap_u64_mod,ba_list,decide_eq_true_eq,beq_iff_eq,Bool.not_eq_true',Int.zero_sub,toBytes_len,bt_eq,shr_6,shr_12,shr_18,wrap64_mod,toNat0,toNat1,toNat2,most,List.length_cons,List.length_nil,ofBytes_eq] at h ⊢
   grind [→ bindE]
 · cases g
theorem dossierref08_integer.l1_ev (n : Nat) (s0 : ByteArray) : ∀ (k m : Nat) (s : ByteArray) (i a : Int) (b : ByteArray) (c : Int) (v : Int × ByteArray × Int × Int × Bool),k ≤ 1000000 → k ≤ m → Q.dossierref08_integer.l0 k s i = some v → dossierref08_integer.L1 n m s0 s i a b c = some (.ret (.tup [.agg [.int .i64 v.1,.str v.2.1,.int .i64 v.2.2.1],.int .i64 v.2.2.2.1,.bool v.2.2.2.2]),lcRet [] [] 0) := by
 intro k
 induction k with
 | zero => intro m s i a b c v _ _ h; simp [Q.dossierref08_integer.l0] at h
 | succ k ih =>
  intro m s i a b c v hk0 hk h
  obtain ⟨m,rfl⟩ : ∃ m',m = m' + 1 := ⟨m - 1,by omega⟩
  rw [Q.dossierref08_integer.l0] at h
  rw [dossierref08_integer.L1_s]
  have hx : ∀ t v,Q.dossierref01_Number.f k t = some v → lim (fun k => Q.dossierref01_Number.f k t) = some v := fun t v h => lim_of (fun k => Q.dossierref01_Number.mono t k) (by omega) h
  simp only [ite_or,ite_and,false_or_b,true_and_b,seq_list,seq_false,wrap_64,wrap_8,wrap_u64_mod,ba_list,decide_eq_true_eq,beq_iff_eq,Bool.not_eq_true',Int.zero_sub,toBytes_len,bt_eq,shr_6,shr_12,shr_18,wrap64_mod,toNat0,toNat1,toNat2,most,List.length_cons,List.length_nil,ofBytes_eq] at h ⊢
  grind [→ bindE]
theorem dossierref08_integer.ok : AllOk specs_dossierref08_integer := okS (cx := cx_dossierref08_integer) rfl dossierref08_letter.ok (by kernel_rfl) fun args cs n K r g => by
 unfold dossierref08_integer.spec at g
 dsimp only [lcSt] at g
 split at g
 · rename_i s
   obtain ⟨v,h1,h2⟩ := bind2 g
   obtain ⟨k,hk,h⟩ := lim_some h1
   clear h1
   clear g
   refine okG h2 ?_
   clear h2
   refine ⟨k,?_⟩
   rw [dossierref08_integer.top]
   unfold Q.dossierref08_integer.f at h
   have key := dossierref08_integer.l1_ev k s
   rcases k with _ | k
   · simp [Q.dossierref08_integer.l0] at h
   rw [Q.dossierref08_integer.l0] at h
   rw [dossierref08_integer.L1_s]
   have hx : ∀ t v,Q.dossierref01_Number.f k t = some v → lim (fun k => Q.dossierref01_Number.f k t) = some v := fun t v h => lim_of (fun k => Q.dossierref01_Number.mono t k) (by omega) h
   simp only [ite_or,ite_and,false_or_b,true_and_b,seq_list,seq_false,wrap_64,wrap_8,wrap_u64_mod,ba_list,decide_eq_true_eq,beq_iff_eq,Bool.not_eq_true',Int.zero_sub,toBytes_len,bt_eq,shr_6,shr_12,shr_18,wrap64_mod,toNat0,toNat1,toNat2,most,List.length_cons,List.length_nil,ofBytes_eq] at h ⊢
   grind [→ bindE]
 · cases g
theorem dossierref08_text.l1_ev (n : Nat) (s0 : ByteArray) : ∀ (k m : Nat) (s x5 : ByteArray) (i a : Int) (b : ByteArray) (c : Int) (v : Int × ByteArray × Int × Int × Bool),k ≤ 1000000 → k ≤ m → Q.dossierref08_text.l0 k s x5 i = some v → dossierref08_text.L1 n m s0 s x5 i a b c = some (.ret (.tup [.agg [.int .i64 v.1,.str v.2.1,.int .i64 v.2.2.1],.int .i64 v.2.2.2.1,.bool v.2.2.2.2]),lcRet [] [] 0) := by
 intro k
 induction k with
 | zero => intro m s x5 i a b c v _ _ h; simp [Q.dossierref08_text.l0] at h
 | succ k ih =>
  intro m s x5 i a b c v hk0 hk h
  obtain ⟨m,rfl⟩ : ∃ m',m = m' + 1 := ⟨m - 1,by omega⟩
  rw [Q.dossierref08_text.l0] at h
  rw [dossierref08_text.L1_s]
  have hx : ∀ t v,Q.dossierref01_Decode.f k t = some v → lim (fun k => Q.dossierref01_Decode.f k t) = some v := fun t v h => lim_of (fun k => Q.dossierref01_Decode.mono t k) (by omega) h
  have hy : ∀ t v,Q.dossierref01_OfXML.f k t = some v → lim (fun k => Q.dossierref01_OfXML.f k t) = some v := fun t v h => lim_of (fun k => Q.dossierref01_OfXML.mono t k) (by omega) h
  simp only [toBytes_eq]
  simp only [ite_or,ite_and,false_or_b,true_and_b,seq_list,seq_false,wrap_64,wrap_8,wrap_u64_mod,ba_list,decide_eq_true_eq,beq_iff_eq,Bool.not_eq_true',Int.zero_sub,toBytes_len,bt_eq,shr_6,shr_12,shr_18,wrap64_mod,toNat0,toNat1,toNat2,most,List.length_cons,List.length_nil,ofBytes_eq] at h ⊢
  grind (splits := 30) [→ bindE]
theorem dossierref08_text.ok : AllOk specs_dossierref08_text := okS (cx := cx_dossierref08_text) rfl dossierref08_integer.ok (by kernel_rfl) fun args cs n K r g => by
 unfold dossierref08_text.spec at g
 dsimp only [lcSt] at g
 split at g
 · rename_i s
   obtain ⟨v,h1,h2⟩ := bind2 g
   obtain ⟨k,hk,h⟩ := lim_some h1
   clear h1
   clear g
   refine okG h2 ?_
   clear h2
   refine ⟨k,?_⟩
   rw [dossierref08_text.top]
   unfold Q.dossierref08_text.f at h
   have key := dossierref08_text.l1_ev k s
   rcases k with _ | k
   · simp [Q.dossierref08_text.l0] at h
   rw [Q.dossierref08_text.l0] at h
   rw [dossierref08_text.L1_s]
   have hx : ∀ t v,Q.dossierref01_Decode.f k t = some v → lim (fun k => Q.dossierref01_Decode.f k t) = some v := fun t v h => lim_of (fun k => Q.dossierref01_Decode.mono t k) (by omega) h
   have hy : ∀ t v,Q.dossierref01_OfXML.f k t = some v → lim (fun k => Q.dossierref01_OfXML.f k t) = some v := fun t v h => lim_of (fun k => Q.dossierref01_OfXML.mono t k) (by omega) h
   simp only [toBytes_eq]
   simp only [ite_or,ite_and,false_or_b,true_and_b,seq_list,seq_false,wrap_64,wrap_8,wrap_u64_mod,ba_list,decide_eq_true_eq,beq_iff_eq,Bool.not_eq_true',Int.zero_sub,toBytes_len,bt_eq,shr_6,shr_12,shr_18,wrap64_mod,toNat0,toNat1,toNat2,most,List.length_cons,List.length_nil,ofBytes_eq] at h ⊢
   grind (splits := 30) [→ bindE]
 · cases g
theorem dossierref08_sign.l1_ev (n : Nat) (s0 : ByteArray) : ∀ (k m : Nat) (s : ByteArray) (l : List ByteArray) (c i a : Int) (b : ByteArray) (d : Int) (v : Int × ByteArray × Int × Int × Bool),k ≤ m → Q.dossierref08_sign.l0 k s l c i = some v → dossierref08_sign.L1 n m s0 s l c i a b d = some (.ret (.tup [.agg [.int .i64 v.1,.str v.2.1,.int .i64 v.2.2.1],.int .i64 v.2.2.2.1,.bool v.2.2.2.2]),lcRet [] [] 0) := by
 intro k
 induction k with
 | zero => intro m s l c i a b d v _ h; simp [Q.dossierref08_sign.l0] at h
 | succ k ih =>
  intro m s l c i a b d v hk h
  obtain ⟨m,rfl⟩ : ∃ m',m = m' + 1 := ⟨m - 1,by omega⟩
  rw [Q.dossierref08_sign.l0] at h
  rw [dossierref08_sign.L1_s]
  have hn := nth_strs l i
  simp only [ite_or,ite_and,false_or_b,true_and_b,seq_list,seq_false,wrap_64,wrap_8,wrap_u64_mod,ba_list,decide_eq_true_eq,beq_iff_eq,Bool.not_eq_true',Int.zero_sub,toBytes_len,bt_eq,shr_6,shr_12,shr_18,wrap64_mod,toNat0,toNat1,toNat2,most,List.length_cons,List.length_nil,ofBytes_eq] at h ⊢
  grind (splits := 30) [→ bindE]
theorem dossierref08_sign.ok : AllOk specs_dossierref08_sign := okS (cx := cx_dossierref08_sign) rfl dossierref08_text.ok (by kernel_rfl) fun args cs n K r g => by
 unfold dossierref08_sign.spec at g
 dsimp only [lcSt] at g
 split at g
 · rename_i s
   obtain ⟨v,h1,h2⟩ := bind2 g
   obtain ⟨k,hk,h⟩ := lim_some h1
   clear h1
   clear g
   refine okG h2 ?_
   clear h2
   refine ⟨k,?_⟩
   rw [dossierref08_sign.top]
   unfold Q.dossierref08_sign.f at h
   have key : ∀ (k m : Nat) (l : List ByteArray) (c a : Int) (b : ByteArray) (d : Int) (v : Int × ByteArray × Int × Int × Bool),k ≤ m → Q.dossierref08_sign.l0 k s l c 0 = some v → dossierref08_sign.L1 (k + 1) m s s l c 0 a b d = some (.ret (.tup [.agg [.int .i64 v.1,.str v.2.1,.int .i64 v.2.2.1],.int .i64 v.2.2.2.1,.bool v.2.2.2.2]),lcRet [] [] 0) := by
    intro k m l c a b d v hk h
    have key := dossierref08_sign.l1_ev (k + 1) s
    rcases k with _ | k
    · simp [Q.dossierref08_sign.l0] at h
    obtain ⟨m,rfl⟩ : ∃ m',m = m' + 1 := ⟨m - 1,by omega⟩
    rw [Q.dossierref08_sign.l0] at h
    rw [dossierref08_sign.L1_s]
    have hn := nth_strs l 0
    simp only [ite_or,ite_and,false_or_b,true_and_b,seq_list,seq_false,wrap_64,wrap_8,wrap_u64_mod,ba_list,decide_eq_true_eq,beq_iff_eq,Bool.not_eq_true',Int.zero_sub,toBytes_len,bt_eq,shr_6,shr_12,shr_18,wrap64_mod,toNat0,toNat1,toNat2,most,List.length_cons,List.length_nil,ofBytes_eq] at h ⊢
    grind (splits := 30) [→ bindE]
   rcases k with _ | k <;> simp only [Q.dossierref08_sign.j0] at h <;> (try simp only [Option.bind_some] at h) <;> (try simp only [ite_or,ite_and,false_or_b,true_and_b,seq_list,seq_false,wrap_64,wrap_8,wrap_u64_mod,ba_list,decide_eq_true_eq,beq_iff_eq,Bool.not_eq_true',Int.zero_sub,toBytes_len,bt_eq,shr_6,shr_12,shr_18,wrap64_mod,toNat0,toNat1,toNat2,most,List.length_cons,List.length_nil,ofBytes_eq] at h ⊢)
   · grind
   · have key0 := key k (k + 1)
     grind (splits := 30)
 · cases g
theorem dossierref08_word.l1_ev (n : Nat) (s0 : ByteArray) : ∀ (k m : Nat) (s : ByteArray) (i a : Int) (b : ByteArray) (c : Int) (v : Int × ByteArray × Int × Int × Bool),k ≤ m → Q.dossierref08_word.l0 k s i = some v → dossierref08_word.L1 n m s0 s i a b c = some (.ret (.tup [.agg [.int .i64 v.1,.str v.2.1,.int .i64 v.2.2.1],.int .i64 v.2.2.2.1,.bool v.2.2.2.2]),lcRet [] [] 0) := by
 intro k
 induction k with
 | zero => intro m s i a b c v _ h; simp [Q.dossierref08_word.l0] at h
 | succ k ih =>
  intro m s i a b c v hk h
  obtain ⟨m,rfl⟩ : ∃ m',m = m' + 1 := ⟨m - 1,by omega⟩
  rw [Q.dossierref08_word.l0] at h
  rw [dossierref08_word.L1_s]
  simp only [ite_or,ite_and,false_or_b,true_and_b,seq_list,seq_false,wrap_64,wrap_8,wrap_u64_mod,ba_list,decide_eq_true_eq,beq_iff_eq,Bool.not_eq_true',Int.zero_sub,toBytes_len,bt_eq,shr_6,shr_12,shr_18,wrap64_mod,toNat0,toNat1,toNat2,most,List.length_cons,List.length_nil,ofBytes_eq] at h ⊢
  grind [→ bindE]
theorem dossierref08_word.l0_ev (n : Nat) (s0 : ByteArray) (k : Nat) (m : Nat) (s : ByteArray) (i a : Int) (b : ByteArray) (c : Int) (v : Int × ByteArray × Int × Int × Bool) (hk : k ≤ m) (h : Q.dossierref08_word.l0 k s i = some v) : dossierref08_word.L1 n m s0 s i a b c = some (.ret (.tup [.agg [.int .i64 v.1,.str v.2.1,.int .i64 v.2.2.1],.int .i64 v.2.2.2.1,.bool v.2.2.2.2]),lcRet [] [] 0) := by
 have key := dossierref08_word.l1_ev n s0
 rcases k with _ | k
 · simp [Q.dossierref08_word.l0] at h
 obtain ⟨m,rfl⟩ : ∃ m',m = m' + 1 := ⟨m - 1,by omega⟩
 rw [Q.dossierref08_word.l0] at h
 rw [dossierref08_word.L1_s]
 simp only [ite_or,ite_and,false_or_b,true_and_b,seq_list,seq_false,wrap_64,wrap_8,wrap_u64_mod,ba_list,decide_eq_true_eq,beq_iff_eq,Bool.not_eq_true',Int.zero_sub,toBytes_len,bt_eq,shr_6,shr_12,shr_18,wrap64_mod,toNat0,toNat1,toNat2,most,List.length_cons,List.length_nil,ofBytes_eq] at h ⊢
 grind [→ bindE]
theorem dossierref08_word.ok : AllOk specs_dossierref08_word := okS (cx := cx_dossierref08_word) rfl dossierref08_sign.ok (by kernel_rfl) fun args cs n K r g => by
 unfold dossierref08_word.spec at g
 dsimp only [lcSt] at g
 split at g
 · rename_i s
   obtain ⟨v,h1,h2⟩ := bind2 g
   obtain ⟨k,hk,h⟩ := lim_some h1
   clear h1
   clear g
   refine okG h2 ?_
   clear h2
   refine ⟨k,?_⟩
   rw [dossierref08_word.top]
   unfold Q.dossierref08_word.f at h
   have key := dossierref08_word.l0_ev k s k k s 1
   have h1 : ∀ v,Q.dossierref08_integer.f k s = some v → lim (fun k => Q.dossierref08_integer.f k s) = some v := fun v h => lim_of (fun k => Q.dossierref08_integer.mono s k) hk h
   have h3 : ∀ v,Q.dossierref08_text.f k s = some v → lim (fun k => Q.dossierref08_text.f k s) = some v := fun v h => lim_of (fun k => Q.dossierref08_text.mono s k) hk h
   have h4 : ∀ v,Q.dossierref08_sign.f k s = some v → lim (fun k => Q.dossierref08_sign.f k s) = some v := fun v h => lim_of (fun k => Q.dossierref08_sign.mono s k) hk h
   simp only [ite_or,ite_and,false_or_b,true_and_b,seq_list,seq_false,wrap_64,wrap_8,wrap_u64_mod,ba_list,decide_eq_true_eq,beq_iff_eq,Bool.not_eq_true',Int.zero_sub,toBytes_len,bt_eq,shr_6,shr_12,shr_18,wrap64_mod,toNat0,toNat1,toNat2,most,List.length_cons,List.length_nil,ofBytes_eq] at h ⊢
   grind [→ bindE]
 · cases g
theorem dossierref08_Words.l_ev (n : Nat) (s0 : ByteArray) : ∀ (k m : Nat) (s : ByteArray) (l : List Q.S69) (i : Int) (v : List Q.S69 × Int × Int),k ≤ m → l.length + k ≤ 1000000 → Q.dossierref08_Words.l0 k s l i = some v → dossierref08_Words.L0 n m s0 s (l.map fun x => (x.f0,x.f1,x.f2)) i = some (.ret (.tup [.sl W (v.1.map fun x => (x.f0,x.f1,x.f2)) .no,.int .i64 v.2.1,.int .i64 v.2.2]),lcRet [] [] 0) := by
 intro k
 induction k with
 | zero => intro m s l i v _ _ h; simp [Q.dossierref08_Words.l0] at h
 | succ k ih =>
  intro m s l i v hk hl h
  obtain ⟨m,rfl⟩ : ∃ m',m = m' + 1 := ⟨m - 1,by omega⟩
  rw [Q.dossierref08_Words.l0] at h
  rw [dossierref08_Words.L0_s]
  have hx : ∀ t v,Q.dossierref08_word.f k t = some v → lim (fun k => Q.dossierref08_word.f k t) = some v := fun t v h => lim_of (fun k => Q.dossierref08_word.mono t k) (by omega) h
  have ih0 := ih m s
  have hla : ∀ x : Q.S69,(l ++ [x]).length = l.length + 1 := by intro x; simp
  have hma : ∀ x : Q.S69,(l ++ [x]).map (fun x => (x.f0,x.f1,x.f2)) = l.map (fun x => (x.f0,x.f1,x.f2)) ++ [(x.f0,x.f1,x.f2)] := by intro x; simp
  have hml : (l.map fun x => (x.f0,x.f1,x.f2)).length = l.length := List.length_map _
  simp only [W] at ih0 ⊢
  simp only [ite_or,ite_and,false_or_b,true_and_b,seq_list,seq_false,wrap_64,wrap_8,wrap_u64_mod,ba_list,decide_eq_true_eq,beq_iff_eq,Bool.not_eq_true',Int.zero_sub,toBytes_len,bt_eq,shr_6,shr_12,shr_18,wrap64_mod,toNat0,toNat1,toNat2,most,List.length_cons,List.length_nil,ofBytes_eq] at h ⊢
  grind [→ bindE]
theorem dossierref08_Words.ok : AllOk specs_dossierref08_Words := okS (cx := cx_dossierref08_Words) rfl dossierref08_word.ok (by kernel_rfl) fun args cs n K r g => by
 unfold dossierref08_Words.spec at g
 dsimp only [lcSt] at g
 split at g
 · rename_i s
   obtain ⟨v,h1,h2⟩ := bind2 g
   obtain ⟨k,hk,h⟩ := lim_some h1
   clear h1
   clear g
   refine okG h2 ?_
   clear h2
   refine ⟨k,?_⟩
   rw [dossierref08_Words.top]
   unfold Q.dossierref08_Words.f at h
   have key := dossierref08_Words.l_ev k s k k s []
   simp only [ite_or,ite_and,false_or_b,true_and_b,seq_list,seq_false,wrap_64,wrap_8,wrap_u64_mod,ba_list,decide_eq_true_eq,beq_iff_eq,Bool.not_eq_true',Int.zero_sub,toBytes_len,bt_eq,shr_6,shr_12,shr_18,wrap64_mod,toNat0,toNat1,toNat2,most,List.length_cons,List.length_nil,ofBytes_eq] at h ⊢
   grind [→ bindE]
 · cases g
end Go.Proofs.YtbcpnpbkbndkjaaGreatDoor.Ev
end
