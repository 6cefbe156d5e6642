/- Several texts in one, in their order. -/
import Derived.Test.YtccfmfifnbnlmaaGreatDoorBXmllexBack6
import Derived.Test.YtccfmfifnbnlmaaGreatDoorBXmllexBack7
import Derived.Test.YtccfmfifnbnlmaaGreatDoorBXmllexBack9
import Derived.LoopTactic
import Derived.WalkKit
import Derived.KernelRfl
import Derived.ChangeAgain
import Derived.Shelf.RegionOpenPlain
import Derived.OwnWalk
import Derived.Laws.StructEq
import Derived.Test.YtccfmfifnbnlmaaGreatDoorProg
import Derived.Below
import Derived.Deep.Draws
import Derived.Deep.AppendLies
import Derived.Maps.AppendAt
import Derived.Laws.BytesArg
import Derived.Laws.MakeOwn
import Derived.Laws.OwnMore
import Derived.Deep.OwnRows
import Derived.Tactics
import Derived.Lib.ConvBytes
import Derived.Laws.Slices
import Derived.RowKit3
import Derived.Deep.LoopGhost
import Derived.Deep.QuietTactic
import Derived.BigQuiet
import Derived.WideLaws
import Derived.Deep.DeepCutAuto
import Derived.Deep.CutBlock
import Derived.Deep.RegionHeld3
import Derived.Laws.Rows
import Derived.Lib.AppendStr
import Derived.ArgAppend
import Derived.Laws.IdiomCopy
import Derived.OrdersHeld
import Derived.Laws.BitsLemmas
import Derived.RowKit
section
/- chars.Encode, and numerals: plain functions. -/
set_option linter.unusedSimpArgs false
set_option linter.unusedVariables false
namespace Go.Proofs.YtccfmfifnbnlmaaGreatDoor.Xm
open Go.RowKit Go.Proofs.YtccfmfifnbnlmaaGreatDoor.Q Go.Proofs.YtccfmfifnbnlmaaGreatDoorW.PrintWords Go.Proofs.YtccfmfifnbnlmaaGreatDoorW.PrintLast Go.Proofs.YtccfmfifnbnlmaaGreatDoorH Go.Proofs.YtccfmfifnbnlmaaGreatDoor.Chars
theorem orF_128 : ∀ n : Fin 64, Go.bits .or .u8 128 (n.val : Int) = 128 + n.val := by decide
theorem orF_192 : ∀ n : Fin 32, Go.bits .or .u8 192 (n.val : Int) = 192 + n.val := by decide
theorem orF_224 : ∀ n : Fin 16, Go.bits .or .u8 224 (n.val : Int) = 224 + n.val := by decide
theorem orF_240 : ∀ n : Fin 8, Go.bits .or .u8 240 (n.val : Int) = 240 + n.val := by decide
set_option maxRecDepth 100000 in
theorem andF_63 : ∀ n : Fin 256, Go.bits .and .u8 (n.val : Int) 63 = (n.val : Int) % 64 := by decide
theorem or128 (x : Int) (h0 : 0 ≤ x) (h1 : x < 64) : Go.bits .or .u8 128 x = 128 + x := by have := orF_128 ⟨x.toNat, by omega⟩; simp only [Int.toNat_of_nonneg h0] at this; exact this
theorem or192 (x : Int) (h0 : 0 ≤ x) (h1 : x < 32) : Go.bits .or .u8 192 x = 192 + x := by have := orF_192 ⟨x.toNat, by omega⟩; simp only [Int.toNat_of_nonneg h0] at this; exact this
theorem or224 (x : Int) (h0 : 0 ≤ x) (h1 : x < 16) : Go.bits .or .u8 224 x = 224 + x := by have := orF_224 ⟨x.toNat, by omega⟩; simp only [Int.toNat_of_nonneg h0] at this; exact this
theorem or240 (x : Int) (h0 : 0 ≤ x) (h1 : x < 8) : Go.bits .or .u8 240 x = 240 + x := by have := orF_240 ⟨x.toNat, by omega⟩; simp only [Int.toNat_of_nonneg h0] at this; exact this
theorem and63 (x : Int) : Go.bits .and .u8 (x % 256) 63 = x % 64 := by
  have := andF_63 ⟨(x % 256).toNat, by omega⟩
  simp only [Int.toNat_of_nonneg (show 0 ≤ x % 256 by omega)] at this
  rw [this]; omega
theorem encode_spec (k : Nat) (r : Int) : chars_Encode.f (k + 1) r = some (enc r) := by
  unfold chars_Encode.f enc
  by_cases h1 : r < 0
  · simp [h1]
  rw [if_neg h1]
  by_cases h2 : r > 1114111
  · simp [h2]
  have e32 : wrap32 r = r := by unfold wrap32; omega
  rw [if_neg h2, e32]
  unfold utf8_ValidRune.f
  rw [if_pos (by omega), utf8_ValidRune.j0]
  by_cases h3 : 55296 ≤ r ∧ r ≤ 57343
  · rw [if_neg (by simp; omega), if_neg (by omega), Option.bind_some, if_neg (by decide), if_pos (by omega)]
  have hv : (if decide (r < 55296) = true then some true else if 57343 < r then if r ≤ 1114111 then some true else some false else some false) = some true := by
    by_cases h4 : r < 55296
    · rw [if_pos (decide_eq_true h4)]
    · rw [if_neg (by simpa using h4), if_pos (by omega), if_pos (by omega)]
  rw [hv, Option.bind_some, if_pos rfl, if_neg (by omega)]
  unfold utf8_AppendRune.f
  have m : r % 4294967296 = r := by omega
  rw [m]
  by_cases a1 : r < 128
  · rw [if_pos (by omega), if_pos (by decide), if_pos a1, Option.bind_some, show r % 256 = r by omega]; rfl
  rw [if_neg (by omega), if_neg a1]
  unfold utf8_appendRuneNonASCII.f
  rw [m]
  by_cases a2 : r < 2048
  · rw [if_pos (by omega), if_pos a2, Option.bind_some, and63, show r / 64 % 256 = r / 64 by omega, or192 _ (by omega) (by omega), or128 _ (by omega) (by omega)]; rfl
  rw [if_neg (by omega), if_neg a2]
  by_cases a3 : r < 65536
  · rw [if_pos a3]
    have e : utf8_appendRuneNonASCII.j0 (k + 1) [] r r true = some [224 + r / 4096, 128 + r / 64 % 64, 128 + r % 64] := by
      rw [utf8_appendRuneNonASCII.j0, if_pos rfl, Option.bind_some, and63, and63, show r / 4096 % 256 = r / 4096 by omega, or224 _ (by omega) (by omega), or128 _ (by omega) (by omega), or128 _ (by omega) (by omega)]; rfl
    by_cases a4 : r < 55296
    · rw [if_pos a4, decide_eq_true a4, e]; rfl
    · rw [if_neg a4, if_pos (by omega), decide_eq_true (show r ≤ 65535 by omega), e]; rfl
  rw [if_neg (by omega), if_pos (by omega), decide_eq_false (show ¬ r ≤ 65535 by omega), if_neg a3, utf8_appendRuneNonASCII.j0, if_neg (by decide), if_pos (by omega), if_pos (by omega), Option.bind_some, and63, and63, and63,
    show r / 262144 % 256 = r / 262144 by omega, or240 _ (by omega) (by omega), or128 _ (by omega) (by omega), or128 _ (by omega) (by omega), or128 _ (by omega) (by omega)]; rfl
theorem enc_none {r : Int} (h : enc r = []) : r < 0 ∨ 1114111 < r ∨ (55296 ≤ r ∧ r ≤ 57343) := by
  have := enc_len r
  rw [h, List.length_nil] at this
  split at this
  · rename_i h; omega
  · repeat' split at this
    all_goals omega
theorem dec_enc {r : Int} (h : ¬ (r < 0 ∨ r > 1114111 ∨ (55296 ≤ r ∧ r ≤ 57343))) : dec (enc r) = (r, ((enc r).length : Int)) ∧ enc r ≠ [] := by
  have hl := enc_len r
  rw [if_neg h] at hl
  unfold enc at hl ⊢
  rw [if_neg h] at hl ⊢
  by_cases a1 : r < 128
  · rw [if_pos a1]
    refine ⟨?_, by simp⟩
    unfold dec
    rw [if_neg (by simp), decN1 _ _ _ _ _ (by simp; omega)]
    simp [a1]
  rw [if_neg a1] at hl ⊢
  by_cases a2 : r < 2048
  · rw [if_pos a2]
    refine ⟨?_, by simp⟩
    unfold dec
    rw [if_neg (by simp)]
    simp only [List.length_cons, List.length_nil, List.getD_cons_zero, List.getD_cons_succ]
    rw [decN2 _ _ _ _ _ (by omega) (by omega), if_pos (by omega)]
    congr 1
    omega
  rw [if_neg a2] at hl ⊢
  by_cases a3 : r < 65536
  · rw [if_pos a3]
    refine ⟨?_, by simp⟩
    unfold dec
    rw [if_neg (by simp)]
    simp only [List.length_cons, List.length_nil, List.getD_cons_zero, List.getD_cons_succ]
    rw [decN3 _ _ _ _ _ (by omega) (by omega), if_pos (by omega)]
    congr 1
    omega
  · rw [if_neg a3]
    refine ⟨?_, by simp⟩
    unfold dec
    rw [if_neg (by simp)]
    simp only [List.length_cons, List.length_nil, List.getD_cons_zero, List.getD_cons_succ]
    rw [decN4 _ _ _ _ _ (by omega) (by omega), if_pos (by omega)]
    congr 1
    omega
/-- Is a character that has bytes one of XML? -/
theorem wrong_enc {r : Int} (h : enc r ≠ []) (k : Nat) : chars_Wrong.f (k + 40) (enc r) = some (if xmlC r then -1 else 0) := by
  have hv : ¬ (r < 0 ∨ r > 1114111 ∨ (55296 ≤ r ∧ r ≤ 57343)) := fun q => h (by unfold enc; rw [if_pos q])
  obtain ⟨h1, _⟩ := dec_enc hv
  have hb := enc_bytes r
  have hl : 1 ≤ (enc r).length ∧ (enc r).length ≤ 4 := by
    have := enc_len r
    rw [if_neg hv] at this
    rw [this]
    repeat' split
    all_goals omega
  unfold chars_Wrong.f
  rw [show k + 40 = (k + 29 + 10) + 1 from rfl, chars_Wrong.l0, if_pos (by omega), if_pos (by omega), if_pos (by omega), show Int.toNat 0 = 0 from rfl, List.drop_zero, chars_Decode_spec _ hb, Option.bind_some, h1]
  dsimp only
  rw [if_neg (by omega), chars_ofXML_spec, Option.bind_some]
  by_cases hx : xmlC r = true
  · rw [if_pos hx, if_pos hx, x64 _ (by omega) (by omega), show k + 29 + 10 = (k + 38) + 1 from rfl, chars_Wrong.l0, if_neg (by omega)]
  · rw [if_neg hx, if_neg hx]
end Go.Proofs.YtccfmfifnbnlmaaGreatDoor.Xm
end
section
/- chars.Encode: what it gives is nil just where it is none. -/
set_option linter.unusedVariables false
set_option linter.unusedSimpArgs false
namespace Go.Proofs.YtccfmfifnbnlmaaGreatDoor.Ev
open Go Go.RowKit Go.Proofs.YtccfmfifnbnlmaaGreatDoorW.PrintWords
theorem valid_walk (z : Int) (w : World) (h0 : 55296 ≤ z) (h1 : z ≤ 57343) : Calls Tryz.prog 77 #[.int .i32 z] w fun e w' => e = .returned (.bool false) ∧ w' = w := by
 have a1 : decide ((0 : Int) ≤ z) = true := decide_eq_true (by omega)
 have a2 : decide (z < (55296 : Int)) = false := decide_eq_false (by omega)
 have a3 : decide ((57343 : Int) < z) = false := decide_eq_false (by omega)
 go_enter Tryz.func77,Tryz.ntmps77
 go_wp2
 go_ret
 exact ⟨rfl,rfl⟩
theorem encode_nil_walk (z : Int) (w : World) (h : z < 0 ∨ 1114111 < z ∨ (55296 ≤ z ∧ z ≤ 57343)) : Calls Tryz.prog 53 #[.int .i64 z] w fun e w' => e = .returned (.slice none 0 0) ∧ w' = w := by
 rcases h with h | h | ⟨h0,h1⟩
 · go_enter Tryz.func53,Tryz.ntmps53
   go_wp2
   go_ret
   exact ⟨rfl,rfl⟩
 · go_enter Tryz.func53,Tryz.ntmps53
   go_wp2
   go_ret
   exact ⟨rfl,rfl⟩
 · have hw : IntKind.i32.wrap z = z := by rw [IntKind.wrap_i32]; omega
   go_enter Tryz.func53,Tryz.ntmps53
   go_wp2_with (go_at_call 77; refine (valid_walk _ _ (by first | omega | (rw [hw]; omega)) (by first | omega | (rw [hw]; omega))).mono ?_; rintro e w' ⟨rfl,hw'⟩; rw [hw'])
   go_ret
   exact ⟨rfl,rfl⟩
/-- A character's bytes: nil just where it has none. -/
def encS : Spec := fun args st K => match args,st.box,st.nt with
 | [.int .i64 r],[],0 => K (.ret (.sl (.int .u8) (Chars.enc r) .em)) (lcRet [] [] 0)
 | _,_,_ => none
theorem encS_ok : CallOkL Tryz.prog C0 53 encS := by
 intro args cs n K r h S w0 g w vs ha hS
 unfold encS at h
 split at h
 · rename_i z h1 h2
   obtain rfl : cs = [] := h1
   obtain rfl : n = 0 := h2
   have hlim : (lim fun k => Q.chars_Encode.f k z) = some (Chars.enc z) := lim_of (fun k => Q.chars_Encode.mono z k) (k := 0 + 1) (by omega) (Xm.encode_spec 0 z)
   by_cases he : Chars.enc z = []
   · cases ha with
     | cons ha1 ha2 =>
      cases ha2
      cases ha1
      refine (encode_nil_walk z w (Xm.enc_none he)).mono fun e w' ⟨q1,q2⟩ => ?_
      subst q1 q2
      rw [he] at h
      exact ⟨_,_,g,h,Le.refl _,hS,Same.refl _,.ret (.sl0 rfl)⟩
   · have hs := (chars_Encode.ok _ (List.mem_cons_self ..)).2
     refine (hs [.int .i64 z] [] 0 out (.ret (.sl (.int .u8) (Chars.enc z) .no),lcRet [] [] 0) ?_ S w0 g w vs ha hS).mono fun e w' ⟨res,st',g',q1,q2,q3,q4,q5⟩ => ?_
     · unfold chars_Encode.spec
       show Option.bind (lim fun k => Q.chars_Encode.f k z) _ = _
       rw [hlim]
       rfl
     · obtain ⟨rfl,rfl⟩ := Prod.mk.inj (Option.some.inj q1)
       refine ⟨_,_,g',h,q2,q3,q4,?_⟩
       cases q5 with
       | ret hv =>
        refine .ret ?_
        clear h hs hlim
        generalize Chars.enc z = l at he hv ⊢
        cases hv with
        | sl0 _ => exact absurd rfl he
        | sle _ => exact absurd rfl he
        | sl a1 a2 a3 a4 => exact .sl a1 a2 a3 (List.length_pos_iff.2 he)
 · cases h
noncomputable def specs_encS : SpecL := (53,false,encS) :: specs_xmllex_trimmed
theorem encS.ok : AllOk specs_encS := allOk_cons xmllex_trimmed.ok (fnOk_of (by kernel_rfl)) encS_ok
end Go.Proofs.YtccfmfifnbnlmaaGreatDoor.Ev
end
section
/- What is known of each function: its word; and the contexts in which it is reckoned. -/
-- prev encS
-- irreducible fullX trimX linesX numX namedX commX instX cutX containsX replX Chars.enc
set_option linter.unusedVariables false
namespace Go.Proofs.YtccfmfifnbnlmaaGreatDoor.Ev
open Go
noncomputable def cx_xmllex_numeral := cxOf specs_encS
noncomputable def xmllex_numeral.spec : Spec := fun args st K => match args,st.box,st.nt with
 | [.str s,.int .i64 q],[],0 => (numX s q).bind fun v => K (.ret (.tup [.int .i64 v.1,.bool v.2])) (lcRet [] [] 0)
 | _,_,_ => none
noncomputable def specs_xmllex_numeral : SpecL := (76,false,xmllex_numeral.spec) :: specs_encS
noncomputable def cx_xmllex_named := cxOf specs_xmllex_numeral
noncomputable def xmllex_named.spec : Spec := fun args st K => match args,st.box,st.nt with
 | [.str s],[],0 => (namedX s).bind fun v => K (.ret (.tup [.int .i64 v.1,.bool v.2])) (lcRet [] [] 0)
 | _,_,_ => none
noncomputable def specs_xmllex_named : SpecL := (52,false,xmllex_named.spec) :: specs_xmllex_numeral
noncomputable def cx_xmllex_lines := cxOf specs_xmllex_named
noncomputable def xmllex_lines.spec : Spec := fun args st K => match args,st.box,st.nt with
 | [.sl (.int .u8) b .no,.bool v],[],0 => (linesX b v).bind fun v => K (.ret (.sl (.int .u8) (v) .no)) (lcRet [] [] 0)
 | _,_,_ => none
noncomputable def specs_xmllex_lines : SpecL := (50,false,xmllex_lines.spec) :: specs_xmllex_named
noncomputable def cx_xmllex_comment := cxOf specs_xmllex_lines
noncomputable def xmllex_comment.spec : Spec := fun args st K => match args,st.box,st.nt with
 | [.sl (.int .u8) b .no],[],0 => (commX b).bind fun v => K (.ret (.int .i64 v)) (lcRet [] [] 0)
 | _,_,_ => none
noncomputable def specs_xmllex_comment : SpecL := (22,false,xmllex_comment.spec) :: specs_xmllex_lines
noncomputable def cx_xmllex_instruction := cxOf specs_xmllex_comment
noncomputable def xmllex_instruction.spec : Spec := fun args st K => match args,st.box,st.nt with
 | [.sl (.int .u8) b .no],[],0 => (instX b).bind fun v => K (.ret (.int .i64 v)) (lcRet [] [] 0)
 | _,_,_ => none
noncomputable def specs_xmllex_instruction : SpecL := (23,false,xmllex_instruction.spec) :: specs_xmllex_comment
end Go.Proofs.YtccfmfifnbnlmaaGreatDoor.Ev
end
section
/- What each function comes to, one step of it at a time: the kernel's own reckoning. -/
set_option linter.unusedVariables false
set_option maxRecDepth 100000
namespace Go.Proofs.YtccfmfifnbnlmaaGreatDoor.Ev
open Go Go.RowKit
open Go.IntKind (i64 u8 i32 u64)
noncomputable def xmllex_numeral.L0 (n k0 : Nat) (s : ByteArray) (q : Int) (j0 : ByteArray) (j1 j2 : Int) (j3 : List Int) (j4 j5 : Int) : Option (Rr U0) := loopF cx_xmllex_numeral noCalls k0 0 ([(0,false),(1,false),(6,false),(11,false),(12,false),(13,false)]) ((siteC (Tryz.f76.body.getD .skip) [1,1,0,1,0]).getD .skip) (siteK cx_xmllex_numeral noCalls n [] (Tryz.f76.body.getD .skip) [1,1,0,1,0] (bodyK cx_xmllex_numeral Tryz.f76 (lcSt [] 0) (callK false [] [] (lcSt [] 0) out))) (St.mk [(0,.str j0),(1,.int .i64 j1),(6,.int .i64 j2),(11,.sl (.int .u8) j3 .no),(12,.int .i64 j4),(13,.int .i64 j5)] [] [] 0 0 0 0 0 76 [] 52)
theorem xmllex_numeral.L0_s (n k0 : Nat) (s : ByteArray) (q : Int) (j0 : ByteArray) (j1 j2 : Int) (j3 : List Int) (j4 j5 : Int) : xmllex_numeral.L0 n (k0 + 1) s q j0 j1 j2 j3 j4 j5 = if decide (j5 < j4) = true then if 0 ≤ j5 then ((nth j3 j5.toNat).bind fun v0 => ((Q.strings_IndexByte.f (ByteArray.mk #[48,49,50,51,52,53,54,55,56,57,97,98,99,100,101,102]) (bits BinOp.or IntKind.u8 v0 ((bits BinOp.and IntKind.u8 v0 (64 : Int)).fdiv ((2 : Int) ^ min (Int.toNat (1 : Int)) IntKind.u8.bits)))).bind fun v1 => if (if decide (v1 < 0) = true then true else decide (v1 ≥ j1)) = true then some (.ret (.tup [.int .i64 0,.bool false]),lcRet [] [] 0) else if decide (i64.wrap (i64.wrap (j2 * j1) + v1) > 1114111) = true then some (.ret (.tup [.int .i64 0,.bool false]),lcRet [] [] 0) else (xmllex_numeral.L0 n k0 s q j0 j1 (i64.wrap (i64.wrap (j2 * j1) + v1)) j3 j4 (i64.wrap (j5 + 1))))) else none else if (!seq j0 (ByteArray.mk #[])) = true then ((lim fun k => Q.chars_Wrong.f k (Chars.enc j2)).bind fun v2 => if (if true = true then decide (v2 < 0) else false) = true then some (.ret (.tup [.int .i64 j2,.bool (if true = true then !(Chars.enc j2).isEmpty else false)]),lcRet [] [] 0) else some (.ret (.tup [.int .i64 j2,.bool false]),lcRet [] [] 0)) else some (.ret (.tup [.int .i64 j2,.bool false]),lcRet [] [] 0) := by kernel_rfl
theorem xmllex_numeral.top (n : Nat) (s : ByteArray) (q : Int) : callX false (fnF cx_xmllex_numeral noCalls n 76) ([.str s,.int .i64 q]) (lcSt [] 0) out = (xmllex_numeral.L0 n n s q s q 0 (toBytes s) ((↑(toBytes s).length : Int)) 0) := by kernel_rfl
theorem xmllex_named.top (n : Nat) (s : ByteArray) : callX false (fnF cx_xmllex_named noCalls n 52) ([.str s]) (lcSt [] 0) out = if seq s (ByteArray.mk #[108,116]) = true then some (.ret (.tup [.int .i64 60,.bool true]),lcRet [] [] 0) else if seq s (ByteArray.mk #[103,116]) = true then some (.ret (.tup [.int .i64 62,.bool true]),lcRet [] [] 0) else if seq s (ByteArray.mk #[97,109,112]) = true then some (.ret (.tup [.int .i64 38,.bool true]),lcRet [] [] 0) else if seq s (ByteArray.mk #[97,112,111,115]) = true then some (.ret (.tup [.int .i64 39,.bool true]),lcRet [] [] 0) else if seq s (ByteArray.mk #[113,117,111,116]) = true then some (.ret (.tup [.int .i64 34,.bool true]),lcRet [] [] 0) else ((Q.strings_CutPrefix.f s (ByteArray.mk #[35])).bind fun v0 => if (!v0.2) = true then some (.ret (.tup [.int .i64 0,.bool false]),lcRet [] [] 0) else ((Q.strings_CutPrefix.f v0.1 (ByteArray.mk #[120])).bind fun v1 => if v1.2 = true then ((numX v1.1 (16 : Int)).bind fun v2 => some (.ret (.tup [.int .i64 v2.1,.bool v2.2]),lcRet [] [] 0)) else ((numX v0.1 (10 : Int)).bind fun v3 => some (.ret (.tup [.int .i64 v3.1,.bool v3.2]),lcRet [] [] 0)))) := by kernel_rfl
theorem xmllex_lines.top (n : Nat) (b : List Int) (v : Bool) : callX false (fnF cx_xmllex_lines noCalls n 50) ([.sl (.int .u8) b .no,.bool v]) (lcSt [] 0) out = ((replX b [(13 : Int),(10 : Int)] [(10 : Int)]).bind fun v0 => ((replX v0 [(13 : Int)] [(10 : Int)]).bind fun v1 => if v = true then ((replX v1 [(10 : Int)] [(32 : Int)]).bind fun v2 => ((replX v2 [(9 : Int)] [(32 : Int)]).bind fun v3 => some (.ret (.sl (.int .u8) v3 .no),lcRet [] [] 0))) else some (.ret (.sl (.int .u8) v1 .no),lcRet [] [] 0))) := by kernel_rfl
theorem xmllex_comment.top (n : Nat) (b : List Int) : callX false (fnF cx_xmllex_comment noCalls n 22) ([.sl (.int .u8) b .no]) (lcSt [] 0) out = if (4 : Int) ≤ (↑b.length : Int) then if (byteB (List.drop (Int.toNat (4 : Int)) b) = true ∧ byteB [(45 : Int),(45 : Int)] = true) ∧ (List.drop (Int.toNat (4 : Int)) b).length < 4294967281 ∧ 0 < [(45 : Int),(45 : Int)].length ∧ [(45 : Int),(45 : Int)].length ≤ 1000 then if decide (bIndexW (List.drop (Int.toNat (4 : Int)) b) [(45 : Int),(45 : Int)] < 0) = true then some (.ret (.int .i64 0),lcRet [] [] 0) else if 0 ≤ i64.wrap ((4 : Int) + bIndexW (List.drop (Int.toNat (4 : Int)) b) [(45 : Int),(45 : Int)]) then if i64.wrap ((4 : Int) + bIndexW (List.drop (Int.toNat (4 : Int)) b) [(45 : Int),(45 : Int)]) ≤ (↑b.length : Int) then ((Q.bytes_HasPrefix.f (List.drop (i64.wrap ((4 : Int) + bIndexW (List.drop (Int.toNat (4 : Int)) b) [(45 : Int),(45 : Int)])).toNat b) [(45 : Int),(45 : Int),(62 : Int)]).bind fun v0 => if (if false = true then true else !v0) = true then some (.ret (.int .i64 0),lcRet [] [] 0) else some (.ret (.int .i64 (i64.wrap (bIndexW (List.drop (Int.toNat (4 : Int)) b) [(45 : Int),(45 : Int)] + 7))),lcRet [] [] 0)) else none else none else none else none := by kernel_rfl
theorem xmllex_instruction.top (n : Nat) (b : List Int) : callX false (fnF cx_xmllex_instruction noCalls n 23) ([.sl (.int .u8) b .no]) (lcSt [] 0) out = if (2 : Int) ≤ (↑b.length : Int) then ((lim fun k => Q.xmllex_nameOf.f k (List.drop (Int.toNat (2 : Int)) b)).bind fun v0 => if 0 ≤ i64.wrap ((2 : Int) + (↑v0.length : Int)) then if i64.wrap ((2 : Int) + (↑v0.length : Int)) ≤ (↑b.length : Int) then if (byteB (List.drop (i64.wrap ((2 : Int) + (↑v0.length : Int))).toNat b) = true ∧ byteB [(63 : Int),(62 : Int)] = true) ∧ (List.drop (i64.wrap ((2 : Int) + (↑v0.length : Int))).toNat b).length < 4294967281 ∧ 0 < [(63 : Int),(62 : Int)].length ∧ [(63 : Int),(62 : Int)].length ≤ 1000 then if (if ((↑v0.length : Int) == 0) = true then true else decide (bIndexW (List.drop (i64.wrap ((2 : Int) + (↑v0.length : Int))).toNat b) [(63 : Int),(62 : Int)] < 0)) = true then some (.ret (.int .i64 0),lcRet [] [] 0) else if decide (bIndexW (List.drop (i64.wrap ((2 : Int) + (↑v0.length : Int))).toNat b) [(63 : Int),(62 : Int)] > 0) = true then ((nth (List.drop (i64.wrap ((2 : Int) + (↑v0.length : Int))).toNat b) (Int.toNat (0 : Int))).bind fun v1 => ((Q.chars_Space.f (i64.wrap v1)).bind fun v2 => if (if false = true then true else if true = true then !v2 else false) = true then some (.ret (.int .i64 0),lcRet [] [] 0) else some (.ret (.int .i64 (i64.wrap (i64.wrap (i64.wrap ((2 : Int) + (↑v0.length : Int)) + bIndexW (List.drop (i64.wrap ((2 : Int) + (↑v0.length : Int))).toNat b) [(63 : Int),(62 : Int)]) + 2))),lcRet [] [] 0))) else some (.ret (.int .i64 (i64.wrap (i64.wrap (i64.wrap ((2 : Int) + (↑v0.length : Int)) + bIndexW (List.drop (i64.wrap ((2 : Int) + (↑v0.length : Int))).toNat b) [(63 : Int),(62 : Int)]) + 2))),lcRet [] [] 0) else none else none else none) else none := by kernel_rfl
end Go.Proofs.YtccfmfifnbnlmaaGreatDoor.Ev
end
section
/- The evaluator's trees are the functions: numerals, line ends, comments, instructions. -/
set_option linter.unusedVariables false
set_option linter.unusedSimpArgs false
namespace Go.Proofs.YtccfmfifnbnlmaaGreatDoor.Ev
open Go Go.RowKit Go.Proofs.YtccfmfifnbnlmaaGreatDoorW.PrintWords
theorem str_toBytes (s : ByteArray) (l : List UInt8) : (seq s (ByteArray.mk ⟨l⟩) = true) = (toBytes s = l.map fun b => (b.toNat : Int)) := by
 rw [seq_list,ba_list,ByteArray.toList_eq]
 unfold toBytes
 apply propext
 constructor
 · intro h; rw [h]
 · intro h
   have inj : ∀ (x y : List UInt8),(x.map fun b => (b.toNat : Int)) = (y.map fun b => (b.toNat : Int)) → x = y := by
    intro x
    induction x with
    | nil => intro y h; cases y with | nil => rfl | cons _ _ => cases h
    | cons a x ih =>
     intro y h
     cases y with
     | nil => cases h
     | cons b y =>
      rw [List.map_cons,List.map_cons] at h
      injection h with h1 h2
      rw [ih y h2,UInt8.toNat_inj.1 (show a.toNat = b.toNat by omega)]
   exact inj _ _ h
theorem cutP_spec (s : ByteArray) (x : UInt8) : Q.strings_CutPrefix.f s (ByteArray.mk #[x]) = some (if (toBytes s).take 1 = [(x.toNat : Int)] then (s.extract 1 s.size,true) else (s,false)) := by
 unfold Q.strings_CutPrefix.f Q.stringslite_CutPrefix.f Q.stringslite_HasPrefix.f
 have e1 : ((ByteArray.mk #[x]).size : Int) = 1 := rfl
 rw [e1]
 have hl : (toBytes s).length = s.size := toBytes_len s
 by_cases h : (s.size : Int) ≥ 1
 · rw [if_pos h,if_pos (by decide),if_pos h,Option.bind_some]
   have e2 : ((s.extract 0 (Int.toNat 1)).toList == (ByteArray.mk #[x]).toList) = decide ((toBytes s).take 1 = [(x.toNat : Int)]) := by
    rw [ba_list,ByteArray.toList_eq]
    have : (s.extract 0 (Int.toNat 1)).data.toList = s.data.toList.take 1 := by simp [ByteArray.data_extract]
    rw [this]
    unfold toBytes
    rw [← List.map_take,Bool.eq_iff_iff,beq_iff_eq,decide_eq_true_eq]
    constructor
    · intro q; rw [q]; rfl
    · intro q
      cases hd : s.data.toList.take 1 with
      | nil => rw [hd] at q; cases q
      | cons a t =>
       rw [hd,List.map_cons] at q
       injection q with q1 q2
       obtain rfl := List.map_eq_nil_iff.1 q2
       rw [UInt8.toNat_inj.1 (show a.toNat = x.toNat by omega)]
   rw [e2]
   by_cases h2 : (toBytes s).take 1 = [(x.toNat : Int)]
   · rw [if_pos (decide_eq_true h2),if_pos (by decide),if_pos h,if_pos h2]; rfl
   · rw [if_neg (by simpa using h2),if_neg h2]; rfl
 · rw [if_neg h,if_neg (c := (toBytes s).take 1 = [(x.toNat : Int)])]
   · rfl
   · intro q
     have := congrArg List.length q
     rw [List.length_take] at this
     simp at this
     omega
theorem toBytes_extract (s : ByteArray) (i : Nat) : toBytes (s.extract i s.size) = (toBytes s).drop i := by
 unfold toBytes
 have : (s.extract i s.size).data.toList = s.data.toList.drop i := by
  rw [ByteArray.data_extract,Array.toList_extract]
  simp only [List.extract_eq_take_drop]
  rw [List.take_of_length_le]
  rw [List.length_drop,Array.length_toList]
  exact Nat.le_refl _
 rw [this,List.map_drop]
theorem preP_spec {l m : List Int} (hl : byteB l = true) (hm : byteB m = true) : Q.bytes_HasPrefix.f l m = some (decide (l.take m.length = m)) := by
 unfold Q.bytes_HasPrefix.f Q.bytes_Equal.f
 by_cases h : (l.length : Int) ≥ (m.length : Int)
 · rw [if_pos h,if_pos (by omega),if_pos (by omega),Int.toNat_natCast]
   simp only [Option.bind_some]
   congr 1
   rw [Bool.eq_iff_iff,decide_eq_true_eq,beq_iff_eq]
   exact Chars.str_inj (Chars.Bytes.take (byteB_all hl) _) (byteB_all hm)
 · rw [if_neg h,decide_eq_false]
   intro q
   have := congrArg List.length q
   rw [List.length_take] at this
   omega
theorem byteB_drop {l : List Int} (h : byteB l = true) (n : Nat) : byteB (l.drop n) = true := by
 have := byteB_all h
 unfold byteB
 rw [List.all_eq_true]
 intro x hx
 have := this x (List.mem_of_mem_drop hx)
 simp [this]
theorem byteB_take {l : List Int} (h : byteB l = true) (n : Nat) : byteB (l.take n) = true := by
 have := byteB_all h
 unfold byteB
 rw [List.all_eq_true]
 intro x hx
 have := this x (List.mem_of_mem_take hx)
 simp [this]
theorem byteB_to (s : ByteArray) : byteB (toBytes s) = true := by
 unfold byteB toBytes
 rw [List.all_eq_true]
 intro x hx
 obtain ⟨b,_,rfl⟩ := List.mem_map.1 hx
 have := b.toNat_lt
 simp
 omega
theorem bIndex_lt {l m : List Int} : -1 ≤ bIndexW l m ∧ (bIndexW l m : Int) + (if bIndexW l m = -1 then 0 else m.length) ≤ l.length := by
 have h1 := bIndex_ge l m
 refine ⟨h1,?_⟩
 split
 · rename_i h; rw [h]; omega
 · have := bIndex_room (b := l) (c := m) (by omega)
   exact this
def numR (s : ByteArray) : Option Int → Int × Bool
 | none => (0,false)
 | some n => (n,!(toBytes s).isEmpty && Chars.xmlC n)
theorem num_L0 (n : Nat) (s : ByteArray) (q : Int) (hq : q = 10 ∨ q = 16) (hs : s.size ≤ 8000000) : ∀ (d i k : Nat) (acc : Int),i + d = (toBytes s).length → 0 ≤ acc → acc ≤ 1114111 →
 xmllex_numeral.L0 n (k + d + 1) s q s q acc (toBytes s) ((toBytes s).length : Int) (i : Int) = (fun v : Int × Bool => (some (.ret (.tup [.int .i64 v.1,.bool v.2]),lcRet [] [] 0) : Option (Rr U0))) (numR s (Xm.numGo q acc ((toBytes s).drop i))) := by
 intro d
 have hlen := toBytes_len s
 induction d with
 | zero =>
  intro i k acc hi h0 h1
  rw [show k + 0 + 1 = k + 1 from rfl,xmllex_numeral.L0_s,if_neg (by rw [decide_eq_true_eq]; omega),List.drop_of_length_le (by omega),Xm.numGo]
  unfold numR
  dsimp only
  have hse : (seq s (ByteArray.mk #[]) = true) = (toBytes s = []) := str_toBytes s []
  by_cases he : toBytes s = []
  · rw [if_neg (by rw [Bool.not_eq_true',hse.mpr he]; decide),he]
    rfl
  · have hse' : seq s (ByteArray.mk #[]) = false := by rw [← Bool.not_eq_true,hse]; exact he
    rw [if_pos (by rw [hse']; rfl)]
    have hie : (toBytes s).isEmpty = false := by cases h : toBytes s with | nil => exact absurd h he | cons _ _ => rfl
    rw [hie]
    by_cases hn : Chars.enc acc = []
    · have hx : Chars.xmlC acc = false := by
       have := Xm.enc_none hn
       unfold Chars.xmlC
       rw [decide_eq_false]
       omega
      have hw0 : Q.chars_Wrong.f 1 [] = some (-1) := by unfold Q.chars_Wrong.f; rw [Q.chars_Wrong.l0,if_neg (by simp)]
      have hw : (lim fun k => Q.chars_Wrong.f k ([] : List Int)) = some (-1) := lim_of (fun k => Q.chars_Wrong.mono [] k) (k := 1) (by omega) hw0
      rw [hn,hw,hx]
      rfl
    · have hw : (lim fun k => Q.chars_Wrong.f k (Chars.enc acc)) = some (if Chars.xmlC acc then -1 else 0) := lim_of (fun k => Q.chars_Wrong.mono _ k) (k := 0 + 40) (by omega) (Xm.wrong_enc hn 0)
      have hie2 : (Chars.enc acc).isEmpty = false := by cases h : Chars.enc acc with | nil => exact absurd h hn | cons _ _ => rfl
      rw [hw,hie2,Option.bind_some]
      cases Chars.xmlC acc <;> rfl
 | succ d ih =>
  intro i k acc hi h0 h1
  have hlt : i < (toBytes s).length := by omega
  have hb := byteB_all (byteB_to s) ((toBytes s)[i]'hlt) (List.getElem_mem hlt)
  rw [show k + (d + 1) + 1 = (k + d + 1) + 1 from rfl,xmllex_numeral.L0_s,if_pos (by rw [decide_eq_true_eq]; omega),if_pos (by omega),Int.toNat_natCast,nth_get,List.getElem?_eq_getElem hlt,Option.bind_some]
  unfold Q.strings_IndexByte.f
  rw [Option.bind_some,show (ByteArray.mk #[(48 : UInt8),(49 : UInt8),(50 : UInt8),(51 : UInt8),(52 : UInt8),(53 : UInt8),(54 : UInt8),(55 : UInt8),(56 : UInt8),(57 : UInt8),(97 : UInt8),(98 : UInt8),(99 : UInt8),(100 : UInt8),(101 : UInt8),(102 : UInt8)]).data.toList = hexS from rfl,dig_ok hb.1 hb.2,List.drop_eq_getElem_cons hlt,Xm.numGo]
  generalize (toBytes s)[i]'hlt = x at hb ⊢
  have hd : Xm.digC x ≤ 15 := by unfold Xm.digC; repeat' split; all_goals omega
  by_cases c0 : Xm.digC x < 0 ∨ Xm.digC x ≥ q
  · rw [if_pos (by rw [ite_or,decide_eq_true_eq,decide_eq_true_eq]; exact c0),if_pos c0]
    rfl
  rw [if_neg (by rw [ite_or,decide_eq_true_eq,decide_eq_true_eq]; exact c0),if_neg c0]
  have e1 : IntKind.i64.wrap (IntKind.i64.wrap (acc * q) + Xm.digC x) = acc * q + Xm.digC x := by
   have hb2 : 0 ≤ acc * q ∧ acc * q ≤ 17825776 := by rcases hq with rfl | rfl <;> omega
   rw [wrap_64,wrap_64]; unfold wrap64; omega
  have hge : 0 ≤ acc * q := by rcases hq with rfl | rfl <;> omega
  rw [e1]
  by_cases c1 : acc * q + Xm.digC x > 1114111
  · rw [if_pos (decide_eq_true c1),if_pos c1]; rfl
  · have e2 : IntKind.i64.wrap ((i : Int) + 1) = ((i + 1 : Nat) : Int) := by rw [wrap_64]; unfold wrap64; omega
    rw [if_neg (by simpa using c1),if_neg c1,e2,ih (i + 1) k _ (by omega) (by omega) (by omega)]
theorem xmllex_numeral.ok : AllOk specs_xmllex_numeral := okS (cx := cx_xmllex_numeral) rfl encS.ok (by kernel_rfl) fun args cs n K r g => by
 unfold xmllex_numeral.spec at g
 dsimp only [lcSt] at g
 split at g
 · rename_i s q
   obtain ⟨v,h,h2⟩ := bind2 g
   clear g
   refine okG h2 ?_
   clear h2
   refine ⟨0 + (toBytes s).length + 1,?_⟩
   rw [xmllex_numeral.top]
   unfold numX at h
   split at h
   · rename_i hs
     obtain rfl := Option.some.inj h
     have := num_L0 (0 + (toBytes s).length + 1) s q hs.2 hs.1 (toBytes s).length 0 0 0 (by omega) (by omega) (by omega)
     rw [List.drop_zero] at this
     refine this.trans ?_
     unfold Xm.numW
     cases Xm.numGo q 0 (toBytes s) <;> rfl
   · cases h
 · cases g
theorem xmllex_named.ok : AllOk specs_xmllex_named := okS (cx := cx_xmllex_named) rfl xmllex_numeral.ok (by kernel_rfl) fun args cs n K r g => by
 unfold xmllex_named.spec at g
 dsimp only [lcSt] at g
 split at g
 · rename_i s
   obtain ⟨v,h,h2⟩ := bind2 g
   clear g
   refine okG h2 ?_
   clear h2
   refine ⟨0,?_⟩
   rw [xmllex_named.top]
   unfold namedX at h
   split at h
   · rename_i hs
     obtain rfl := Option.some.inj h
     unfold Xm.namedW
     have e (l : List UInt8) := str_toBytes s l
     have e1 : (seq s (ByteArray.mk #[(108 : UInt8),(116 : UInt8)]) = true) = (toBytes s = [108,116]) := e [108,116]
     have e2 : (seq s (ByteArray.mk #[(103 : UInt8),(116 : UInt8)]) = true) = (toBytes s = [103,116]) := e [103,116]
     have e3 : (seq s (ByteArray.mk #[(97 : UInt8),(109 : UInt8),(112 : UInt8)]) = true) = (toBytes s = [97,109,112]) := e [97,109,112]
     have e4 : (seq s (ByteArray.mk #[(97 : UInt8),(112 : UInt8),(111 : UInt8),(115 : UInt8)]) = true) = (toBytes s = [97,112,111,115]) := e [97,112,111,115]
     have e5 : (seq s (ByteArray.mk #[(113 : UInt8),(117 : UInt8),(111 : UInt8),(116 : UInt8)]) = true) = (toBytes s = [113,117,111,116]) := e [113,117,111,116]
     by_cases c1 : toBytes s = [108,116]
     · rw [if_pos (e1.mpr c1),if_pos c1]
     rw [if_neg (fun q => c1 (e1.mp q)),if_neg c1]
     by_cases c2 : toBytes s = [103,116]
     · rw [if_pos (e2.mpr c2),if_pos c2]
     rw [if_neg (fun q => c2 (e2.mp q)),if_neg c2]
     by_cases c3 : toBytes s = [97,109,112]
     · rw [if_pos (e3.mpr c3),if_pos c3]
     rw [if_neg (fun q => c3 (e3.mp q)),if_neg c3]
     by_cases c4 : toBytes s = [97,112,111,115]
     · rw [if_pos (e4.mpr c4),if_pos c4]
     rw [if_neg (fun q => c4 (e4.mp q)),if_neg c4]
     by_cases c5 : toBytes s = [113,117,111,116]
     · rw [if_pos (e5.mpr c5),if_pos c5]
     rw [if_neg (fun q => c5 (e5.mp q)),if_neg c5,cutP_spec,Option.bind_some]
     have hl := toBytes_len s
     by_cases c6 : (toBytes s).take 1 = [35]
     · rw [if_pos (show (toBytes s).take 1 = [((35 : UInt8).toNat : Int)] from c6),if_pos c6]
       dsimp only
       rw [if_neg (by decide),cutP_spec,Option.bind_some,toBytes_extract]
       have hl2 : (s.extract 1 s.size).size = s.size - 1 := by rw [ByteArray.size_extract]; omega
       by_cases c7 : ((toBytes s).drop 1).take 1 = [120]
       · rw [if_pos (show ((toBytes s).drop 1).take 1 = [((120 : UInt8).toNat : Int)] from c7),if_pos c7]
         dsimp only
         rw [if_pos rfl]
         unfold numX
         rw [if_pos ⟨by rw [ByteArray.size_extract]; omega,.inr rfl⟩,Option.bind_some,toBytes_extract,toBytes_extract,List.drop_drop]
       · rw [if_neg (show ¬ ((toBytes s).drop 1).take 1 = [((120 : UInt8).toNat : Int)] from c7),if_neg c7]
         dsimp only
         rw [if_neg (by decide)]
         unfold numX
         rw [if_pos ⟨by omega,.inl rfl⟩,Option.bind_some,toBytes_extract]
     · rw [if_neg (show ¬ (toBytes s).take 1 = [((35 : UInt8).toNat : Int)] from c6),if_neg c6]
       rfl
   · cases h
 · cases g
theorem replX_ok {l m r : List Int} (h1 : byteB l = true) (h2 : byteB m = true) (h3 : l.length < 4294967281 ∧ 1 ≤ m.length ∧ m.length ≤ 2 ∧ r.length = 1) : replX l m r = some (replW l m r) := by
 unfold replX
 rw [if_pos ⟨⟨h1,h2⟩,h3⟩]
theorem xmllex_lines.ok : AllOk specs_xmllex_lines := okS (cx := cx_xmllex_lines) rfl xmllex_named.ok (by kernel_rfl) fun args cs n K r g => by
 unfold xmllex_lines.spec at g
 dsimp only [lcSt] at g
 split at g
 · rename_i b v
   obtain ⟨v,h,h2⟩ := bind2 g
   clear g
   refine okG h2 ?_
   clear h2
   refine ⟨0,?_⟩
   rw [xmllex_lines.top]
   unfold linesX at h
   split at h
   · rename_i hs
     obtain rfl := Option.some.inj h
     obtain ⟨h1,h2⟩ := hs
     obtain ⟨k1,k2⟩ := byteB_crlf h1
     have m1 : replW (crlf b) [13] [10] = (crlf b).map r2n := replW_one (by decide) k1
     have b1 : byteB ((crlf b).map r2n) = true := byteB_map (by decide) k1
     have m2 : replW ((crlf b).map r2n) [10] [32] = ((crlf b).map r2n).map n2s := replW_one (by decide) b1
     have b2 : byteB (((crlf b).map r2n).map n2s) = true := byteB_map (by decide) b1
     have m3 : replW (((crlf b).map r2n).map n2s) [9] [32] = (((crlf b).map r2n).map n2s).map t2s := replW_one (by decide) b2
     rw [replX_ok h1 (by decide) ⟨by omega,by decide,by decide,by decide⟩,Option.bind_some,replW_crlf h1,replX_ok k1 (by decide) ⟨by omega,by decide,by decide,by decide⟩,Option.bind_some,m1]
     unfold linesW
     cases v with
     | true =>
      rw [if_pos rfl,if_pos rfl,replX_ok b1 (by decide) ⟨by rw [List.length_map]; omega,by decide,by decide,by decide⟩,Option.bind_some,m2,replX_ok b2 (by decide) ⟨by rw [List.length_map,List.length_map]; omega,by decide,by decide,by decide⟩,Option.bind_some,m3]
     | false => rw [if_neg (by decide),if_neg (by decide)]
   · cases h
 · cases g
theorem xmllex_comment.ok : AllOk specs_xmllex_comment := okS (cx := cx_xmllex_comment) rfl xmllex_lines.ok (by kernel_rfl) fun args cs n K r g => by
 unfold xmllex_comment.spec at g
 dsimp only [lcSt] at g
 split at g
 · rename_i b
   obtain ⟨v,h,h2⟩ := bind2 g
   clear g
   refine okG h2 ?_
   clear h2
   refine ⟨0,?_⟩
   rw [xmllex_comment.top]
   unfold commX at h
   split at h
   · rename_i hs
     obtain rfl := Option.some.inj h
     obtain ⟨⟨h1,h2⟩,h3⟩ := hs
     have hb := byteB_drop h1 4
     have hd : (b.drop 4).length = b.length - 4 := List.length_drop ..
     obtain ⟨q1,q2⟩ := bIndex_lt (l := b.drop 4) (m := [45,45])
     rw [if_pos (by omega),show Int.toNat 4 = 4 from rfl,if_pos ⟨⟨hb,by decide⟩,by omega,by decide,by decide⟩]
     unfold commW
     generalize bIndexW (b.drop 4) [45,45] = i at q1 q2 ⊢
     by_cases c0 : i < 0
     · rw [if_pos (decide_eq_true c0),if_pos (.inl c0)]
     have e0 : (if i = -1 then 0 else ([45,45] : List Int).length) = 2 := if_neg (by omega)
     rw [e0] at q2
     have e1 : IntKind.i64.wrap (4 + i) = ((4 + i.toNat : Nat) : Int) := by rw [wrap_64]; unfold wrap64; omega
     have e2 : IntKind.i64.wrap (i + 7) = i + 7 := by rw [wrap_64]; unfold wrap64; omega
     rw [if_neg (by simpa using c0),e1,if_pos (by omega),if_pos (by omega),Int.toNat_natCast,preP_spec (byteB_drop h1 _) (by decide),Option.bind_some,e2]
     by_cases c1 : (b.drop (4 + i.toNat)).take 3 = [45,45,62]
     · rw [if_neg (by rw [false_or_b,Bool.not_eq_true',decide_eq_true (show (b.drop (4 + i.toNat)).take ([45,45,62] : List Int).length = [45,45,62] from c1)]; decide),if_neg]
       rintro (q | q)
       · exact c0 q
       · exact q c1
     · rw [if_pos (by rw [false_or_b,Bool.not_eq_true',decide_eq_false (show ¬ (b.drop (4 + i.toNat)).take ([45,45,62] : List Int).length = [45,45,62] from c1)]),if_pos (.inr c1)]
   · cases h
 · cases g
theorem space_spec (x : Int) : Q.chars_Space.f x = some (blankC x) := by
 unfold Q.chars_Space.f blankC
 by_cases h1 : x = 32
 · simp [h1]
 by_cases h2 : x = 9
 · simp [h2]
 by_cases h3 : x = 10
 · simp [h3]
 by_cases h4 : x = 13
 · simp [h4]
 simp [h1,h2,h3,h4]
theorem xmllex_instruction.ok : AllOk specs_xmllex_instruction := okS (cx := cx_xmllex_instruction) rfl xmllex_comment.ok (by kernel_rfl) fun args cs n K r g => by
 unfold xmllex_instruction.spec at g
 dsimp only [lcSt] at g
 split at g
 · rename_i b
   obtain ⟨v,h,h2⟩ := bind2 g
   clear g
   refine okG h2 ?_
   clear h2
   refine ⟨0,?_⟩
   rw [xmllex_instruction.top]
   unfold instX at h
   split at h
   · rename_i hs
     obtain rfl := Option.some.inj h
     obtain ⟨⟨h1,h2⟩,h3⟩ := hs
     have hb := byteB_drop h1 2
     have hd : (b.drop 2).length = b.length - 2 := List.length_drop ..
     have hle := Xm.nameL_le (byteB_bytes hb)
     rw [if_pos (by omega),show Int.toNat 2 = 2 from rfl,nameOf_lim (byteB_bytes hb) (by omega),Option.bind_some]
     unfold instW
     generalize Xm.nameL (b.drop 2) = t at hle ⊢
     dsimp only
     have e1 : (((b.drop 2).take t).length : Int) = (t : Int) := by rw [List.length_take]; omega
     have e2 : IntKind.i64.wrap (2 + (t : Int)) = ((2 + t : Nat) : Int) := by rw [wrap_64]; unfold wrap64; omega
     have hb2 := byteB_drop h1 (2 + t)
     have hd2 : (b.drop (2 + t)).length = b.length - (2 + t) := List.length_drop ..
     obtain ⟨q1,q2⟩ := bIndex_lt (l := b.drop (2 + t)) (m := [63,62])
     rw [e1,e2,if_pos (by omega),if_pos (by omega),Int.toNat_natCast,if_pos ⟨⟨hb2,by decide⟩,by omega,by decide,by decide⟩]
     generalize hr : b.drop (2 + t) = r at q1 q2 hb2 hd2 ⊢
     generalize bIndexW r [63,62] = i at q1 q2 ⊢
     by_cases c0 : t = 0 ∨ i < 0
     · rw [if_pos (by rw [ite_or,beq_iff_eq,decide_eq_true_eq]; omega),if_pos (c0.elim .inl (fun q => .inr (.inl q)))]
     have e0 : (if i = -1 then 0 else ([63,62] : List Int).length) = 2 := if_neg (by omega)
     rw [e0] at q2
     have e3 : IntKind.i64.wrap (IntKind.i64.wrap (((2 + t : Nat) : Int) + i) + 2) = 2 + t + i + 2 := by rw [wrap_64,wrap_64]; unfold wrap64; omega
     rw [if_neg (by rw [ite_or,beq_iff_eq,decide_eq_true_eq]; omega),e3]
     by_cases c1 : i > 0
     · have hlt : 0 < r.length := by omega
       have hx := byteB_all hb2 (r[0]'hlt) (List.getElem_mem hlt)
       have eg : r.getD 0 0 = r[0]'hlt := by rw [List.getD_eq_getElem?_getD,List.getElem?_eq_getElem hlt]; rfl
       rw [if_pos (decide_eq_true c1),show Int.toNat 0 = 0 from rfl,nth_get,List.getElem?_eq_getElem hlt,Option.bind_some,show IntKind.i64.wrap (r[0]'hlt) = r[0]'hlt by rw [wrap_64]; unfold wrap64; omega,space_spec,Option.bind_some,eg]
       by_cases c2 : blankC (r[0]'hlt) = true
       · rw [if_neg (by rw [false_or_b,true_and_b,c2]; decide),if_neg]
         rintro (q | q | q)
         · omega
         · omega
         · rw [c2] at q; cases q.2
       · rw [if_pos (by rw [false_or_b,true_and_b]; simpa using c2),if_pos (.inr (.inr ⟨c1,by simpa using c2⟩))]
     · rw [if_neg (by simpa using c1),if_neg]
       omega
   · cases h
 · cases g
end Go.Proofs.YtccfmfifnbnlmaaGreatDoor.Ev
end
section
/- The words of functions, as calls from any memory: for what is walked by hand. -/
set_option linter.unusedVariables false
set_option linter.unusedSimpArgs false
namespace Go.Proofs.YtccfmfifnbnlmaaGreatDoor.Ev
open Go Go.RowKit
theorem assumed_below {w w' : World} (h : Assumed w) (hb : Below w.heap.size w w') : Assumed w' := by
 refine ⟨?_,h.2.keptBut (hb.frame (fun _ => False)) (fun _ q => q.elim)⟩
 first
  | exact trivial
  | exact Go.Proofs.YtccfmfifnbnlmaaGreatDoorH.Laid_below h.1 hb
/-- A function's word, from any memory. -/
theorem callWord {f : FuncId} {spec : Spec} {args : List (AVal U0)} {v : AVal U0} {st' : St U0} {w : World} (hs : CallOkL Tryz.prog C0 f spec) (h : spec args (lcSt [] 0) out = some (.ret v,st')) (hA : Assumed w) (cs : List Value) (ha : RelVs C0 (g0 w) args cs) :
 Calls Tryz.prog f cs.toArray w fun e w' => ∃ c,e = .returned c ∧ Below w.heap.size w w' ∧ ∃ g' : Gh,(∀ b o x,g'.own b o = .imm x → w'.cell? ⟨b,o,none⟩ = some x) ∧ RelV C0 g' v c :=
 (hs args [] 0 out _ h _ w (g0 w) w cs ha (srel0 hA 0)).mono fun e w' ⟨res,st',g',h1,h2,h3,h4,h5⟩ => by
  obtain ⟨rfl,_⟩ := Prod.mk.inj (Option.some.inj h1)
  cases h5 with
  | ret hv => exact ⟨_,rfl,below_of' h3,g',h3.h.imm,hv⟩
/-- Bytes at an address; those that are some stand below block B. -/
structure Sb (B : Nat) (w : World) (l : List Int) (p : Option Addr) (c : Nat) : Prop where
 le : l.length ≤ c
 none : p = none → c = 0
 spot : c ≠ 0 → ∀ a,p = some a → a.spot = .none
 at' : 0 < l.length → ∃ blk off,p = some ⟨blk,off,.none⟩ ∧ blk < B ∧ ∀ i,i < l.length → w.cell? ⟨blk,off + i,.none⟩ = some (.int .u8 (l.getD i 0))
theorem imm0 {w : World} {blk off : Nat} {l : List Int} (h : ∀ i,i < l.length → w.cell? ⟨blk,off + i,none⟩ = some (.int .u8 (l.getD i 0))) : Imm (g0 w) blk off (l.map (Value.int .u8)) := fun j v hv => by
 rw [g0_imm]
 have hlt : j < l.length := by have := (List.getElem?_eq_some_iff.1 hv).1; rwa [List.length_map] at this
 rw [h j hlt]
 rw [List.getElem?_map,List.getElem?_eq_getElem hlt] at hv
 rw [List.getD_eq_getElem?_getD,List.getElem?_eq_getElem hlt]
 exact hv
theorem Sb.rel {B : Nat} {w : World} {l : List Int} {p : Option Addr} {c : Nat} (h : Sb B w l p c) : RelV C0 (g0 w) (.sl (.int .u8) l .no) (.slice p l.length c) := by
 cases hl : l with
 | nil =>
  cases p with
  | none => rw [h.none rfl]; exact .sl0 rfl
  | some a =>
   by_cases hc : c = 0
   · rw [hc]; exact .sle rfl
   · obtain ⟨blk,off,spot⟩ := a
     obtain rfl := h.spot hc _ rfl
     exact .sl (vs := []) .nil (fun j v hv => by cases hv) (Nat.zero_le _) trivial
 | cons x t =>
  rw [← hl]
  obtain ⟨blk,off,rfl,h1,h2⟩ := h.at' (by rw [hl]; simp)
  exact .sl (RelVs.ofNums _) (imm0 h2) h.le trivial
theorem Sb.below {B : Nat} {w w' : World} {l : List Int} {p : Option Addr} {c : Nat} (h : Sb B w l p c) (hB : B ≤ w.heap.size) (hb : Below B w w') : Sb B w' l p c :=
 ⟨h.le,h.none,h.spot,fun h0 => by
  obtain ⟨blk,off,e,h1,h2⟩ := h.at' h0
  exact ⟨blk,off,e,h1,fun i hi => by rw [World.cell?_of_block (hb.block blk h1)]; exact h2 i hi⟩⟩
theorem Sb.take {B : Nat} {w : World} {l : List Int} {p : Option Addr} {c : Nat} (h : Sb B w l p c) {i : Nat} (hi : i ≤ l.length) : Sb B w (l.take i) p c :=
 ⟨by rw [List.length_take]; have := h.le; omega,h.none,h.spot,fun h0 => by
  rw [List.length_take] at h0
  obtain ⟨blk,off,e,h1,h2⟩ := h.at' (by omega)
  refine ⟨blk,off,e,h1,fun j hj => ?_⟩
  rw [List.length_take] at hj
  rw [h2 j (by omega),List.getD_eq_getElem?_getD,List.getD_eq_getElem?_getD,List.getElem?_take,if_pos (by omega)]⟩
/-- What is left of a slice. -/
def fromP (p : Option Addr) (c j : Nat) : Option Addr := if c = j then p else p.map (fun x => x.add j)
theorem Sb.drop {B : Nat} {w : World} {l : List Int} {p : Option Addr} {c : Nat} (h : Sb B w l p c) {j : Nat} (hj : j ≤ l.length) : Sb B w (l.drop j) (fromP p c j) (c - j) := by
 have hle := h.le
 refine ⟨by rw [List.length_drop]; omega,fun q => ?_,fun hc a q => ?_,fun h0 => ?_⟩
 · unfold fromP at q
   split at q
   · omega
   · rw [Option.map_eq_none_iff] at q
     have := h.none q
     omega
 · unfold fromP at q
   split at q
   · exact h.spot (by omega) a q
   · obtain ⟨b,hb,rfl⟩ := Option.map_eq_some_iff.1 q
     have := h.spot (by omega) b hb
     obtain ⟨blk,off,spot⟩ := b
     obtain rfl : spot = .none := this
     rw [Lib.addr_add]
 · rw [List.length_drop] at h0
   obtain ⟨blk,off,e,h1,h2⟩ := h.at' (by omega)
   refine ⟨blk,off + j,?_,h1,fun i hi => ?_⟩
   · unfold fromP
     rw [if_neg (by omega),e,Option.map_some,Lib.addr_add]
   · rw [List.length_drop] at hi
     rw [Nat.add_assoc,h2 (j + i) (by omega),List.getD_eq_getElem?_getD,List.getD_eq_getElem?_getD,List.getElem?_drop]
theorem Sb.nil (B : Nat) (w : World) : Sb B w [] Option.none 0 := ⟨Nat.le_refl _,fun _ => rfl,fun _ a h => (by cases h),fun h => absurd h (Nat.lt_irrefl 0)⟩
theorem map_add {p : Option Addr} (h : ∀ a,p = some a → a.spot = none) (k : Nat) : p.map (fun x => ({ block := x.block,off := x.off + k } : Addr)) = p.map (fun x => x.add k) := by
 cases p with
 | none => rfl
 | some a =>
  obtain ⟨blk,off,spot⟩ := a
  obtain rfl : spot = none := h _ rfl
  rw [Option.map_some,Option.map_some,Lib.addr_add]
/-- bytes.Cut at one byte: the parts stand where the whole stands. -/
theorem cut_walk (B : Nat) (l : List Int) (p : Option Addr) (n c : Nat) (x : Int) (b2 o2 c2 : Nat) (w : World) (hn : l.length = n) (h : Sb B w l p c) (hb : byteB l = true) (hx : 0 ≤ x ∧ x < 256) (hl : l.length ≤ 8000000) (hc2 : 1 ≤ c2) (h2 : w.cell? ⟨b2,o2,none⟩ = some (.int .u8 x)) (hA : Assumed w) :
 Calls Tryz.prog 48 #[.slice p n c,.slice (some ⟨b2,o2,none⟩) 1 c2] w fun e w' => Below w.heap.size w w' ∧
  ((0 ≤ bIndexW l [x] ∧ e = .returned (.tuple #[.slice p (bIndexW l [x]).toNat c,.slice (fromP p c ((bIndexW l [x]).toNat + 1)) (n - ((bIndexW l [x]).toNat + 1)) (c - ((bIndexW l [x]).toNat + 1)),.bool true])) ∨
   (bIndexW l [x] < 0 ∧ e = .returned (.tuple #[.slice p n c,.slice none 0 0,.bool false]))) := by
 have hle := h.le
 have hsp : Aside (c ≠ 0 → ∀ a,p = some a → a.spot = none) := h.spot
 obtain ⟨q1,q2⟩ := bIndex_lt (l := l) (m := [x])
 have hidx : Calls Tryz.prog 41 #[.slice p n c,.slice (some ⟨b2,o2,none⟩) 1 c2] w fun e w' => e = .returned (.int .i64 (bIndexW l [x])) ∧ Below w.heap.size w w' := by
  have hm : byteB [x] = true := by unfold byteB; rw [List.all_cons,List.all_nil,Bool.and_true,Bool.and_eq_true]; exact ⟨decide_eq_true hx.1,decide_eq_true hx.2⟩
  have hs : bIndexS (U := U0) [.sl (.int .u8) l .no,.sl (.int .u8) [x] .no] (lcSt [] 0) out = some (.ret (.int .i64 (bIndexW l [x])),lcRet [] [] 0) := by
   unfold bIndexS
   dsimp only
   rw [if_pos ⟨⟨hb,hm⟩,by omega,by simp,by simp⟩]
   rfl
  have hr2 : RelV C0 (g0 w) (.sl (.int .u8) [x] .no) (.slice (some ⟨b2,o2,none⟩) 1 c2) := by
   have := RelV.sl (C := C0) (g := g0 w) (t := .int .u8) (l := [x]) (p := .no) (blk := b2) (off := o2) (cap := c2) (RelVs.ofNums _) (imm0 (l := [x]) fun i hi => by
    simp only [List.length_cons,List.length_nil] at hi
    obtain rfl : i = 0 := by omega
    exact h2) hc2 trivial
   exact this
  have := callWord bIndexS_ok hs hA [.slice p n c,.slice (some ⟨b2,o2,none⟩) 1 c2] (.cons (by rw [← hn]; exact h.rel) (.cons hr2 .nil))
  refine this.mono fun e w' ⟨c,h1,h2,g',_,h4⟩ => ?_
  cases h4
  exact ⟨h1,h2⟩
 generalize bIndexW l [x] = i at q1 q2 hidx ⊢
 by_cases h0 : 0 ≤ i
 · obtain ⟨j,rfl⟩ : ∃ j : Nat,i = j := ⟨i.toNat,by omega⟩
   rw [if_neg (by omega)] at q2
   simp only [List.length_cons,List.length_nil] at q2
   clear hx h2 hA h
   have mixed : Tryz.prog.follows .mixedOrders = true := by kernel_rfl
   go_enter Tryz.func48,Tryz.ntmps48
   go_wp2_with (go_at_call 41; refine hidx.mono ?_; rintro e w' ⟨rfl,hw⟩)
   go_region_o
   all_goals go_wp2
   all_goals go_ret3
   all_goals refine ⟨⟨hw.os,hw.tape,hw.output,hw.size,hw.block⟩,?_⟩
   all_goals first | exact .inl ⟨h0,by simp [fromP, *]⟩ | (simp [fromP, *]; done) | (simp [fromP, *]; exact map_add (hsp.out (by omega)) _)
 · clear hx h2 hA h
   go_enter Tryz.func48,Tryz.ntmps48
   go_wp2_with (go_at_call 41; refine hidx.mono ?_; rintro e w' ⟨rfl,hw⟩)
   go_ret3
   first | exact ⟨hw,.inr ⟨by omega,rfl⟩⟩ | (refine ⟨hw,?_⟩; simp; omega)
end Go.Proofs.YtccfmfifnbnlmaaGreatDoor.Ev
end
section
-- PRINTED BY print.sh 35421559b90ae4d0a3588c463048766b98c2df88dd9212a6774a882060cdf62d: not written by this session
/-! ### 50. A region's order in a table, made once a region: each step asks the table (numbers alone), not the operations -/
namespace Go.Proofs.YtccfmfifnbnlmaaGreatDoorW.PrintLast
open Go.Proofs.YtccfmfifnbnlmaaGreatDoorW.PrintWords (Aside0)
def needsOf (md : Region.Mode) (o : Oper) : List Nat := (o.after.toList.filter (fun e => Region.binds md e)).map (fun e => e.on)
def clashOf (md : Region.Mode) (ops : Array Oper) (i : Nat) (oi : Oper) : List Nat := (List.range ops.size).filter fun j => !(j == i) && match ops[j]? with
  | some oj => !(oj.after.any (fun e => Region.binds md e && e.on == i) || oi.apart ops oj)
  | none => false
/-- No select in it; for each operation: what must have come up before it, and what may not come up behind it if it is taken first. -/
def rtab (md : Region.Mode) (ops : Array Oper) : Bool × List (List Nat × List Nat) := (Region.noSelect ops, (List.range ops.size).map fun i => match ops[i]? with
  | some o => (needsOf md o, clashOf md ops i o)
  | none => ([], []))
def readyAt (T : List (List Nat × List Nat)) (l : List Bool) (i : Nat) : Bool := !l.getD i true && match T[i]? with
  | some r => r.1.all (fun j => l.getD j false)
  | none => false
def readyT (T : List (List Nat × List Nat)) (l : List Bool) : List Nat := (List.range T.length).filter (readyAt T l)
def freeT (T : List (List Nat × List Nat)) (l : List Bool) (i : Nat) : Bool := match T[i]? with
  | some r => r.2.all (fun j => l.getD j true)
  | none => false
def closedT (T : List (List Nat × List Nat)) (l : List Bool) : Bool := (List.range T.length).all fun j => !l.getD j false || match T[j]? with
  | some r => r.1.all (fun k => l.getD k false)
  | none => true
def reachT (T : List (List Nat × List Nat)) (i : Nat) : Nat → Nat → Bool
  | 0, _ => false
  | fuel + 1, d => match T[d]? with
    | some r => r.1.any fun j => j == i || reachT T i fuel j
    | none => false
def lastT (T : List (List Nat × List Nat)) (l : List Bool) (ds : List Nat) (i : Nat) : Bool := ds.all fun d => l.getD d true || reachT T i T.length d
section
variable {md : Region.Mode} {ops : Array Oper} {T : Bool × List (List Nat × List Nat)} {l l' li lj lk : Array Bool} {ds : List Nat} {i j k : Nat}
theorem gd (l : Array Bool) (j : Nat) (b : Bool) : l.getD j b = l.toList.getD j b := by simp [Array.getD_eq_getD_getElem?, List.getD_eq_getElem?_getD]
def anyT (T : Bool × List (List Nat × List Nat)) (l l' : List Bool) (i : Nat) : Bool := T.1 && freeT T.2 l i && readyAt T.2 l i && (l.set i true == l')
def takeT (T : Bool × List (List Nat × List Nat)) (ds : List Nat) (l l' : List Bool) (i : Nat) : Bool := T.1 && freeT T.2 l i && readyAt T.2 l i && closedT T.2 l && lastT T.2 l ds i && (l.set i true == l')
/-- What d waits for, as_ bits: told in the table (B), checked in one pass: each bit is a need of d, or a bit of an earlier need's. -/
def upM (B : List Nat) (d : Nat) : List Nat → Nat
  | [] => 0
  | n :: r => (2 ^ n ||| (if n < d then B.getD n 0 else 0)) ||| upM B d r
def waitsOk (T : List (List Nat × List Nat)) (B : List Nat) : Bool := (List.range T.length).all fun d => match T[d]? with
  | some r => (B.getD d 0 ||| upM B d r.1) == upM B d r.1
  | none => false
def lastW (T : List (List Nat × List Nat)) (B : List Nat) (l : List Bool) (ds : List Nat) (i : Nat) : Bool := ds.all fun d => l.getD d true || (decide (d < T.length) && (B.getD d 0).testBit i)
def takeW (T : Bool × List (List Nat × List Nat)) (B : List Nat) (ds : List Nat) (l l' : List Bool) (i : Nat) : Bool := T.1 && freeT T.2 l i && readyAt T.2 l i && closedT T.2 l && lastW T.2 B l ds i && (l.set i true == l')
end
/-- The operations of a region, by its number. -/
def opsIn : Code → Nat → Option (Array Oper)
  | .region id ops _, k => if id == k then some ops else none
  | .seq a b, k => match opsIn a k with
    | some o => some o
    | none => opsIn b k
  | .cond _ a b, k => match opsIn a k with
    | some o => some o
    | none => opsIn b k
  | .block _ c, k => opsIn c k
  | .loop c, k => opsIn c k
  | .scope c, k => opsIn c k
  | .rangeFunc _ _ a b, k => match opsIn a k with
    | some o => some o
    | none => opsIn b k
  | _, _ => none
def opsOf (f : Func) (k : Nat) : Array Oper := ((f.body.bind fun c => opsIn c k)).getD #[]
end Go.Proofs.YtccfmfifnbnlmaaGreatDoorW.PrintLast
end
section
-- PRINTED BY print.sh 35421559b90ae4d0a3588c463048766b98c2df88dd9212a6774a882060cdf62d: not written by this session
/-! ### 56. Four, five, six operations that may come up next, in any order -/
namespace Go.Proofs.YtccfmfifnbnlmaaGreatDoorW.PrintLast
section
variable {P : Program} {ops : Array Oper} {Q : Exit → Act → World → Prop} {md : Region.Mode} {S : World → Prop} {ds : List Nat} {T : Bool × List (List Nat × List Nat)}
end
end Go.Proofs.YtccfmfifnbnlmaaGreatDoorW.PrintLast
end
section
-- PRINTED BY print.sh 35421559b90ae4d0a3588c463048766b98c2df88dd9212a6774a882060cdf62d: not written by this session
/-! ### 52. A row that stays read whatever happens to a block (a set of blocks) doesn't lie there -/
namespace Go.Proofs.YtccfmfifnbnlmaaGreatDoorW.PrintWords
open Go.RowKit
namespace Kd
section
variable {α : Type} {d : Kd α} {W : World} {g n : Nat} {S ok : Nat → Prop} {A : Option Addr} {ad : Addr} {xs : List α}
end
end Kd
end Go.Proofs.YtccfmfifnbnlmaaGreatDoorW.PrintWords
end
section
-- PRINTED BY print.sh 35421559b90ae4d0a3588c463048766b98c2df88dd9212a6774a882060cdf62d: not written by this session
/-! ### 54. Behind orders that were drawn quietly: the same facts at the world's new name; a flat row's foot -/
namespace Go.Proofs.YtccfmfifnbnlmaaGreatDoorW.PrintWords
open Go.RowKit
section
variable {w w' u : World} {m B g : Nat} {o : Obj} {row : Option Nat} {S : Nat → Prop} {a : Addr} {v : Value}
end
namespace Kd
section
variable {α : Type} {d : Kd α} {e base n m : Nat} {ok : Nat → Prop} {w w' : World} {v : Value} {A : Option Addr} {xs : List α}
end
end Kd
end Go.Proofs.YtccfmfifnbnlmaaGreatDoorW.PrintWords
end
section
-- PRINTED BY print.sh 35421559b90ae4d0a3588c463048766b98c2df88dd9212a6774a882060cdf62d: not written by this session
/-! ### 53. '==' of structs as_ one Bool -/
namespace Go.Proofs.YtccfmfifnbnlmaaGreatDoorW.PrintWords
open Go.RowKit
section
variable {P : Program} {d : Nat} {xs ys : Array Value} {f : Field} {fs : List Field} {a b : Value} {r s : Bool} {w : World}
end
end Go.Proofs.YtccfmfifnbnlmaaGreatDoorW.PrintWords
end
section
-- PRINTED BY print.sh 35421559b90ae4d0a3588c463048766b98c2df88dd9212a6774a882060cdf62d: not written by this session
/-! ### 55. Reps told from the front, no append: for rows of one-cell elements and of wider ones -/
namespace Go.Proofs.YtccfmfifnbnlmaaGreatDoorW.PrintWords
/-- One cell an element. -/
theorem Reps.one {α : Type} {R : α → List Value → Prop} {ps : List α} {cs : List Value} {p : α} {v : Value} (hp : R p [v]) (h : Reps R 1 ps cs) : Reps R 1 (p :: ps) (v :: cs) := by
  refine ⟨by simp [h.1], fun j q hq => ?_⟩
  cases j with
  | zero =>
    simp only [List.getElem?_cons_zero, Option.some.injEq] at hq
    subst hq
    simpa using hp
  | succ j =>
    simp only [List.getElem?_cons_succ] at hq
    have h1 := h.2 j q hq
    simpa [Nat.mul_one] using h1
/-- More cells an element: told apart by the cells' list. -/
theorem Reps.front {α : Type} {R : α → List Value → Prop} {size : Nat} {ps : List α} {cs c all : List Value} {p : α} (hp : R p c) (hc : c.length = size) (h : Reps R size ps cs) (ha : c ++ cs = all) : Reps R size (p :: ps) all := by
  subst ha
  refine ⟨by rw [List.length_append, hc, h.1, List.length_cons, Nat.succ_mul, Nat.add_comm], fun j q hq => ?_⟩
  cases j with
  | zero =>
    simp only [List.getElem?_cons_zero, Option.some.injEq] at hq
    subst hq
    rw [Nat.zero_mul, List.drop_zero, List.take_append_of_le_length (by omega), List.take_of_length_le (by omega)]
    exact hp
  | succ j =>
    simp only [List.getElem?_cons_succ] at hq
    have h1 := h.2 j q hq
    rw [Nat.succ_mul, List.drop_append, List.drop_of_length_le (by rw [hc]; exact Nat.le_add_left _ _), List.nil_append, hc, Nat.add_sub_cancel]
    exact h1
theorem Reps.c2 {α : Type} {R : α → List Value → Prop} {ps : List α} {cs : List Value} {p : α} {va vb : Value} (hp : R p [va, vb]) (h : Reps R 2 ps cs) : Reps R 2 (p :: ps) (va :: vb :: cs) := Reps.front hp rfl h rfl
theorem Reps.c3 {α : Type} {R : α → List Value → Prop} {ps : List α} {cs : List Value} {p : α} {va vb vc : Value} (hp : R p [va, vb, vc]) (h : Reps R 3 ps cs) : Reps R 3 (p :: ps) (va :: vb :: vc :: cs) := Reps.front hp rfl h rfl
theorem Reps.c4 {α : Type} {R : α → List Value → Prop} {ps : List α} {cs : List Value} {p : α} {va vb vc vd : Value} (hp : R p [va, vb, vc, vd]) (h : Reps R 4 ps cs) : Reps R 4 (p :: ps) (va :: vb :: vc :: vd :: cs) := Reps.front hp rfl h rfl
theorem Reps.c5 {α : Type} {R : α → List Value → Prop} {ps : List α} {cs : List Value} {p : α} {va vb vc vd ve : Value} (hp : R p [va, vb, vc, vd, ve]) (h : Reps R 5 ps cs) : Reps R 5 (p :: ps) (va :: vb :: vc :: vd :: ve :: cs) := Reps.front hp rfl h rfl
theorem Reps.c6 {α : Type} {R : α → List Value → Prop} {ps : List α} {cs : List Value} {p : α} {va vb vc vd ve vf : Value} (hp : R p [va, vb, vc, vd, ve, vf]) (h : Reps R 6 ps cs) : Reps R 6 (p :: ps) (va :: vb :: vc :: vd :: ve :: vf :: cs) := Reps.front hp rfl h rfl
theorem Reps.c7 {α : Type} {R : α → List Value → Prop} {ps : List α} {cs : List Value} {p : α} {va vb vc vd ve vf vg : Value} (hp : R p [va, vb, vc, vd, ve, vf, vg]) (h : Reps R 7 ps cs) : Reps R 7 (p :: ps) (va :: vb :: vc :: vd :: ve :: vf :: vg :: cs) := Reps.front hp rfl h rfl
theorem Reps.c8 {α : Type} {R : α → List Value → Prop} {ps : List α} {cs : List Value} {p : α} {va vb vc vd ve vf vg vh : Value} (hp : R p [va, vb, vc, vd, ve, vf, vg, vh]) (h : Reps R 8 ps cs) : Reps R 8 (p :: ps) (va :: vb :: vc :: vd :: ve :: vf :: vg :: vh :: cs) := Reps.front hp rfl h rfl
theorem Reps.c10 {α : Type} {R : α → List Value → Prop} {ps : List α} {cs : List Value} {p : α} {va vb vc vd ve vf vg vh vi vj : Value} (hp : R p [va, vb, vc, vd, ve, vf, vg, vh, vi, vj]) (h : Reps R 10 ps cs) : Reps R 10 (p :: ps) (va :: vb :: vc :: vd :: ve :: vf :: vg :: vh :: vi :: vj :: cs) := Reps.front hp rfl h rfl
end Go.Proofs.YtccfmfifnbnlmaaGreatDoorW.PrintWords
end
section
-- PRINTED BY print.sh 35421559b90ae4d0a3588c463048766b98c2df88dd9212a6774a882060cdf62d: not written by this session
/-! ### 57. A region of open order by ONE relation over what is listed so far: each operation is shown once, whatever came up before it -/
namespace Go.Proofs.YtccfmfifnbnlmaaGreatDoorW.PrintLast
/-- Number i is listed too. -/
def up (b : Nat → Bool) (i : Nat) : Nat → Bool := fun j => if j = i then true else b j
/-- What is listed: O's operations by b, all else already. -/
def lof (n : Nat) (O : List Nat) (b : Nat → Bool) : List Bool := (List.range n).map fun j => if O.contains j then b j else true
/-- The destinations of what is listed are filled. -/
def putSel (a : Act) (b : Nat → Bool) : List (Nat × Tmp × Value) → Act
  | [] => a
  | e :: r => putSel (if b e.1 = true then a.put (some e.2.1) e.2.2 else a) b r
section
variable {P : Program} {ops : Array Oper} {Q : Exit → Act → World → Prop} {md : Region.Mode} {T : Bool × List (List Nat × List Nat)} {B : List Nat} {O : List Nat} {b : Nat → Bool} {i j n : Nat}
/-- The step of operation i: out of the relation, it not being listed, all it waits for being so, and nothing that waits for it. -/
def StepAt (P : Program) (ops : Array Oper) (Q : Exit → Act → World → Prop) (B : List Nat) (O : List Nat) (I : (Nat → Bool) → Act → World → Prop) (i : Nat) : Prop :=
  ∀ b a w, I b a w → b i = false → (∀ j, (O.contains j && (B.getD i 0).testBit j) = true → b j = true) → (∀ d, (O.contains d && (B.getD d 0).testBit i) = true → b d = false) →
    ∃ oi, ops[i]? = some oi ∧ ∀ K : Act → World → Prop, Shut (∀ a' w', I (up b i) a' w' → K a' w') → if Region.wanted oi (yielded ops a.tmps) = true then Oper.wp P oi a w K Q else K (a.put oi.dst undef) w
/-- Every edge goes to an earlier operation; what is listed already waits for nothing of O; O's numbers are the region's, each once. -/
def baseOk (T : List (List Nat × List Nat)) (O : List Nat) : Bool :=
  (List.range T.length).all (fun d => match T[d]? with
    | some r => (O.contains d || r.1.all fun n => !O.contains n) && r.1.all fun n => decide (n < d)
    | none => false) && O.all (fun i => decide (i < T.length)) && decide O.Nodup
def Closed (T : List (List Nat × List Nat)) (O : List Nat) (b : Nat → Bool) : Prop := ∀ d r, T[d]? = some r → O.contains d = true → b d = true → ∀ n ∈ r.1, O.contains n = true → b n = true
/-! The frame: what is listed has its destination filled. -/
end
end Go.Proofs.YtccfmfifnbnlmaaGreatDoorW.PrintLast
end
section
-- PRINTED BY print.sh 35421559b90ae4d0a3588c463048766b98c2df88dd9212a6774a882060cdf62d: not written by this session
namespace Go.Proofs.YtccfmfifnbnlmaaGreatDoorW.PrintWords
open Go.RowKit
end Go.Proofs.YtccfmfifnbnlmaaGreatDoorW.PrintWords
namespace Go.Proofs.YtccfmfifnbnlmaaGreatDoorW.PrintLast
section
variable {ops : Array Oper} {a : Act} {o og : Oper} {g : Nat} {t : Tmp} {u : Bool}
end
end Go.Proofs.YtccfmfifnbnlmaaGreatDoorW.PrintLast
end
section
-- PRINTED BY print.sh 35421559b90ae4d0a3588c463048766b98c2df88dd9212a6774a882060cdf62d: not written by this session
/-! ### 58. A guarded operation whose guard is known to want it: the same goal without the guard -/
namespace Go.Proofs.YtccfmfifnbnlmaaGreatDoorW.PrintWords
open Go.RowKit
section
variable {P : Program} {ops : Array Oper} {rest : List Oper} {o : Oper} {a : Act} {Q : Exit → Act → World → Prop} {W : World}
/-- The gate takes the guard off (hw: 'by rfl', 'by kernel_rfl': the guard's slot holds what is wanted). -/
theorem gate_guard (hw : Region.wanted o (yielded ops a.tmps) = true) (h : wpList P ops Q ({ o with guard := none } :: rest) a W) : wpList P ops Q (o :: rest) a W := by
  have h1 : Region.wanted { o with guard := none } (yielded ops a.tmps) = true := rfl
  unfold wpList at h ⊢
  rw [if_pos h1] at h
  rw [if_pos hw]
  exact h
end
end Go.Proofs.YtccfmfifnbnlmaaGreatDoorW.PrintWords
end
section
/- dossierref05.plain, walked: it writes into its own row. The text was printed by this session's program (p2, wip/p2/fake_plain.py). -/
set_option linter.unusedVariables false
set_option linter.unusedSimpArgs false
namespace Go.Proofs.YtccfmfifnbnlmaaGreatDoor.Pl
open Go.RowKit Go.Proofs.YtccfmfifnbnlmaaGreatDoorH Go.Proofs.YtccfmfifnbnlmaaGreatDoorW.PrintWords Go.Proofs.YtccfmfifnbnlmaaGreatDoorW.PrintLast Go.Proofs.YtccfmfifnbnlmaaGreatDoorW.PrintMore
attribute [local go_sem] max2_int min2_int max_two min_two max_three min_three max_four min_four
theorem info5 : (Tryz.prog.info? 5).map (fun i => (i.zero,i.size,i.bytes)) = some (some (.int .u8 0),1,1) := by kernel_rfl
/-! ### dossierref05_plain -/
mutual
def dossierref05_plain.l0 : Nat → List Int → Bool → List Int → List Int → Int → Int → Option (List Int)
 | 0,_,_,_,_,_,_ => none
 | k + 1,x0,x1,x5,x10,x11,x12 => if x12 < x11 then (if 0 ≤ x12 then (if x12 < (x10.length : Int) then (if (rd x10 x12) = 13 then (if (wrap64 (x12 + 1)) < (x0.length : Int) then (if 0 ≤ (wrap64 (x12 + 1)) then (dossierref05_plain.j1 k x0 x1 x5 (rd x10 x12) x10 x11 x12 ((rd x0 (wrap64 (x12 + 1))) == 10)) else (none)) else (dossierref05_plain.j1 k x0 x1 x5 (rd x10 x12) x10 x11 x12 false)) else (dossierref05_plain.j1 k x0 x1 x5 (rd x10 x12) x10 x11 x12 false)) else (none)) else (none)) else (dossierref05_plain.l1 k x1 x5 (x5.length : Int) 0)
def dossierref05_plain.j1 : Nat → List Int → Bool → List Int → Int → List Int → Int → Int → Bool → Option (List Int)
 | 0,_,_,_,_,_,_,_,_ => none
 | k + 1,x0,x1,x5,x7,x10,x11,x12,x21 => if x21 = true then (dossierref05_plain.l0 k x0 x1 x5 x10 x11 (wrap64 (x12 + 1))) else (if x7 = 13 then (if x5.length < 140737488355328 then (dossierref05_plain.l0 k x0 x1 (x5 ++ [10]) x10 x11 (wrap64 (x12 + 1))) else (none)) else (if x5.length < 140737488355328 then (dossierref05_plain.l0 k x0 x1 (x5 ++ [x7]) x10 x11 (wrap64 (x12 + 1))) else (none)))
def dossierref05_plain.l1 : Nat → Bool → List Int → Int → Int → Option (List Int)
 | 0,_,_,_,_ => none
 | k + 1,x1,x5,x47,x48 => if x48 < x47 then (if 0 ≤ x48 then (if x48 < (x5.length : Int) then (if x1 = true then (if (rd x5 x48) = 9 then (dossierref05_plain.l1 k x1 (x5.set (x48 : Int).toNat 32) x47 (wrap64 (x48 + 1))) else (if (rd x5 x48) = 10 then (dossierref05_plain.l1 k x1 (x5.set (x48 : Int).toNat 32) x47 (wrap64 (x48 + 1))) else (dossierref05_plain.l1 k x1 x5 x47 (wrap64 (x48 + 1))))) else (dossierref05_plain.l1 k x1 x5 x47 (wrap64 (x48 + 1)))) else (none)) else (none)) else (some x5)
end
def dossierref05_plain.f (k : Nat) (l0 : List Int) (a1 : Bool) : Option (List Int) := dossierref05_plain.l0 k l0 a1 ([] : List Int) l0 (l0.length : Int) 0
theorem dossierref05_plain.mono_l : ∀ k,(∀ y0 y1 y2 y3 y4 y5,LeO (dossierref05_plain.l0 k y0 y1 y2 y3 y4 y5) (dossierref05_plain.l0 (k + 1) y0 y1 y2 y3 y4 y5)) ∧ (∀ y0 y1 y2 y3 y4 y5 y6 y7,LeO (dossierref05_plain.j1 k y0 y1 y2 y3 y4 y5 y6 y7) (dossierref05_plain.j1 (k + 1) y0 y1 y2 y3 y4 y5 y6 y7)) ∧ (∀ y0 y1 y2 y3,LeO (dossierref05_plain.l1 k y0 y1 y2 y3) (dossierref05_plain.l1 (k + 1) y0 y1 y2 y3))
 | 0 => ⟨fun _ _ _ _ _ _ r h => by simp [dossierref05_plain.l0] at h,fun _ _ _ _ _ _ _ _ r h => by simp [dossierref05_plain.j1] at h,fun _ _ _ _ r h => by simp [dossierref05_plain.l1] at h⟩
 | k + 1 => by
  obtain ⟨ih0,ih1,ih2⟩ := dossierref05_plain.mono_l k
  refine ⟨?_,?_,?_⟩
  · intro y0 y1 y2 y3 y4 y5
    unfold dossierref05_plain.l0
    repeat' first
    | (with_reducible exact ih0 _ _ _ _ _ _)
    | (with_reducible exact ih1 _ _ _ _ _ _ _ _)
    | (with_reducible exact ih2 _ _ _ _)
    | (with_reducible exact LeO.refl _)
    | (with_reducible exact LeO.none _)
    | (with_reducible refine LeO.ite ?_ ?_)
    | (with_reducible refine LeO.bind ?_ (fun _ => ?_))
    | exact ih0 _ _ _ _ _ _
    | exact ih1 _ _ _ _ _ _ _ _
    | exact ih2 _ _ _ _
    | exact LeO.none _
    | refine LeO.ite ?_ ?_
    | refine LeO.bind ?_ (fun _ => ?_)
  · intro y0 y1 y2 y3 y4 y5 y6 y7
    unfold dossierref05_plain.j1
    repeat' first
    | (with_reducible exact ih0 _ _ _ _ _ _)
    | (with_reducible exact ih1 _ _ _ _ _ _ _ _)
    | (with_reducible exact ih2 _ _ _ _)
    | (with_reducible exact LeO.refl _)
    | (with_reducible exact LeO.none _)
    | (with_reducible refine LeO.ite ?_ ?_)
    | (with_reducible refine LeO.bind ?_ (fun _ => ?_))
    | exact ih0 _ _ _ _ _ _
    | exact ih1 _ _ _ _ _ _ _ _
    | exact ih2 _ _ _ _
    | exact LeO.none _
    | refine LeO.ite ?_ ?_
    | refine LeO.bind ?_ (fun _ => ?_)
  · intro y0 y1 y2 y3
    unfold dossierref05_plain.l1
    repeat' first
    | (with_reducible exact ih0 _ _ _ _ _ _)
    | (with_reducible exact ih1 _ _ _ _ _ _ _ _)
    | (with_reducible exact ih2 _ _ _ _)
    | (with_reducible exact LeO.refl _)
    | (with_reducible exact LeO.none _)
    | (with_reducible refine LeO.ite ?_ ?_)
    | (with_reducible refine LeO.bind ?_ (fun _ => ?_))
    | exact ih0 _ _ _ _ _ _
    | exact ih1 _ _ _ _ _ _ _ _
    | exact ih2 _ _ _ _
    | exact LeO.none _
    | refine LeO.ite ?_ ?_
    | refine LeO.bind ?_ (fun _ => ?_)
theorem dossierref05_plain.mono : ∀ a0 a1 k,LeO (dossierref05_plain.f k a0 a1) (dossierref05_plain.f (k + 1) a0 a1) := by
 intro a0 a1 k
 obtain ⟨ih0,ih1,ih2⟩ := dossierref05_plain.mono_l k
 unfold dossierref05_plain.f
 repeat' first
  | (with_reducible exact ih0 _ _ _ _ _ _)
  | (with_reducible exact ih1 _ _ _ _ _ _ _ _)
  | (with_reducible exact ih2 _ _ _ _)
  | (with_reducible exact LeO.refl _)
  | (with_reducible exact LeO.none _)
  | (with_reducible refine LeO.ite ?_ ?_)
  | (with_reducible refine LeO.bind ?_ (fun _ => ?_))
  | exact ih0 _ _ _ _ _ _
  | exact ih1 _ _ _ _ _ _ _ _
  | exact ih2 _ _ _ _
  | exact LeO.none _
  | refine LeO.ite ?_ ?_
  | refine LeO.bind ?_ (fun _ => ?_)
set_option maxHeartbeats 8000000 in
set_option maxRecDepth 100000 in
theorem dossierref05_plain.calls (k : Nat) (A0 : Option Addr) (c0 : Nat) (l0 : List Int) (a1 : Bool) (r : List Int) (w : World) (hr0 : Kd.C (Kd.int .u8) w A0 l0.length l0) (hc0 : l0.length ≤ c0) (h : dossierref05_plain.f k l0 a1 = some r) :
 Calls Tryz.prog 38 #[.slice A0 l0.length c0,.bool a1] w fun e w' => ∃ v0_ : Value,e = .returned (v0_) ∧ Kd.R (Kd.int .u8) 5 w' w.heap.size (fun _ => True) v0_ r ∧ Below w.heap.size w w' := by
 have HR0 := Aside0.mk hr0
 have HC0 := Aside0.mk hc0
 clear hr0 hc0
 have HB := Aside0.mk (Below.refl w.heap.size w)
 have H : (dossierref05_plain.l0 k l0 a1 ([] : List Int) l0 (l0.length : Int) 0) = some r := h
 clear h
 have H' := Aside0.mk H
 clear H
 go_enter Tryz.func38,Tryz.ntmps38
 go_wp2
 go_loopg [5,12] k (fun kq v5 v12 w' => ∃ (x5_1 : List Int) (x12_1 : Int),v12 = .int .i64 x12_1 ∧ Aside0 (dossierref05_plain.l0 kq l0 a1 x5_1 l0 (l0.length : Int) x12_1 = some r) ∧ Aside0 (kq ≤ k) ∧ Aside0 (Kd.R (Kd.int .u8) 5 w' w.heap.size (fun _ => True) v5 x5_1) ∧ Aside0 (Below w.heap.size w w'))
 case atStart => exact ⟨(([] : List Int)),(0),(by first | rfl | (simp; done) | (simp [*]; done)),H',⟨Nat.le_refl _⟩,⟨by first | exact Kd.R_nil _ _ _ _ _ | exact Kd.N_nil _ _ _ _ _ | exact Kd.V_nil _ _ _ _ _ | exact Kd.Q_nil _ _ _ _ _ | exact Kd.S_nil _ _ _ _ _⟩,⟨by repeat (first | (with_reducible first | exact HB.out | apply below_alloc | apply pw_below_drewN | apply below_drew1 | apply bytes_below1) | exact HB.out)⟩⟩
 case round =>
  clear H'
  try clear p2
  obtain ⟨x5_1,x12_1,rfl,HA,HK1,HO_5,HB⟩ := hrel
  cases gk with
  | zero => exact absurd HA.out (by simp [dossierref05_plain.l0])
  | succ k1 =>
   have H := HA.out
   clear HA
   simp only [dossierref05_plain.l0] at H
   by_cases c3 : x12_1 < (l0.length : Int)
   · rw [if_pos c3] at H
     have c3b0 : decide (x12_1 < (l0.length : Int)) = true := decide_eq_true c3
     clear c3
     by_cases c4 : 0 ≤ x12_1
     · rw [if_pos c4] at H
       have c4b0 : decide (0 ≤ x12_1) = true := decide_eq_true c4
       clear c4
       by_cases c5 : x12_1 < (l0.length : Int)
       · rw [if_pos c5] at H
         have c5b0 : decide (x12_1 < (l0.length : Int)) = true := decide_eq_true c5
         clear c5
         have HC6 := Aside0.mk H
         clear H
         have p316 : 0 ≤ (x12_1 : Int) := of_decide_eq_true (by first | (with_reducible assumption) | assumption)
         have q316 : x12_1 < (l0.length : Int) := of_decide_eq_true (by first | (with_reducible assumption) | assumption)
         obtain ⟨ad316,e316,hx316_0⟩ := Kd.at_int HR0.out x12_1 p316 q316
         cases e316
         replace hx316_0 := (HB.out.cell (World.block_lt_of_cell? w _ hx316_0)).trans hx316_0
         replace p316 := eq_true p316
         replace q316 := eq_true q316
         go_upto_region 6 with (fail)
         go_cut [21] (fun v21 wc => ∃ (kq : Nat) (x21_5 : Bool),v21 = .bool x21_5 ∧ Aside0 (dossierref05_plain.j1 kq l0 a1 x5_1 (rd l0 x12_1) l0 (l0.length : Int) x12_1 x21_5 = some r) ∧ Aside0 (kq ≤ k1) ∧ Aside0 (Kd.R (Kd.int .u8) 5 wc w.heap.size (fun _ => True) u5 x5_1) ∧ Aside0 (Below w.heap.size w wc))
         case first =>
          have H := HC6.out
          clear HC6
          by_cases c7 : (rd l0 x12_1) = 13
          · rw [if_pos c7] at H
            have c7b0 : ((rd l0 x12_1) == 13) = true := beq_iff_eq.mpr c7
            have c7b1 : ((rd l0 x12_1) != 13) = false := bne_eq_false_iff_eq.mpr c7
            clear c7
            (first | rw [c7b0] | (simp only [i64_w,i32_w]; rw [c7b0]) | skip)
            by_cases c8 : (wrap64 (x12_1 + 1)) < (l0.length : Int)
            · rw [if_pos c8] at H
              have c8b0 : decide ((wrap64 (x12_1 + 1)) < (l0.length : Int)) = true := decide_eq_true c8
              clear c8
              obtain ⟨ji9,hji9⟩ : ∃ j_ : Int,(wrap64 (x12_1 + 1)) = j_ := ⟨_,rfl⟩
              replace H : (if 0 ≤ (ji9) then (dossierref05_plain.j1 k1 l0 a1 x5_1 (rd l0 x12_1) l0 (l0.length : Int) x12_1 ((rd l0 (ji9)) == 10)) else (none)) = some r := by first | (rw [hji9] at H; exact H) | (simp only [hji9] at H ⊢; exact H)
              (try rw [hji9] at c8b0)
              have hji9w : (IntKind.i64.wrap (x12_1 + 1)) = ji9 := (i64_w _).trans hji9
              by_cases c10 : 0 ≤ (ji9)
              · rw [if_pos c10] at H
                have c10b0 : decide (0 ≤ (ji9)) = true := decide_eq_true c10
                clear c10
                have H' := Aside0.mk H
                clear H
                have p317 : 0 ≤ ((ji9) : Int) := of_decide_eq_true (by first | (with_reducible assumption) | assumption)
                have q317 : (ji9) < (l0.length : Int) := of_decide_eq_true (by first | (with_reducible assumption) | assumption)
                obtain ⟨ad317,e317,hx317_0⟩ := Kd.at_int HR0.out (ji9) p317 q317
                obtain rfl : ad316 = ad317 := (by injection e317)
                replace hx317_0 := (HB.out.cell (World.block_lt_of_cell? w _ hx317_0)).trans hx317_0
                replace p317 := eq_true p317
                replace q317 := eq_true q317
                go_wp2
                go_meet
                case rel => exact ⟨_,(((rd l0 (ji9)) == 10)),(by first | rfl | (simp; done) | (simp only [← hji9] <;> (first | rfl | simp)) | (simp [*]; done)),H',⟨by have := HK1.out; first | omega | exact Nat.le_refl _⟩,⟨by (with_reducible repeat (first | apply Kd.R_alloc | apply R_bytes | apply Kd.R_drewN | apply Kd.R_drew)); exact HO_5.out⟩,⟨by repeat (first | (with_reducible first | exact HB.out | apply below_alloc | apply pw_below_drewN | apply below_drew1 | apply bytes_below1) | exact HB.out)⟩⟩
              · rw [if_neg c10] at H
                exact absurd H (by simp)
            · rw [if_neg c8] at H
              have c8b0 : decide ((wrap64 (x12_1 + 1)) < (l0.length : Int)) = false := decide_eq_false c8
              clear c8
              have H' := Aside0.mk H
              clear H
              go_wp2
              go_meet
              case rel => exact ⟨_,(false),(by first | rfl | (simp; done) | (simp [*]; done)),H',⟨by have := HK1.out; first | omega | exact Nat.le_refl _⟩,⟨by (with_reducible repeat (first | apply Kd.R_alloc | apply R_bytes | apply Kd.R_drewN | apply Kd.R_drew)); exact HO_5.out⟩,⟨by repeat (first | (with_reducible first | exact HB.out | apply below_alloc | apply pw_below_drewN | apply below_drew1 | apply bytes_below1) | exact HB.out)⟩⟩
          · rw [if_neg c7] at H
            have c7b0 : ((rd l0 x12_1) == 13) = false := beq_eq_false_iff_ne.mpr c7
            have c7b1 : ((rd l0 x12_1) != 13) = true := bne_iff_ne.mpr c7
            (first | rw [c7b0] | (simp only [i64_w,i32_w]; rw [c7b0]) | skip)
            have H' := Aside0.mk H
            clear H
            go_wp2
            go_meet
            case rel => exact ⟨_,(false),(by first | rfl | (simp; done) | (simp [*]; done)),H',⟨by have := HK1.out; first | omega | exact Nat.le_refl _⟩,⟨by (with_reducible repeat (first | apply Kd.R_alloc | apply R_bytes | apply Kd.R_drewN | apply Kd.R_drew)); exact HO_5.out⟩,⟨by repeat (first | (with_reducible first | exact HB.out | apply below_alloc | apply pw_below_drewN | apply below_drew1 | apply bytes_below1) | exact HB.out)⟩⟩
         case rest =>
          clear HC6
          try clear c1
          try clear p2
          try clear c3
          try clear c3b0
          try clear p3
          try clear q3
          try clear hx3
          try clear c4
          try clear c4b0
          try clear c5
          try clear c5b0
          try clear p6
          try clear c7
          try clear c7b0
          try clear c7b1
          try clear c8
          try clear c8b0
          try clear c10
          try clear c10b0
          try clear hx316_0
          try clear hx317_0
          try clear p2
          try clear p316
          try clear p317
          try clear q316
          try clear q317
          obtain ⟨kq,x21_5,rfl,HA,HJ5,HO_5,HB⟩ := hcut
          cases kq with
          | zero => exact absurd HA.out (by simp [dossierref05_plain.j1])
          | succ kj5 =>
           have H := HA.out
           clear HA
           simp only [dossierref05_plain.j1] at H
           by_cases c11 : x21_5 = true
           · subst c11
             have H1 : (dossierref05_plain.l0 kj5 l0 a1 x5_1 l0 (l0.length : Int) (wrap64 (x12_1 + 1))) = some r := by rw [if_pos rfl] at H; exact H
             clear H
             have H := H1
             clear H1
             have H' := Aside0.mk H
             clear H
             go_wp2
             go_roundg kj5
             case measure => have := HK1.out; have := HJ5.out; omega
             case rel => exact ⟨(x5_1),(wrap64 (x12_1 + 1)),(by first | rfl | (simp; done) | (simp [*]; done)),H',⟨by have := HK1.out; have := HJ5.out; omega⟩,⟨by (with_reducible repeat (first | apply Kd.R_alloc | apply R_bytes | apply Kd.R_drewN | apply Kd.R_drew)); exact HO_5.out⟩,⟨by repeat (first | (with_reducible first | exact HB.out | apply below_alloc | apply pw_below_drewN | apply below_drew1 | apply bytes_below1) | exact HB.out)⟩⟩
           · replace c11 := Bool.eq_false_iff.mpr c11
             subst c11
             have H1 : (if (rd l0 x12_1) = 13 then (if x5_1.length < 140737488355328 then (dossierref05_plain.l0 kj5 l0 a1 (x5_1 ++ [10]) l0 (l0.length : Int) (wrap64 (x12_1 + 1))) else (none)) else (if x5_1.length < 140737488355328 then (dossierref05_plain.l0 kj5 l0 a1 (x5_1 ++ [(rd l0 x12_1)]) l0 (l0.length : Int) (wrap64 (x12_1 + 1))) else (none))) = some r := by rw [if_neg (show ¬ (false = true) by decide)] at H; exact H
             clear H
             have H := H1
             clear H1
             by_cases c12 : (rd l0 x12_1) = 13
             · rw [if_pos c12] at H
               have c12b0 : ((rd l0 x12_1) == 13) = true := beq_iff_eq.mpr c12
               have c12b1 : ((rd l0 x12_1) != 13) = false := bne_eq_false_iff_eq.mpr c12
               clear c12
               by_cases c13 : x5_1.length < 140737488355328
               · rw [if_pos c13] at H
                 have LMc13 := Aside0.mk c13
                 clear c13
                 obtain ⟨y318,hy318⟩ : ∃ y_ : List Int,y_ = (x5_1 ++ [10]) := ⟨_,rfl⟩
                 replace H : (dossierref05_plain.l0 kj5 l0 a1 y318 l0 (l0.length : Int) (wrap64 (x12_1 + 1))) = some r := by first | (rw [hy318]; with_reducible exact H) | (have H2_ := (Option.bind_some _ _).symm.trans H; rw [hy318]; with_reducible exact H2_) | (have H2_ := (Option.bind_some _ _).symm.trans H; with_reducible exact H2_) | with_reducible exact H | (rw [hy318]; exact H) | exact H
                 have Ny318 := Aside0.mk hy318
                 clear hy318
                 have H' := Aside0.mk H
                 clear H
                 go_wp2_with (first | ((with_reducible refine gate_builtin (b := .append) (xs := #[.tmp 42,.tmp 43]) rfl ?_); (try (refine gate_guard (by rfl) ?_; dsimp only)); at_builtin; refine Kd.R_append (Kd.int .u8) (w0 := w) w.heap.size rfl (.tmp 42) (.tmp 43) 22 5 (.int .u8 0) 1 rfl Tryz.underlying22 info5 rfl (by decide) (by omega) u5 x5_1 10 [.int .u8 10] (fun _ => True) (fun _ => False) rfl rfl ?aP (fun _ hk => hk.elim) ?aF ?aO ?aB ?aS ?aL ?_; (case aP => exact rfl); (case aB => exact (by repeat (first | (with_reducible first | exact HB.out | apply below_alloc | apply pw_below_drewN | apply below_drew1 | apply bytes_below1) | exact HB.out))); (case aF => exact (fun _ _ => trivial)); (case aO => exact (by (with_reducible repeat (first | apply Kd.R_alloc | apply R_bytes | apply Kd.R_drewN | apply Kd.R_drew)); exact HO_5.out)); (case aS => exact (below_size (by repeat (first | (with_reducible first | exact HB.out | apply below_alloc | apply pw_below_drewN | apply below_drew1 | apply bytes_below1) | exact HB.out)))); (case aL => have := LMc13.out; omega); intro v319 w14 ho hb hg hat; rw [← Ny318.out] at ho; have n0_ := Aside0.mk (hb); have n1_ := Aside0.mk (ho); clear HB; clear HO_5; have HB := n0_; have HO320 := n1_; clear n0_ n1_; clear ho hb hg hat))
                 go_roundg kj5
                 case measure => have := HK1.out; have := HJ5.out; omega
                 case rel => exact ⟨(y318),(wrap64 (x12_1 + 1)),(by first | rfl | (simp; done) | (simp [*]; done)),H',⟨by have := HK1.out; have := HJ5.out; omega⟩,⟨by (with_reducible repeat (first | apply Kd.R_alloc | apply R_bytes | apply Kd.R_drewN | apply Kd.R_drew)); exact HO320.out⟩,⟨by repeat (first | (with_reducible first | exact HB.out | apply below_alloc | apply pw_below_drewN | apply below_drew1 | apply bytes_below1) | exact HB.out)⟩⟩
               · rw [if_neg c13] at H
                 exact absurd H (by simp)
             · rw [if_neg c12] at H
               have c12b0 : ((rd l0 x12_1) == 13) = false := beq_eq_false_iff_ne.mpr c12
               have c12b1 : ((rd l0 x12_1) != 13) = true := bne_iff_ne.mpr c12
               by_cases c15 : x5_1.length < 140737488355328
               · rw [if_pos c15] at H
                 have LMc15 := Aside0.mk c15
                 clear c15
                 obtain ⟨y321,hy321⟩ : ∃ y_ : List Int,y_ = (x5_1 ++ [(rd l0 x12_1)]) := ⟨_,rfl⟩
                 replace H : (dossierref05_plain.l0 kj5 l0 a1 y321 l0 (l0.length : Int) (wrap64 (x12_1 + 1))) = some r := by first | (rw [hy321]; with_reducible exact H) | (have H2_ := (Option.bind_some _ _).symm.trans H; rw [hy321]; with_reducible exact H2_) | (have H2_ := (Option.bind_some _ _).symm.trans H; with_reducible exact H2_) | with_reducible exact H | (rw [hy321]; exact H) | exact H
                 have Ny321 := Aside0.mk hy321
                 clear hy321
                 have H' := Aside0.mk H
                 clear H
                 go_wp2_with (first | ((with_reducible refine gate_builtin (b := .append) (xs := #[.tmp 17,.tmp 19]) rfl ?_); (try (refine gate_guard (by rfl) ?_; dsimp only)); at_builtin; refine Kd.R_append (Kd.int .u8) (w0 := w) w.heap.size rfl (.tmp 17) (.tmp 19) 22 5 (.int .u8 0) 1 rfl Tryz.underlying22 info5 rfl (by decide) (by omega) u5 x5_1 (rd l0 x12_1) [.int .u8 (rd l0 x12_1)] (fun _ => True) (fun _ => False) rfl rfl ?aP (fun _ hk => hk.elim) ?aF ?aO ?aB ?aS ?aL ?_; (case aP => exact rfl); (case aB => exact (by repeat (first | (with_reducible first | exact HB.out | apply below_alloc | apply pw_below_drewN | apply below_drew1 | apply bytes_below1) | exact HB.out))); (case aF => exact (fun _ _ => trivial)); (case aO => exact (by (with_reducible repeat (first | apply Kd.R_alloc | apply R_bytes | apply Kd.R_drewN | apply Kd.R_drew)); exact HO_5.out)); (case aS => exact (below_size (by repeat (first | (with_reducible first | exact HB.out | apply below_alloc | apply pw_below_drewN | apply below_drew1 | apply bytes_below1) | exact HB.out)))); (case aL => have := LMc15.out; omega); intro v322 w16 ho hb hg hat; rw [← Ny321.out] at ho; have n0_ := Aside0.mk (hb); have n1_ := Aside0.mk (ho); clear HB; clear HO_5; have HB := n0_; have HO323 := n1_; clear n0_ n1_; clear ho hb hg hat))
                 go_roundg kj5
                 case measure => have := HK1.out; have := HJ5.out; omega
                 case rel => exact ⟨(y321),(wrap64 (x12_1 + 1)),(by first | rfl | (simp; done) | (simp [*]; done)),H',⟨by have := HK1.out; have := HJ5.out; omega⟩,⟨by (with_reducible repeat (first | apply Kd.R_alloc | apply R_bytes | apply Kd.R_drewN | apply Kd.R_drew)); exact HO323.out⟩,⟨by repeat (first | (with_reducible first | exact HB.out | apply below_alloc | apply pw_below_drewN | apply below_drew1 | apply bytes_below1) | exact HB.out)⟩⟩
               · rw [if_neg c15] at H
                 exact absurd H (by simp)
       · rw [if_neg c5] at H
         exact absurd H (by simp)
     · rw [if_neg c4] at H
       exact absurd H (by simp)
   · rw [if_neg c3] at H
     have c3b0 : decide (x12_1 < (l0.length : Int)) = false := decide_eq_false c3
     clear c3
     have H' := Aside0.mk H
     clear H
     obtain ⟨Ao17,co17,eo17⟩ := Kd.R_slice HO_5.out
     subst eo17
     go_wp2
     go_loopg [48] k1 (fun kq v48 w' => ∃ (x5_2 : List Int) (x48_2 : Int),v48 = .int .i64 x48_2 ∧ Aside0 (dossierref05_plain.l1 kq a1 x5_2 (x5_1.length : Int) x48_2 = some r) ∧ Aside0 (kq ≤ k1) ∧ Aside0 (Kd.R (Kd.int .u8) 5 w' w.heap.size (fun _ => True) (.slice Ao17 x5_1.length co17) x5_2) ∧ Aside0 (Below w.heap.size w w'))
     case atStart => exact ⟨(x5_1),(0),(by first | rfl | (simp; done) | (simp [*]; done)),H',⟨Nat.le_refl _⟩,⟨by (with_reducible repeat (first | apply Kd.R_alloc | apply R_bytes | apply Kd.R_drewN | apply Kd.R_drew)); exact HO_5.out⟩,⟨by repeat (first | (with_reducible first | exact HB.out | apply below_alloc | apply pw_below_drewN | apply below_drew1 | apply bytes_below1) | exact HB.out)⟩⟩
     case round =>
      clear H'
      try clear c1
      try clear p2
      try clear c3
      try clear c3b0
      try clear p3
      try clear q3
      try clear hx3
      try clear c4
      try clear c4b0
      try clear c5
      try clear c5b0
      try clear p6
      try clear c7
      try clear c7b0
      try clear c7b1
      try clear c8
      try clear c8b0
      try clear c10
      try clear c10b0
      try clear c11
      try clear c12
      try clear c12b0
      try clear c12b1
      try clear c13
      try clear c15
      try clear hx316_0
      try clear hx317_0
      try clear p2
      try clear p3
      try clear p316
      try clear p317
      try clear p6
      try clear q3
      try clear q316
      try clear q317
      obtain ⟨x5_2,x48_2,rfl,HA,HK2,HO_5,HB⟩ := hrel
      have hl5_2 := (Kd.R_reads' HO_5.out).1
      rw [hl5_2] at HO_5
      (try simp only [hl5_2])
      cases gk with
      | zero => exact absurd HA.out (by simp [dossierref05_plain.l1])
      | succ k2 =>
       have H := HA.out
       clear HA
       simp only [dossierref05_plain.l1] at H
       by_cases c18 : x48_2 < (x5_1.length : Int)
       · rw [if_pos c18] at H
         have c18b0 : decide (x48_2 < (x5_1.length : Int)) = true := decide_eq_true c18
         clear c18
         by_cases c19 : 0 ≤ x48_2
         · rw [if_pos c19] at H
           have c19b0 : decide (0 ≤ x48_2) = true := decide_eq_true c19
           clear c19
           by_cases c20 : x48_2 < (x5_2.length : Int)
           · rw [if_pos c20] at H
             have c20b0 : decide (x48_2 < (x5_2.length : Int)) = true := decide_eq_true c20
             clear c20
             by_cases c21 : a1 = true
             · subst c21
               have H1 : (if (rd x5_2 x48_2) = 9 then (dossierref05_plain.l1 k2 true (x5_2.set (x48_2 : Int).toNat 32) (x5_1.length : Int) (wrap64 (x48_2 + 1))) else (if (rd x5_2 x48_2) = 10 then (dossierref05_plain.l1 k2 true (x5_2.set (x48_2 : Int).toNat 32) (x5_1.length : Int) (wrap64 (x48_2 + 1))) else (dossierref05_plain.l1 k2 true x5_2 (x5_1.length : Int) (wrap64 (x48_2 + 1))))) = some r := by rw [if_pos rfl] at H; exact H
               clear H
               have H := H1
               clear H1
               by_cases c22 : (rd x5_2 x48_2) = 9
               · rw [if_pos c22] at H
                 have c22b0 : ((rd x5_2 x48_2) == 9) = true := beq_iff_eq.mpr c22
                 have c22b1 : ((rd x5_2 x48_2) != 9) = false := bne_eq_false_iff_eq.mpr c22
                 clear c22
                 obtain ⟨y325,hy325⟩ : ∃ y_ : List Int,y_ = (x5_2.set (x48_2 : Int).toNat 32) := ⟨_,rfl⟩
                 replace H : (dossierref05_plain.l1 k2 true y325 (x5_1.length : Int) (wrap64 (x48_2 + 1))) = some r := by first | (rw [hy325]; with_reducible exact H) | (have H2_ := (Option.bind_some _ _).symm.trans H; rw [hy325]; with_reducible exact H2_) | (have H2_ := (Option.bind_some _ _).symm.trans H; with_reducible exact H2_) | with_reducible exact H | (rw [hy325]; exact H) | exact H
                 have Ny325 := Aside0.mk hy325
                 clear hy325
                 have H' := Aside0.mk H
                 clear H
                 have p324 : 0 ≤ (x48_2 : Int) := of_decide_eq_true (by first | (with_reducible assumption) | assumption)
                 have q324 : x48_2 < (x5_2.length : Int) := of_decide_eq_true (by first | (with_reducible assumption) | assumption)
                 obtain ⟨ad324,e324,hx324_0⟩ := Kd.at_int (Kd.R_reads' HO_5.out).2.2 x48_2 p324 q324
                 cases e324
                 replace p324 := eq_true p324
                 replace q324 := eq_true q324
                 have p23 : 0 ≤ (x48_2 : Int) := of_decide_eq_true (by first | (with_reducible assumption) | assumption)
                 have q23 : (x48_2 : Int) < ((x5_2.length : Int) : Int) := of_decide_eq_true (by first | (with_reducible assumption) | assumption)
                 obtain ⟨go23,co23,eo23,gb23,gl23,cl23,HG23⟩ := Kd.R_form HO_5.out (by omega)
                 (first | cases eo23 | (injection eo23 with ea_ en_ ec_; (first | subst ea_ | (injection ea_ with ea_; subst ea_)); subst ec_; clear en_))
                 have GB23 := Aside0.mk gb23
                 have GG23 := Aside0.mk HG23
                 clear gb23 gl23 HG23
                 (first | simp only [add_plain] at hx324_0 | skip)
                 obtain ⟨hx23_0,hf23_0⟩ := Kd.R_celln 0 HO_5.out (x48_2 : Int) p23 q23
                 replace p23 := eq_true p23
                 replace q23 := eq_true q23
                 have HP24 := Kd.R_putg HO_5.out (x48_2 : Int) 32
                 go_wp2_with (first | ((with_reducible refine gate_store (t := 5) (p := 64) rfl ?_); refine store_event (t := 5) (p := 64) (v := ?vo_w25) (w1 := (wr.setCell ⟨go23,(x48_2 : Int).toNat,none⟩ (.int .u8 32))) ?hg ?ho ?hn ?hr ?_; (case ho => rfl); (case hg => rfl); (case hn => rfl); (case hr => first | (go_simp; done) | (go_simp; rfl)); intro w25 hw; have hg : wr.grownBy w25 (some go23) := (by rw [hw]; exact HP24.2); have hp_ : Kd.R (Kd.int .u8) 5 w25 w.heap.size (fun _ => True) (.slice (some ⟨go23,0,none⟩) x5_2.length co17) y325 := (by rw [hw,Ny325.out]; exact HP24.1); clear HP24; have n0_ := Aside0.mk (hp_); have n1_ := Aside0.mk ((by rw [hw]; exact below_set (HB.out) GB23.out : Below w.heap.size w w25)); clear HO_5; clear HB; have HO_5 := n0_; have HB := n1_; clear n0_ n1_; clear hg hw hp_))
                 (try simp only [← hl5_2])
                 go_roundg k2
                 case measure => have := HK1.out; have := HK2.out; omega
                 case rel => exact ⟨(y325),(wrap64 (x48_2 + 1)),(by first | rfl | (simp; done) | (simp [*]; done)),H',⟨by have := HK1.out; have := HK2.out; omega⟩,⟨by (try simp only [hl5_2]); (with_reducible repeat (first | apply Kd.R_alloc | apply R_bytes | apply Kd.R_drewN | apply Kd.R_drew)); exact HO_5.out⟩,⟨by repeat (first | (with_reducible first | exact HB.out | apply below_alloc | apply pw_below_drewN | apply below_drew1 | apply bytes_below1) | exact HB.out)⟩⟩
               · rw [if_neg c22] at H
                 have c22b0 : ((rd x5_2 x48_2) == 9) = false := beq_eq_false_iff_ne.mpr c22
                 have c22b1 : ((rd x5_2 x48_2) != 9) = true := bne_iff_ne.mpr c22
                 by_cases c26 : (rd x5_2 x48_2) = 10
                 · rw [if_pos c26] at H
                   have c26b0 : ((rd x5_2 x48_2) == 10) = true := beq_iff_eq.mpr c26
                   have c26b1 : ((rd x5_2 x48_2) != 10) = false := bne_eq_false_iff_eq.mpr c26
                   clear c26
                   obtain ⟨y326,hy326⟩ : ∃ y_ : List Int,y_ = (x5_2.set (x48_2 : Int).toNat 32) := ⟨_,rfl⟩
                   replace H : (dossierref05_plain.l1 k2 true y326 (x5_1.length : Int) (wrap64 (x48_2 + 1))) = some r := by first | (rw [hy326]; with_reducible exact H) | (have H2_ := (Option.bind_some _ _).symm.trans H; rw [hy326]; with_reducible exact H2_) | (have H2_ := (Option.bind_some _ _).symm.trans H; with_reducible exact H2_) | with_reducible exact H | (rw [hy326]; exact H) | exact H
                   have Ny326 := Aside0.mk hy326
                   clear hy326
                   have H' := Aside0.mk H
                   clear H
                   have p324 : 0 ≤ (x48_2 : Int) := of_decide_eq_true (by first | (with_reducible assumption) | assumption)
                   have q324 : x48_2 < (x5_2.length : Int) := of_decide_eq_true (by first | (with_reducible assumption) | assumption)
                   obtain ⟨ad324,e324,hx324_0⟩ := Kd.at_int (Kd.R_reads' HO_5.out).2.2 x48_2 p324 q324
                   cases e324
                   replace p324 := eq_true p324
                   replace q324 := eq_true q324
                   have p27 : 0 ≤ (x48_2 : Int) := of_decide_eq_true (by first | (with_reducible assumption) | assumption)
                   have q27 : (x48_2 : Int) < ((x5_2.length : Int) : Int) := of_decide_eq_true (by first | (with_reducible assumption) | assumption)
                   obtain ⟨go27,co27,eo27,gb27,gl27,cl27,HG27⟩ := Kd.R_form HO_5.out (by omega)
                   (first | cases eo27 | (injection eo27 with ea_ en_ ec_; (first | subst ea_ | (injection ea_ with ea_; subst ea_)); subst ec_; clear en_))
                   have GB27 := Aside0.mk gb27
                   have GG27 := Aside0.mk HG27
                   clear gb27 gl27 HG27
                   (first | simp only [add_plain] at hx324_0 | skip)
                   obtain ⟨hx27_0,hf27_0⟩ := Kd.R_celln 0 HO_5.out (x48_2 : Int) p27 q27
                   replace p27 := eq_true p27
                   replace q27 := eq_true q27
                   have HP28 := Kd.R_putg HO_5.out (x48_2 : Int) 32
                   go_wp2_with (first | ((with_reducible refine gate_store (t := 5) (p := 64) rfl ?_); refine store_event (t := 5) (p := 64) (v := ?vo_w29) (w1 := (wr.setCell ⟨go27,(x48_2 : Int).toNat,none⟩ (.int .u8 32))) ?hg ?ho ?hn ?hr ?_; (case ho => rfl); (case hg => rfl); (case hn => rfl); (case hr => first | (go_simp; done) | (go_simp; rfl)); intro w29 hw; have hg : wr.grownBy w29 (some go27) := (by rw [hw]; exact HP28.2); have hp_ : Kd.R (Kd.int .u8) 5 w29 w.heap.size (fun _ => True) (.slice (some ⟨go27,0,none⟩) x5_2.length co17) y326 := (by rw [hw,Ny326.out]; exact HP28.1); clear HP28; have n0_ := Aside0.mk (hp_); have n1_ := Aside0.mk ((by rw [hw]; exact below_set (HB.out) GB27.out : Below w.heap.size w w29)); clear HO_5; clear HB; have HO_5 := n0_; have HB := n1_; clear n0_ n1_; clear hg hw hp_))
                   (try simp only [← hl5_2])
                   go_roundg k2
                   case measure => have := HK1.out; have := HK2.out; omega
                   case rel => exact ⟨(y326),(wrap64 (x48_2 + 1)),(by first | rfl | (simp; done) | (simp [*]; done)),H',⟨by have := HK1.out; have := HK2.out; omega⟩,⟨by (try simp only [hl5_2]); (with_reducible repeat (first | apply Kd.R_alloc | apply R_bytes | apply Kd.R_drewN | apply Kd.R_drew)); exact HO_5.out⟩,⟨by repeat (first | (with_reducible first | exact HB.out | apply below_alloc | apply pw_below_drewN | apply below_drew1 | apply bytes_below1) | exact HB.out)⟩⟩
                 · rw [if_neg c26] at H
                   have c26b0 : ((rd x5_2 x48_2) == 10) = false := beq_eq_false_iff_ne.mpr c26
                   have c26b1 : ((rd x5_2 x48_2) != 10) = true := bne_iff_ne.mpr c26
                   have H' := Aside0.mk H
                   clear H
                   have p324 : 0 ≤ (x48_2 : Int) := of_decide_eq_true (by first | (with_reducible assumption) | assumption)
                   have q324 : x48_2 < (x5_2.length : Int) := of_decide_eq_true (by first | (with_reducible assumption) | assumption)
                   obtain ⟨ad324,e324,hx324_0⟩ := Kd.at_int (Kd.R_reads' HO_5.out).2.2 x48_2 p324 q324
                   cases e324
                   replace p324 := eq_true p324
                   replace q324 := eq_true q324
                   go_wp2
                   (try simp only [← hl5_2])
                   go_roundg k2
                   case measure => have := HK1.out; have := HK2.out; omega
                   case rel => exact ⟨(x5_2),(wrap64 (x48_2 + 1)),(by first | rfl | (simp; done) | (simp [*]; done)),H',⟨by have := HK1.out; have := HK2.out; omega⟩,⟨by (try simp only [hl5_2]); (with_reducible repeat (first | apply Kd.R_alloc | apply R_bytes | apply Kd.R_drewN | apply Kd.R_drew)); exact HO_5.out⟩,⟨by repeat (first | (with_reducible first | exact HB.out | apply below_alloc | apply pw_below_drewN | apply below_drew1 | apply bytes_below1) | exact HB.out)⟩⟩
             · replace c21 := Bool.eq_false_iff.mpr c21
               subst c21
               have H1 : (dossierref05_plain.l1 k2 false x5_2 (x5_1.length : Int) (wrap64 (x48_2 + 1))) = some r := by rw [if_neg (show ¬ (false = true) by decide)] at H; exact H
               clear H
               have H := H1
               clear H1
               have H' := Aside0.mk H
               clear H
               have p324 : 0 ≤ (x48_2 : Int) := of_decide_eq_true (by first | (with_reducible assumption) | assumption)
               have q324 : x48_2 < (x5_2.length : Int) := of_decide_eq_true (by first | (with_reducible assumption) | assumption)
               obtain ⟨ad324,e324,hx324_0⟩ := Kd.at_int (Kd.R_reads' HO_5.out).2.2 x48_2 p324 q324
               cases e324
               replace p324 := eq_true p324
               replace q324 := eq_true q324
               go_wp2
               (try simp only [← hl5_2])
               go_roundg k2
               case measure => have := HK1.out; have := HK2.out; omega
               case rel => exact ⟨(x5_2),(wrap64 (x48_2 + 1)),(by first | rfl | (simp; done) | (simp [*]; done)),H',⟨by have := HK1.out; have := HK2.out; omega⟩,⟨by (try simp only [hl5_2]); (with_reducible repeat (first | apply Kd.R_alloc | apply R_bytes | apply Kd.R_drewN | apply Kd.R_drew)); exact HO_5.out⟩,⟨by repeat (first | (with_reducible first | exact HB.out | apply below_alloc | apply pw_below_drewN | apply below_drew1 | apply bytes_below1) | exact HB.out)⟩⟩
           · rw [if_neg c20] at H
             exact absurd H (by simp)
         · rw [if_neg c19] at H
           exact absurd H (by simp)
       · rw [if_neg c18] at H
         have c18b0 : decide (x48_2 < (x5_1.length : Int)) = false := decide_eq_false c18
         clear c18
         have c18c := c18b0
         rw [hl5_2] at c18c
         obtain rfl := Option.some.inj H
         go_wp2
         go_ret
         exact ⟨_,by first | rfl | (simp [errW_none,errW_some] <;> rfl) | (simp [*,errW_none,errW_some] <;> rfl),by (with_reducible repeat (first | apply Kd.R_alloc | apply R_bytes | apply Kd.R_drewN | apply Kd.R_drew)); exact HO_5.out,by repeat (first | (with_reducible first | exact HB.out | apply below_alloc | apply pw_below_drewN | apply below_drew1 | apply bytes_below1) | exact HB.out)⟩
end Go.Proofs.YtccfmfifnbnlmaaGreatDoor.Pl
end
section
/- What is known of each function: its word; and the contexts in which it is reckoned. -/
-- prev xmllex_instruction
-- irreducible fullX trimX linesX numX namedX commX instX cutX containsX replX Chars.enc skipX
set_option linter.unusedVariables false
namespace Go.Proofs.YtccfmfifnbnlmaaGreatDoor.Ev
open Go
/-- How many bytes the comment or the instruction has that others begin with; -1: there is none. -/
def markW (r : List Int) : Int := if r.take 4 = [60,33,45,45] then commW r else if r.take 2 = [60,63] then instW r else -1
def skipGo : Nat → List Int → Int → Int × Int
 | 0,_,p => (p,0)
 | d + 1,b,p => if markW (b.drop p.toNat) = -1 then (p,0) else if markW (b.drop p.toNat) = 0 then (p,11) else skipGo d b (p + markW (b.drop p.toNat))
def skipW (b : List Int) (p : Int) : Int × Int := if p < 0 ∨ p > b.length then (0,1) else skipGo (b.length + 1) b p
def skipX (b : List Int) (p : Int) : Option (Int × Int) := if okB b then some (skipW b p) else none
noncomputable def cx_xmllex_Skip := cxOf specs_xmllex_instruction
noncomputable def xmllex_Skip.spec : Spec := fun args st K => match args,st.box,st.nt with
 | [.sl (.int .u8) b .no,.int .i64 p],[],0 => (skipX b p).bind fun v => K (.ret (.tup [.int .i64 v.1,.int .i64 v.2])) (lcRet [] [] 0)
 | _,_,_ => none
noncomputable def specs_xmllex_Skip : SpecL := (12,false,xmllex_Skip.spec) :: specs_xmllex_instruction
noncomputable def cx_dossierref05_Skip := cxOf specs_xmllex_Skip
noncomputable def dossierref05_Skip.spec : Spec := fun args st K => match args,st.box,st.nt with
 | [.sl (.int .u8) b .no,.int .i64 p],[],0 => (skipX b p).bind fun v => K (.ret (.tup [.int .i64 v.1,.int .i64 v.2])) (lcRet [] [] 0)
 | _,_,_ => none
noncomputable def specs_dossierref05_Skip : SpecL := (13,false,dossierref05_Skip.spec) :: specs_xmllex_Skip
end Go.Proofs.YtccfmfifnbnlmaaGreatDoor.Ev
end
section
/- What each function comes to, one step of it at a time: the kernel's own reckoning. -/
set_option linter.unusedVariables false
set_option maxRecDepth 100000
namespace Go.Proofs.YtccfmfifnbnlmaaGreatDoor.Ev
open Go Go.RowKit
open Go.IntKind (i64 u8 i32 u64)
noncomputable def xmllex_Skip.L0 (n k0 : Nat) (b : List Int) (p : Int) (j0 : List Int) (j1 : Int) : Option (Rr U0) := loopF cx_xmllex_Skip noCalls k0 0 ([(0,false),(1,false)]) ((siteC (Tryz.f12.body.getD .skip) [1,1,0]).getD .skip) (siteK cx_xmllex_Skip noCalls n [] (Tryz.f12.body.getD .skip) [1,1,0] (bodyK cx_xmllex_Skip Tryz.f12 (lcSt [] 0) (callK false [] [] (lcSt [] 0) out))) (St.mk [(0,.sl (.int .u8) j0 .no),(1,.int .i64 j1)] [] [] 0 0 0 0 0 12 [] 40)
theorem xmllex_Skip.L0_s (n k0 : Nat) (b : List Int) (p : Int) (j0 : List Int) (j1 : Int) : xmllex_Skip.L0 n (k0 + 1) b p j0 j1 = if 0 ≤ j1 then if j1 ≤ (↑j0.length : Int) then ((Q.bytes_HasPrefix.f (List.drop j1.toNat j0) [(60 : Int),(33 : Int),(45 : Int),(45 : Int)]).bind fun v0 => if v0 = true then ((commX (List.drop j1.toNat j0)).bind fun v1 => if (v1 == 0) = true then some (.ret (.tup [.int .i64 j1,.int .i64 11]),lcRet [] [] 0) else (xmllex_Skip.L0 n k0 b p j0 (i64.wrap (j1 + v1)))) else ((Q.bytes_HasPrefix.f (List.drop j1.toNat j0) [(60 : Int),(63 : Int)]).bind fun v2 => if v2 = true then ((instX (List.drop j1.toNat j0)).bind fun v3 => if (v3 == 0) = true then some (.ret (.tup [.int .i64 j1,.int .i64 11]),lcRet [] [] 0) else (xmllex_Skip.L0 n k0 b p j0 (i64.wrap (j1 + v3)))) else some (.ret (.tup [.int .i64 j1,.int .i64 0]),lcRet [] [] 0))) else none else none := by kernel_rfl
theorem xmllex_Skip.top (n : Nat) (b : List Int) (p : Int) : callX false (fnF cx_xmllex_Skip noCalls n 12) ([.sl (.int .u8) b .no,.int .i64 p]) (lcSt [] 0) out = if (if decide (p < 0) = true then true else decide (p > (↑b.length : Int))) = true then some (.ret (.tup [.int .i64 0,.int .i64 1]),lcRet [] [] 0) else (xmllex_Skip.L0 n n b p b p) := by kernel_rfl
noncomputable def dossierref05_Skip.L0 (n k0 : Nat) (b : List Int) (p : Int) (j0 : List Int) (j1 : Int) : Option (Rr U0) := loopF cx_dossierref05_Skip noCalls k0 0 ([(0,false),(1,false)]) ((siteC (Tryz.f13.body.getD .skip) [1,1,0]).getD .skip) (siteK cx_dossierref05_Skip noCalls n [] (Tryz.f13.body.getD .skip) [1,1,0] (bodyK cx_dossierref05_Skip Tryz.f13 (lcSt [] 0) (callK false [] [] (lcSt [] 0) out))) (St.mk [(0,.sl (.int .u8) j0 .no),(1,.int .i64 j1)] [] [] 0 0 0 0 0 13 [] 80)
theorem dossierref05_Skip.L0_s (n k0 : Nat) (b : List Int) (p : Int) (j0 : List Int) (j1 : Int) : dossierref05_Skip.L0 n (k0 + 1) b p j0 j1 = if 0 ≤ j1 then if j1 ≤ (↑j0.length : Int) then ((Q.dossierref05_begins.f (List.drop j1.toNat j0) (ByteArray.mk #[60,33,45,45])).bind fun v0 => if v0 = true then if (4 : Int) ≤ (↑(List.drop j1.toNat j0).length : Int) then ((lim fun k => Q.dossierref05_find.f k (List.drop (Int.toNat (4 : Int)) (List.drop j1.toNat j0)) (ByteArray.mk #[45,45])).bind fun v1 => if decide (v1 < 0) = true then some (.ret (.tup [.int .i64 j1,.int .i64 11]),lcRet [] [] 0) else if 0 ≤ i64.wrap ((4 : Int) + v1) then if i64.wrap ((4 : Int) + v1) ≤ (↑(List.drop j1.toNat j0).length : Int) then ((Q.dossierref05_begins.f (List.drop (i64.wrap ((4 : Int) + v1)).toNat (List.drop j1.toNat j0)) (ByteArray.mk #[45,45,62])).bind fun v2 => if (if false = true then true else !v2) = true then some (.ret (.tup [.int .i64 j1,.int .i64 11]),lcRet [] [] 0) else (dossierref05_Skip.L0 n k0 b p j0 (i64.wrap (j1 + i64.wrap (v1 + 7))))) else none else none) else none else ((Q.dossierref05_begins.f (List.drop j1.toNat j0) (ByteArray.mk #[60,63])).bind fun v3 => if v3 = true then if (2 : Int) ≤ (↑(List.drop j1.toNat j0).length : Int) then ((lim fun k => Q.dossierref01_NameAt.f k (List.drop (Int.toNat (2 : Int)) (List.drop j1.toNat j0))).bind fun v4 => if (v4 == 0) = true then some (.ret (.tup [.int .i64 j1,.int .i64 11]),lcRet [] [] 0) else if 0 ≤ i64.wrap ((2 : Int) + v4) then if i64.wrap ((2 : Int) + v4) ≤ (↑(List.drop j1.toNat j0).length : Int) then ((Q.dossierref05_begins.f (List.drop (i64.wrap ((2 : Int) + v4)).toNat (List.drop j1.toNat j0)) (ByteArray.mk #[63,62])).bind fun v5 => if (!v5) = true then if 0 ≤ i64.wrap ((2 : Int) + v4) then if i64.wrap ((2 : Int) + v4) ≤ (↑(List.drop j1.toNat j0).length : Int) then ((lim fun k => Q.dossierref05_blanks.f k (List.drop (i64.wrap ((2 : Int) + v4)).toNat (List.drop j1.toNat j0))).bind fun v6 => if (if false = true then true else if true = true then v6 == 0 else false) = true then some (.ret (.tup [.int .i64 j1,.int .i64 11]),lcRet [] [] 0) else if 0 ≤ i64.wrap ((2 : Int) + v4) then if i64.wrap ((2 : Int) + v4) ≤ (↑(List.drop j1.toNat j0).length : Int) then ((lim fun k => Q.dossierref05_find.f k (List.drop (i64.wrap ((2 : Int) + v4)).toNat (List.drop j1.toNat j0)) (ByteArray.mk #[63,62])).bind fun v7 => if decide (v7 < 0) = true then some (.ret (.tup [.int .i64 j1,.int .i64 11]),lcRet [] [] 0) else (dossierref05_Skip.L0 n k0 b p j0 (i64.wrap (j1 + i64.wrap (v7 + i64.wrap (v4 + 4)))))) else none else none) else none else none else if 0 ≤ i64.wrap ((2 : Int) + v4) then if i64.wrap ((2 : Int) + v4) ≤ (↑(List.drop j1.toNat j0).length : Int) then ((lim fun k => Q.dossierref05_find.f k (List.drop (i64.wrap ((2 : Int) + v4)).toNat (List.drop j1.toNat j0)) (ByteArray.mk #[63,62])).bind fun v8 => if decide (v8 < 0) = true then some (.ret (.tup [.int .i64 j1,.int .i64 11]),lcRet [] [] 0) else (dossierref05_Skip.L0 n k0 b p j0 (i64.wrap (j1 + i64.wrap (v8 + i64.wrap (v4 + 4)))))) else none else none) else none else none) else none else some (.ret (.tup [.int .i64 j1,.int .i64 0]),lcRet [] [] 0))) else none else none := by kernel_rfl
theorem dossierref05_Skip.top (n : Nat) (b : List Int) (p : Int) : callX false (fnF cx_dossierref05_Skip noCalls n 13) ([.sl (.int .u8) b .no,.int .i64 p]) (lcSt [] 0) out = if (if decide (p < 0) = true then true else decide (p > (↑b.length : Int))) = true then some (.ret (.tup [.int .i64 0,.int .i64 1]),lcRet [] [] 0) else (dossierref05_Skip.L0 n n b p b p) := by kernel_rfl
end Go.Proofs.YtccfmfifnbnlmaaGreatDoor.Ev
end
section
/- The reference's searches: where a text stands, whether bytes begin with it, blanks. -/
set_option linter.unusedVariables false
set_option linter.unusedSimpArgs false
namespace Go.Proofs.YtccfmfifnbnlmaaGreatDoor.Ev
open Go Go.RowKit Go.Proofs.YtccfmfifnbnlmaaGreatDoorW.PrintWords
theorem strOf_toBytes (s : ByteArray) : (strOfNums (toBytes s)).toList = s.toList := by
 rw [ByteArray.toList_eq,ByteArray.toList_eq]
 unfold strOfNums toBytes
 simp only [List.map_map]
 have : ((fun n : Int => UInt8.ofNat n.toNat) ∘ fun b : UInt8 => (b.toNat : Int)) = id := by funext b; simp
 rw [this,List.map_id]
theorem beg_spec {l : List Int} (hl : byteB l = true) (s : ByteArray) : Q.dossierref05_begins.f l s = some (decide (l.take s.size = toBytes s)) := by
 unfold Q.dossierref05_begins.f
 by_cases h : (l.length : Int) ≥ (s.size : Int)
 · rw [if_pos h,if_pos (by omega),if_pos (by omega),Int.toNat_natCast]
   congr 1
   rw [Bool.eq_iff_iff,decide_eq_true_eq,beq_iff_eq,← strOf_toBytes s]
   exact Chars.str_inj (Chars.Bytes.take (byteB_all hl) _) (byteB_all (byteB_to s))
 · rw [if_neg h,decide_eq_false]
   intro q
   have := congrArg List.length q
   rw [List.length_take,toBytes_len] at this
   omega
theorem beg_at {l : List Int} (hl : byteB l = true) (s : ByteArray) (m : List Int) (n : Nat) (h : toBytes s = m) (hn : m.length = n) : Q.dossierref05_begins.f l s = some (decide (l.take n = m)) := by
 subst h hn
 rw [beg_spec hl,toBytes_len]
theorem pre_bytes {l m : List Int} (hl : byteB l = true) (hm : byteB m = true) : (Lib.bytesOf m).isPrefixOf (Lib.bytesOf l) = decide (l.take m.length = m) := by
 rw [Bool.eq_iff_iff,decide_eq_true_eq,List.isPrefixOf_iff_prefix,List.prefix_iff_eq_take]
 unfold Lib.bytesOf
 rw [List.length_map,← List.map_take]
 constructor
 · intro h
   have : ∀ (x y : List Int),byteB x = true → byteB y = true → x.map (fun n => UInt8.ofNat n.toNat) = y.map (fun n => UInt8.ofNat n.toNat) → x = y := by
    intro x
    induction x with
    | nil => intro y _ _ h; cases y with | nil => rfl | cons _ _ => cases h
    | cons a x ih =>
     intro y hx hy h
     cases y with
     | nil => cases h
     | cons b y =>
      rw [List.map_cons,List.map_cons] at h
      injection h with h1 h2
      have ha := byteB_all hx a (List.mem_cons_self ..)
      have hb := byteB_all hy b (List.mem_cons_self ..)
      unfold byteB at hx hy
      rw [List.all_cons,Bool.and_eq_true] at hx hy
      rw [u8_inj ha hb h1,ih y hx.2 hy.2 h2]
   exact (this _ _ hm (byteB_take hl _) h).symm
 · intro h
   rw [h]
theorem bIndex_nil {m : List Int} (h : 0 < m.length) : bIndexW [] m = -1 := by
 have := bIndex_lt (l := []) (m := m)
 by_cases q : bIndexW [] m = -1
 · exact q
 · rw [if_neg q,List.length_nil] at this; omega
theorem find_at {b : List Int} (hb : byteB b = true) (s : ByteArray) (hs : 0 < s.size) (hl : b.length ≤ 8000000) : ∀ (d i k : Nat),i + d = b.length → Q.dossierref05_find.l0 (k + d + 1) b s (b.length : Int) (i : Int) = some (if bIndexW (b.drop i) (toBytes s) = -1 then -1 else bIndexW (b.drop i) (toBytes s) + i) := by
 intro d
 induction d with
 | zero =>
  intro i k hi
  rw [show k + 0 + 1 = k + 1 from rfl,Q.dossierref05_find.l0,if_neg (by omega),List.drop_of_length_le (by omega),bIndex_nil (by rw [toBytes_len]; exact hs),if_pos rfl]
 | succ d ih =>
  intro i k hi
  have hlt : i < b.length := by omega
  rw [show k + (d + 1) + 1 = (k + d + 1) + 1 from rfl,Q.dossierref05_find.l0,if_pos (by omega),if_pos (by omega),if_pos (by omega),Int.toNat_natCast,beg_spec (byteB_drop hb i),Option.bind_some]
  have e : b.drop i = b[i]'hlt :: b.drop (i + 1) := List.drop_eq_getElem_cons hlt
  have e2 : bIndexW (b.drop i) (toBytes s) = if decide ((b.drop i).take s.size = toBytes s) then 0 else if bIndexW (b.drop (i + 1)) (toBytes s) = -1 then -1 else bIndexW (b.drop (i + 1)) (toBytes s) + 1 := by
   conv => lhs; rw [e]
   rw [bIndex_cons,← e,pre_bytes (byteB_drop hb i) (byteB_to s),toBytes_len]
  have hge := bIndex_ge (b.drop (i + 1)) (toBytes s)
  rw [e2,show wrap64 ((i : Int) + 1) = ((i + 1 : Nat) : Int) by unfold wrap64; omega,ih (i + 1) k (by omega)]
  generalize bIndexW (b.drop (i + 1)) (toBytes s) = j at hge
  by_cases c : (b.drop i).take s.size = toBytes s
  · have c' : decide ((b.drop i).take s.size = toBytes s) = true := decide_eq_true c
    simp only [if_pos c']; rw [if_neg (by omega)]; congr 1; omega
  · have c' : ¬ (decide ((b.drop i).take s.size = toBytes s) = true) := by simpa using c
    by_cases c2 : j = -1
    · simp only [if_neg c',if_pos c2]; rfl
    · simp only [if_neg c',if_neg c2]; rw [if_neg (by omega)]; congr 1; omega
theorem find_lim {b : List Int} (hb : byteB b = true) (s : ByteArray) (hs : 0 < s.size) (hl : b.length ≤ 8000000) : (lim fun k => Q.dossierref05_find.f k b s) = some (bIndexW b (toBytes s)) := by
 refine lim_of (fun k => Q.dossierref05_find.mono b s k) (k := 0 + b.length + 1) (by omega) ?_
 have := find_at hb s hs hl b.length 0 0 (by omega)
 unfold Q.dossierref05_find.f
 refine this.trans ?_
 rw [List.drop_zero]
 split
 · rename_i h; rw [h]
 · congr 1; omega
theorem find_to {b : List Int} (hb : byteB b = true) (s : ByteArray) (m : List Int) (h : toBytes s = m) (hs : 0 < m.length) (hl : b.length ≤ 8000000) : (lim fun k => Q.dossierref05_find.f k b s) = some (bIndexW b m) := by
 subst h
 exact find_lim hb s (by rwa [toBytes_len] at hs) hl
/-- How many blanks bytes begin with. -/
def blankN : List Int → Nat
 | [] => 0
 | x :: t => if blankC x then blankN t + 1 else 0
theorem blankN_le : ∀ l : List Int,blankN l ≤ l.length
 | [] => Nat.le_refl _
 | x :: t => by
  unfold blankN
  have := blankN_le t
  split
  · rw [List.length_cons]; omega
  · omega
theorem rspace_spec (x : Int) : Q.dossierref01_Space.f x = some (blankC x) := by
 unfold Q.dossierref01_Space.f blankC
 by_cases h2 : x = 9
 · simp [h2]
 by_cases h3 : x = 10
 · simp [h3]
 by_cases h4 : x = 13
 · simp [h4]
 have e2 : (x == 9) = false := beq_eq_false_iff_ne.2 h2
 have e3 : (x == 10) = false := beq_eq_false_iff_ne.2 h3
 have e4 : (x == 13) = false := beq_eq_false_iff_ne.2 h4
 simp [h2,h3,h4,e2,e3,e4]
theorem blanks_at {b : List Int} (hb : byteB b = true) (hl : b.length ≤ 8000000) : ∀ (d i k : Nat),i + d = b.length → Q.dossierref05_blanks.l0 (k + d + 1) b (i : Int) = some ((blankN (b.drop i) : Int) + i) := by
 intro d
 induction d with
 | zero =>
  intro i k hi
  rw [show k + 0 + 1 = k + 1 from rfl,Q.dossierref05_blanks.l0,if_neg (by omega),List.drop_of_length_le (by omega)]
  congr 1
  show (i : Int) = ((0 : Nat) : Int) + i
  omega
 | succ d ih =>
  intro i k hi
  have hlt : i < b.length := by omega
  have hx := byteB_all hb (b[i]'hlt) (List.getElem_mem hlt)
  have er : rd b (i : Int) = b[i]'hlt := by unfold rd; rw [Int.toNat_natCast,List.getD_eq_getElem?_getD,List.getElem?_eq_getElem hlt]; rfl
  rw [show k + (d + 1) + 1 = (k + d + 1) + 1 from rfl,Q.dossierref05_blanks.l0,if_pos (by omega),if_pos (by omega),er,show wrap64 (b[i]'hlt) = b[i]'hlt by unfold wrap64; omega,rspace_spec,Option.bind_some,show wrap64 ((i : Int) + 1) = ((i + 1 : Nat) : Int) by unfold wrap64; omega,ih (i + 1) k (by omega),List.drop_eq_getElem_cons hlt]
  rw [blankN]
  by_cases c : blankC (b[i]'hlt) = true
  · rw [if_pos c,if_pos c]; congr 1; omega
  · rw [if_neg c,if_neg c]; congr 1; omega
theorem blanks_lim {b : List Int} (hb : byteB b = true) (hl : b.length ≤ 8000000) : (lim fun k => Q.dossierref05_blanks.f k b) = some (blankN b : Int) := by
 refine lim_of (fun k => Q.dossierref05_blanks.mono b k) (k := 0 + b.length + 1) (by omega) ?_
 have := blanks_at hb hl b.length 0 0 (by omega)
 unfold Q.dossierref05_blanks.f
 refine this.trans ?_
 rw [List.drop_zero]
 congr 1
theorem nameAt_lim {b : List Int} (hb : byteB b = true) (hl : b.length ≤ 8000000) : (lim fun k => Q.dossierref01_NameAt.f k b) = some (Xm.nameL b : Int) :=
 lim_of (fun k => Q.dossierref01_NameAt.mono b k) (k := 0 + b.length + 70) (by omega) (Xm.nameAt_spec b (byteB_bytes hb) (by omega) 0)
/-- Blanks taken off. -/
theorem trim_blank : ∀ {l : List Int},byteB l = true → bTrimW l ⟨#[32,9,10,13]⟩ = l.drop (blankN l)
 | [],_ => rfl
 | x :: t,h => by
  have hx := byteB_all h x (List.mem_cons_self ..)
  have ht : byteB t = true := by unfold byteB at h ⊢; rw [List.all_cons,Bool.and_eq_true] at h; exact h.2
  have e : (⟨#[32,9,10,13]⟩ : ByteArray).data.toList.contains (UInt8.ofNat x.toNat) = blankC x := by
   have f : ∀ n : Fin 256,([32,9,10,13] : List UInt8).contains (UInt8.ofNat n.val) = blankC (n.val : Int) := by decide +kernel
   have := f ⟨x.toNat,by omega⟩
   simp only [Int.toNat_of_nonneg hx.1] at this
   exact this
  unfold bTrimW
  rw [List.dropWhile_cons,e,blankN]
  by_cases c : blankC x = true
  · rw [if_pos c,if_pos c,List.drop_succ_cons]
    exact trim_blank ht
  · rw [if_neg c,if_neg c]; rfl
end Go.Proofs.YtccfmfifnbnlmaaGreatDoor.Ev
end
