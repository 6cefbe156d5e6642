/- Several texts in one, in their order. -/
import Derived.Test.YtccfmfifnbnlmaaDoorBXmllexGoes6
import Derived.KernelRfl
import Derived.LoopTactic
import Derived.WalkKit
import Derived.ChangeAgain
import Derived.Shelf.RegionOpenPlain
import Derived.OwnWalk
section
/- What each function comes to, one step of it at a time: the kernel's own reckoning. -/
set_option linter.unusedVariables false
set_option maxRecDepth 100000
namespace Go.Proofs.YtccfmfifnbnlmaaDoor.Ev
open Go Go.RowKit
open Go.IntKind (i64 u8 i32 u64)
theorem bytes_Equal.top (n : Nat) (b c : List Int) : callX false (fnF cx_bytes_Equal noCalls n 16) ([.sl (.int .u8) b .no,.sl (.int .u8) c .no]) (lcSt [] 0) out = some (.ret (.bool (seq (ofBytes b) (ofBytes c))),lcRet [] [] 0) := by kernel_rfl
theorem bytes_CutPrefix.top (n : Nat) (b c : List Int) : callX false (fnF cx_bytes_CutPrefix noCalls n 35) ([.sl (.int .u8) b .no,.sl (.int .u8) c .no]) (lcSt [] 0) out = ((Q.bytes_HasPrefix.f b c).bind fun v0 => if (!v0) = true then some (.ret (.tup [.sl (.int .u8) b .no,.bool false]),lcRet [] [] 0) else if 0 ≤ (↑c.length : Int) then if (↑c.length : Int) ≤ (↑b.length : Int) then some (.ret (.tup [.sl (.int .u8) (List.drop (↑c.length : Int).toNat b) .no,.bool true]),lcRet [] [] 0) else none else none) := by kernel_rfl
theorem stringslite_CutPrefix.top (n : Nat) (s t : ByteArray) : callX false (fnF cx_stringslite_CutPrefix noCalls n 65) ([.str s,.str t]) (lcSt [] 0) out = ((Q.stringslite_HasPrefix.f s t).bind fun v0 => if (!v0) = true then some (.ret (.tup [.str s,.bool false]),lcRet [] [] 0) else if 0 ≤ (↑t.size : Int) then if (↑t.size : Int) ≤ (↑s.size : Int) then some (.ret (.tup [.str (s.extract (↑t.size : Int).toNat s.size),.bool true]),lcRet [] [] 0) else none else none) := by kernel_rfl
theorem bytes_Cut.top (n : Nat) (b c : List Int) : callX false (fnF cx_bytes_Cut noCalls n 21) ([.sl (.int .u8) b .no,.sl (.int .u8) c .no]) (lcSt [] 0) out = if (byteB b = true ∧ byteB c = true) ∧ b.length < 4294967281 ∧ 0 < c.length ∧ c.length ≤ 1000 then if decide (bIndexW b c ≥ 0) = true then if 0 ≤ bIndexW b c then if bIndexW b c ≤ (↑b.length : Int) then if 0 ≤ i64.wrap (bIndexW b c + (↑c.length : Int)) then if i64.wrap (bIndexW b c + (↑c.length : Int)) ≤ (↑b.length : Int) then some (.ret (.tup [.sl (.int .u8) (List.take (bIndexW b c).toNat b) .no,.sl (.int .u8) (List.drop (i64.wrap (bIndexW b c + (↑c.length : Int))).toNat b) .no,.bool true]),lcRet [] [] 0) else none else none else none else none else some (.ret (.tup [.sl (.int .u8) b .no,.sl (.int .u8) [] .no,.bool false]),lcRet [] [] 0) else none := by kernel_rfl
theorem bytes_ReplaceAll.top (n : Nat) (b c d : List Int) : callX false (fnF cx_bytes_ReplaceAll noCalls n 36) ([.sl (.int .u8) b .no,.sl (.int .u8) c .no,.sl (.int .u8) d .no]) (lcSt [] 0) out = if ((-1 : Int) = (-1 : Int) ∧ byteB b = true ∧ byteB c = true) ∧ b.length < 4294967281 ∧ 1 ≤ c.length ∧ c.length ≤ 2 ∧ d.length = 1 then some (.ret (.sl (.int .u8) (replW b c d) .no),lcRet [] [] 0) else none := by kernel_rfl
theorem bytes_HasPrefix.top (n : Nat) (b c : List Int) : callX false (fnF cx_bytes_HasPrefix noCalls n 8) ([.sl (.int .u8) b .no,.sl (.int .u8) c .no]) (lcSt [] 0) out = if decide ((↑b.length : Int) ≥ (↑c.length : Int)) = true then if 0 ≤ (↑c.length : Int) then if (↑c.length : Int) ≤ (↑b.length : Int) then ((Q.bytes_Equal.f (List.take (↑c.length : Int).toNat b) c).bind fun v0 => some (.ret (.bool (if true = true then v0 else false)),lcRet [] [] 0)) else none else none else some (.ret (.bool false),lcRet [] [] 0) := by kernel_rfl
theorem stringslite_HasPrefix.top (n : Nat) (s t : ByteArray) : callX false (fnF cx_stringslite_HasPrefix noCalls n 74) ([.str s,.str t]) (lcSt [] 0) out = if decide ((↑s.size : Int) ≥ (↑t.size : Int)) = true then if 0 ≤ (↑t.size : Int) then if (↑t.size : Int) ≤ (↑s.size : Int) then some (.ret (.bool (if true = true then seq (s.extract 0 (↑t.size : Int).toNat) t else false)),lcRet [] [] 0) else none else none else some (.ret (.bool false),lcRet [] [] 0) := by kernel_rfl
theorem strings_CutPrefix.top (n : Nat) (s t : ByteArray) : callX false (fnF cx_strings_CutPrefix noCalls n 52) ([.str s,.str t]) (lcSt [] 0) out = ((Q.stringslite_CutPrefix.f s t).bind fun v0 => some (.ret (.tup [.str v0.1,.bool v0.2]),lcRet [] [] 0)) := by kernel_rfl
theorem bytes_Contains.top (n : Nat) (b c : List Int) : callX false (fnF cx_bytes_Contains noCalls n 27) ([.sl (.int .u8) b .no,.sl (.int .u8) c .no]) (lcSt [] 0) out = if (byteB b = true ∧ byteB c = true) ∧ b.length < 4294967281 ∧ 0 < c.length ∧ c.length ≤ 1000 then some (.ret (.bool (bIndexW b c != (-1 : Int))),lcRet [] [] 0) else none := by kernel_rfl
end Go.Proofs.YtccfmfifnbnlmaaDoor.Ev
end
section
/- The evaluator's trees are the functions: bytes, names, references. -/
set_option linter.unusedVariables false
set_option linter.unusedSimpArgs false
namespace Go.Proofs.YtccfmfifnbnlmaaDoor.Ev
open Go Go.RowKit Go.Proofs.YtccfmfifnbnlmaaDoorW.PrintWords
theorem bIndex_room {b c : List Int} (h : 0 ≤ bIndexW b c) : bIndexW b c + (c.length : Int) ≤ b.length := by
 have := index_room (Lib.bytesOf b) (Lib.bytesOf c) (bIndexW b c).toNat (by rw [Int.toNat_of_nonneg h]; rfl)
 have h1 : (Lib.bytesOf b).length = b.length := List.length_map _
 have h2 : (Lib.bytesOf c).length = c.length := List.length_map _
 omega
theorem bytes_Equal.ok : AllOk specs_bytes_Equal := okS (cx := cx_bytes_Equal) rfl xmllex_nameOf.ok (by kernel_rfl) fun args cs n K r g => by
 unfold bytes_Equal.spec at g
 dsimp only [lcSt] at g
 split at g
 · rename_i b c
   obtain ⟨v,h,h2⟩ := bind2 g
   clear g
   refine okG h2 ?_
   clear h2
   refine ⟨0,?_⟩
   rw [bytes_Equal.top]
   unfold Q.bytes_Equal.f at h
   have hs : ∀ x y : ByteArray,seq x y = (x.toList == y.toList) := fun x y => by rw [Bool.eq_iff_iff,seq_list,beq_iff_eq]
   simp only [hs]
   simp only [ite_or,ite_and,false_or_b,true_and_b,seq_list,seq_false,wrap_64,wrap_8,wrap_u64_mod,ba_list,decide_eq_true_eq,beq_iff_eq,Bool.not_eq_true',Int.zero_sub,toBytes_len,bt_eq,shr_6,shr_12,shr_18,wrap64_mod,toNat0,toNat1,toNat2,most,List.length_cons,List.length_nil,ofBytes_eq] at h ⊢
   grind
 · cases g
theorem bytes_HasPrefix.ok : AllOk specs_bytes_HasPrefix := okS (cx := cx_bytes_HasPrefix) rfl bytes_Equal.ok (by kernel_rfl) fun args cs n K r g => by
 unfold bytes_HasPrefix.spec at g
 dsimp only [lcSt] at g
 split at g
 · rename_i b c
   obtain ⟨v,h,h2⟩ := bind2 g
   clear g
   refine okG h2 ?_
   clear h2
   refine ⟨0,?_⟩
   rw [bytes_HasPrefix.top]
   unfold Q.bytes_HasPrefix.f at h
   simp only [ite_or,ite_and,false_or_b,true_and_b,seq_list,seq_false,wrap_64,wrap_8,wrap_u64_mod,ba_list,decide_eq_true_eq,beq_iff_eq,Bool.not_eq_true',Int.zero_sub,toBytes_len,bt_eq,shr_6,shr_12,shr_18,wrap64_mod,toNat0,toNat1,toNat2,most,List.length_cons,List.length_nil,ofBytes_eq] at h ⊢
   grind [→ bindE]
 · cases g
theorem bytes_CutPrefix.ok : AllOk specs_bytes_CutPrefix := okS (cx := cx_bytes_CutPrefix) rfl bytes_HasPrefix.ok (by kernel_rfl) fun args cs n K r g => by
 unfold bytes_CutPrefix.spec at g
 dsimp only [lcSt] at g
 split at g
 · rename_i b c
   obtain ⟨v,h,h2⟩ := bind2 g
   clear g
   refine okG h2 ?_
   clear h2
   refine ⟨0,?_⟩
   rw [bytes_CutPrefix.top]
   unfold Q.bytes_CutPrefix.f at h
   simp only [ite_or,ite_and,false_or_b,true_and_b,seq_list,seq_false,wrap_64,wrap_8,wrap_u64_mod,ba_list,decide_eq_true_eq,beq_iff_eq,Bool.not_eq_true',Int.zero_sub,toBytes_len,bt_eq,shr_6,shr_12,shr_18,wrap64_mod,toNat0,toNat1,toNat2,most,List.length_cons,List.length_nil,ofBytes_eq] at h ⊢
   grind [→ bindE]
 · cases g
theorem stringslite_HasPrefix.ok : AllOk specs_stringslite_HasPrefix := okS (cx := cx_stringslite_HasPrefix) rfl bytes_CutPrefix.ok (by kernel_rfl) fun args cs n K r g => by
 unfold stringslite_HasPrefix.spec at g
 dsimp only [lcSt] at g
 split at g
 · rename_i s t
   obtain ⟨v,h,h2⟩ := bind2 g
   clear g
   refine okG h2 ?_
   clear h2
   refine ⟨0,?_⟩
   rw [stringslite_HasPrefix.top]
   unfold Q.stringslite_HasPrefix.f at h
   have hs : ∀ x y : ByteArray,seq x y = (x.toList == y.toList) := fun x y => by rw [Bool.eq_iff_iff,seq_list,beq_iff_eq]
   simp only [hs]
   simp only [ite_or,ite_and,false_or_b,true_and_b,seq_list,seq_false,wrap_64,wrap_8,wrap_u64_mod,ba_list,decide_eq_true_eq,beq_iff_eq,Bool.not_eq_true',Int.zero_sub,toBytes_len,bt_eq,shr_6,shr_12,shr_18,wrap64_mod,toNat0,toNat1,toNat2,most,List.length_cons,List.length_nil,ofBytes_eq] at h ⊢
   grind
 · cases g
theorem stringslite_CutPrefix.ok : AllOk specs_stringslite_CutPrefix := okS (cx := cx_stringslite_CutPrefix) rfl stringslite_HasPrefix.ok (by kernel_rfl) fun args cs n K r g => by
 unfold stringslite_CutPrefix.spec at g
 dsimp only [lcSt] at g
 split at g
 · rename_i s t
   obtain ⟨v,h,h2⟩ := bind2 g
   clear g
   refine okG h2 ?_
   clear h2
   refine ⟨0,?_⟩
   rw [stringslite_CutPrefix.top]
   unfold Q.stringslite_CutPrefix.f at h
   simp only [ite_or,ite_and,false_or_b,true_and_b,seq_list,seq_false,wrap_64,wrap_8,wrap_u64_mod,ba_list,decide_eq_true_eq,beq_iff_eq,Bool.not_eq_true',Int.zero_sub,toBytes_len,bt_eq,shr_6,shr_12,shr_18,wrap64_mod,toNat0,toNat1,toNat2,most,List.length_cons,List.length_nil,ofBytes_eq] at h ⊢
   grind [→ bindE]
 · cases g
theorem strings_CutPrefix.ok : AllOk specs_strings_CutPrefix := okS (cx := cx_strings_CutPrefix) rfl stringslite_CutPrefix.ok (by kernel_rfl) fun args cs n K r g => by
 unfold strings_CutPrefix.spec at g
 dsimp only [lcSt] at g
 split at g
 · rename_i s t
   obtain ⟨v,h,h2⟩ := bind2 g
   clear g
   refine okG h2 ?_
   clear h2
   refine ⟨0,?_⟩
   rw [strings_CutPrefix.top]
   unfold Q.strings_CutPrefix.f at h
   grind [→ bindE]
 · cases g
theorem bytes_Cut.ok : AllOk specs_bytes_Cut := okS (cx := cx_bytes_Cut) rfl strings_CutPrefix.ok (by kernel_rfl) fun args cs n K r g => by
 unfold bytes_Cut.spec at g
 dsimp only [lcSt] at g
 split at g
 · rename_i b c
   obtain ⟨v,h,h2⟩ := bind2 g
   clear g
   refine okG h2 ?_
   clear h2
   refine ⟨0,?_⟩
   rw [bytes_Cut.top]
   unfold cutX at h
   by_cases hs : seekB b c
   · rw [if_pos hs] at h
     unfold seekB at hs
     rw [if_pos hs]
     by_cases h0 : 0 ≤ bIndexW b c
     · rw [if_pos h0] at h
       obtain rfl := Option.some.inj h
       have hr := bIndex_room h0
       have hw : IntKind.i64.wrap (bIndexW b c + (c.length : Int)) = (((bIndexW b c).toNat + c.length : Nat) : Int) := by rw [wrap_64]; unfold wrap64; omega
       rw [if_pos (decide_eq_true h0),if_pos h0,if_pos (by omega),hw,if_pos (by omega),if_pos (by omega),Int.toNat_natCast]
     · rw [if_neg h0] at h
       obtain rfl := Option.some.inj h
       rw [if_neg (fun e => h0 (of_decide_eq_true e))]
   · rw [if_neg hs] at h
     cases h
 · cases g
theorem bytes_Contains.ok : AllOk specs_bytes_Contains := okS (cx := cx_bytes_Contains) rfl bytes_Cut.ok (by kernel_rfl) fun args cs n K r g => by
 unfold bytes_Contains.spec at g
 dsimp only [lcSt] at g
 split at g
 · rename_i b c
   obtain ⟨v,h,h2⟩ := bind2 g
   clear g
   refine okG h2 ?_
   clear h2
   refine ⟨0,?_⟩
   rw [bytes_Contains.top]
   unfold containsX at h
   by_cases hs : seekB b c
   · rw [if_pos hs] at h
     unfold seekB at hs
     rw [if_pos hs]
     obtain rfl := Option.some.inj h
     rfl
   · rw [if_neg hs] at h
     cases h
 · cases g
theorem bytes_ReplaceAll.ok : AllOk specs_bytes_ReplaceAll := okS (cx := cx_bytes_ReplaceAll) rfl bytes_Contains.ok (by kernel_rfl) fun args cs n K r g => by
 unfold bytes_ReplaceAll.spec at g
 dsimp only [lcSt] at g
 split at g
 · rename_i b c d
   obtain ⟨v,h,h2⟩ := bind2 g
   clear g
   refine okG h2 ?_
   clear h2
   refine ⟨0,?_⟩
   rw [bytes_ReplaceAll.top]
   unfold replX at h
   split at h
   · rename_i hs
     rw [if_pos ⟨⟨rfl,hs.1⟩,hs.2⟩]
     obtain rfl := Option.some.inj h
     rfl
   · cases h
 · cases g
end Go.Proofs.YtccfmfifnbnlmaaDoor.Ev
end
section
/- Names with a prefix, comments, instructions, numerals: plain functions. -/
set_option linter.unusedSimpArgs false
set_option linter.unusedVariables false
namespace Go.Proofs.YtccfmfifnbnlmaaDoor.Xm
open Go.RowKit Go.Proofs.YtccfmfifnbnlmaaDoor.Q Go.Proofs.YtccfmfifnbnlmaaDoorW.PrintWords Go.Proofs.YtccfmfifnbnlmaaDoorW.PrintLast Go.Proofs.YtccfmfifnbnlmaaDoorH Go.Proofs.YtccfmfifnbnlmaaDoor.Chars
/-- How many bytes the name has that others begin with, with a prefix or not. -/
def fullL (l : List Int) : Nat := if 0 < nameL l ∧ l.getD (nameL l) 0 = 58 ∧ 0 < nameL (l.drop (nameL l + 1)) then nameL l + 1 + nameL (l.drop (nameL l + 1)) else nameL l
theorem nameL_le {l : List Int} (hl : Bytes l) : nameL l ≤ l.length := nameGo_le _ _ _ hl
/-- The value of a digit; -1: it is none. -/
def digC (x : Int) : Int := if 48 ≤ x ∧ x ≤ 57 then x - 48 else if 97 ≤ x ∧ x ≤ 102 then x - 87 else if 65 ≤ x ∧ x ≤ 70 then x - 55 else -1
def numGo (q : Int) : Int → List Int → Option Int
  | n, [] => some n
  | n, x :: t => if digC x < 0 ∨ digC x ≥ q then none else if n * q + digC x > 1114111 then none else numGo q (n * q + digC x) t
/-- The character that digits name. -/
def numW (q : Int) (l : List Int) : Int × Bool := match numGo q 0 l with
  | none => (0, false)
  | some n => (n, !l.isEmpty && xmlC n)
def namedW (l : List Int) : Int × Bool :=
  if l = [108, 116] then (60, true) else if l = [103, 116] then (62, true) else if l = [97, 109, 112] then (38, true) else if l = [97, 112, 111, 115] then (39, true) else if l = [113, 117, 111, 116] then (34, true)
  else if l.take 1 = [35] then (if (l.drop 1).take 1 = [120] then numW 16 (l.drop 2) else numW 10 (l.drop 1)) else (0, false)
end Go.Proofs.YtccfmfifnbnlmaaDoor.Xm
end
section
/- bytes.ReplaceAll one byte at a time: what a text with its line ends as one sign is. -/
set_option linter.unusedVariables false
namespace Go.Proofs.YtccfmfifnbnlmaaDoor.Ev
open Go
theorem bIndex_cons (x : Int) (t m : List Int) : bIndexW (x :: t) m = if (Lib.bytesOf m).isPrefixOf (Lib.bytesOf (x :: t)) then 0 else if bIndexW t m = -1 then -1 else bIndexW t m + 1 := by
 have hx : Lib.bytesOf (x :: t) = UInt8.ofNat x.toNat :: Lib.bytesOf t := rfl
 rw [show bIndexW (x :: t) m = Lib.index (Lib.bytesOf (x :: t)) (Lib.bytesOf m) from rfl,hx,Lib.index]
 split
 · rfl
 · rename_i h
   unfold bIndexW
   by_cases h2 : Lib.index (Lib.bytesOf t) (Lib.bytesOf m) = -1
   · rw [if_pos (by rw [h2]; rfl),if_pos h2]
   · rw [if_neg (by rw [beq_iff_eq]; exact h2),if_neg h2]
theorem cnt_zero {l m : List Int} : cntI l m = 0 ↔ bIndexW l m = -1 := by
 unfold cntI Lib.count bIndexW
 rw [Lib.countFrom]
 by_cases h : Lib.index (Lib.bytesOf l) (Lib.bytesOf m) = -1
 · rw [if_pos (by rw [h]; rfl)]; exact ⟨fun _ => h,fun _ => rfl⟩
 · rw [if_neg (by rw [beq_iff_eq]; exact h)]; exact ⟨fun q => by omega,fun q => absurd q h⟩
theorem bIndex_ge (l m : List Int) : -1 ≤ bIndexW l m := Lib.index_ge _ _
theorem replW_nil {m r : List Int} (hm : 0 < m.length) : replW [] m r = [] := by unfold replW; rw [cnt_nil hm]; rfl
theorem replW_yes {l m r : List Int} (hm : 0 < m.length) (h : bIndexW l m = 0) : replW l m r = r ++ replW (l.drop m.length) m r := by
 cases hk : cntI l m with
 | zero => rw [cnt_zero.1 hk] at h; cases h
 | succ k =>
  obtain ⟨i,h1,h2,h3⟩ := cnt_step hm hk
  have : i = 0 := by omega
  subst this
  unfold replW
  rw [hk,replI,h,← h3]
  simp
theorem replW_no {x : Int} {t m r : List Int} (hm : 0 < m.length) (h : bIndexW (x :: t) m ≠ 0) : replW (x :: t) m r = x :: replW t m r := by
 have hc := bIndex_cons x t m
 by_cases hp : (Lib.bytesOf m).isPrefixOf (Lib.bytesOf (x :: t)) = true
 · rw [if_pos hp] at hc; exact absurd hc h
 · rw [if_neg hp] at hc
   by_cases h1 : bIndexW t m = -1
   · rw [if_pos h1] at hc
     unfold replW
     rw [cnt_zero.2 hc,cnt_zero.2 h1]; rfl
   · rw [if_neg h1] at hc
     have hg := bIndex_ge t m
     cases hk : cntI t m with
     | zero => exact absurd (cnt_zero.1 hk) h1
     | succ k =>
      cases hk2 : cntI (x :: t) m with
      | zero => have := cnt_zero.1 hk2; omega
      | succ k2 =>
       obtain ⟨i,a1,a2,a3⟩ := cnt_step hm hk
       obtain ⟨j,b1,b2,b3⟩ := cnt_step hm hk2
       have hj : j = i + 1 := by omega
       subst hj
       have hd : (x :: t).drop (i + 1 + m.length) = t.drop (i + m.length) := by rw [show i + 1 + m.length = (i + m.length) + 1 from by omega,List.drop_succ_cons]
       rw [hd,a3] at b3
       subst b3
       unfold replW
       rw [hk,hk2,replI,replI,b1,a1,Int.toNat_natCast,Int.toNat_natCast,hd,List.take_succ_cons]
       rfl
theorem u8_inj {x y : Int} (hx : 0 ≤ x ∧ x < 256) (hy : 0 ≤ y ∧ y < 256) (h : UInt8.ofNat x.toNat = UInt8.ofNat y.toNat) : x = y := by
 have := congrArg UInt8.toNat h
 simp only [UInt8.toNat_ofNat'] at this
 omega
/-- One byte for another. -/
theorem replW_one {a b : Int} (ha : 0 ≤ a ∧ a < 256) : ∀ {l : List Int},byteB l = true → replW l [a] [b] = l.map fun x => if x = a then b else x
 | [],_ => replW_nil (by simp)
 | x :: t,h => by
  have hb := byteB_all h
  have ht : byteB t = true := by
   unfold byteB at h ⊢
   rw [List.all_cons,Bool.and_eq_true] at h; exact h.2
  have hc := bIndex_cons x t [a]
  by_cases e : x = a
  · have h0 : bIndexW (x :: t) [a] = 0 := by
     rw [hc,if_pos]
     subst e
     simp [Lib.bytesOf,List.isPrefixOf]
    rw [replW_yes (by simp) h0,List.map_cons,if_pos e]
    exact congrArg (b :: ·) (replW_one ha ht)
  · have h0 : bIndexW (x :: t) [a] ≠ 0 := by
     rw [hc,if_neg]
     · have := bIndex_ge t [a]
       split <;> omega
     · intro q
       simp only [Lib.bytesOf,List.map_cons,List.map_nil,List.isPrefixOf,Bool.and_true,beq_iff_eq] at q
       exact e (u8_inj (hb x (List.mem_cons_self ..)) ha q.symm)
    rw [replW_no (by simp) h0,List.map_cons,if_neg e,replW_one ha ht]
/-- Two signs at the end of a line as one. -/
def crlf : List Int → List Int
 | [] => []
 | [x] => [x]
 | x :: y :: t => if x = 13 ∧ y = 10 then 10 :: crlf t else x :: crlf (y :: t)
theorem replW_crlf : ∀ {l : List Int},byteB l = true → replW l [13,10] [10] = crlf l
 | [],_ => replW_nil (by simp)
 | [x],h => by
  rw [replW_no (by simp) (by
   rw [bIndex_cons,if_neg (by simp [Lib.bytesOf,List.isPrefixOf])]
   have := bIndex_ge [] [13,10]
   split <;> omega),replW_nil (by simp)]
  rfl
 | x :: y :: t,h => by
  have hb := byteB_all h
  have ht : byteB (y :: t) = true := by
   unfold byteB at h ⊢
   rw [List.all_cons,Bool.and_eq_true] at h; exact h.2
  have ht2 : byteB t = true := by
   unfold byteB at ht ⊢
   rw [List.all_cons,Bool.and_eq_true] at ht; exact ht.2
  have hc := bIndex_cons x (y :: t) [13,10]
  rw [crlf]
  by_cases e : x = 13 ∧ y = 10
  · obtain ⟨rfl,rfl⟩ := e
    rw [if_pos ⟨rfl,rfl⟩,replW_yes (by simp) (by rw [hc,if_pos (by simp [Lib.bytesOf,List.isPrefixOf])])]
    exact congrArg (10 :: ·) (replW_crlf ht2)
  · rw [if_neg e,replW_no (by simp) (by
     rw [hc,if_neg]
     · have := bIndex_ge (y :: t) [13,10]
       split <;> omega
     · intro q
       simp only [Lib.bytesOf,List.map_cons,List.map_nil,List.isPrefixOf,Bool.and_true,Bool.and_eq_true,beq_iff_eq] at q
       exact e ⟨u8_inj (hb x (List.mem_cons_self ..)) (by omega) q.1.symm,u8_inj (hb y (by simp)) (by omega) q.2.symm⟩),replW_crlf ht]
end Go.Proofs.YtccfmfifnbnlmaaDoor.Ev
end
section
/- The digits of a numeral. -/
set_option linter.unusedVariables false
namespace Go.Proofs.YtccfmfifnbnlmaaDoor.Ev
open Go
def hexS : List UInt8 := [48,49,50,51,52,53,54,55,56,57,97,98,99,100,101,102]
set_option maxRecDepth 100000 in
theorem dig_fin : ∀ n : Fin 256,Lib.indexByte hexS (bits .or .u8 (n.val : Int) ((bits .and .u8 (n.val : Int) 64).fdiv ((2 : Int) ^ min (Int.toNat (1 : Int)) IntKind.u8.bits))).toNat.toUInt8 = Xm.digC (n.val : Int) := by decide
theorem dig_ok {x : Int} (h0 : 0 ≤ x) (h1 : x < 256) : Lib.indexByte hexS (bits .or .u8 x ((bits .and .u8 x 64).fdiv ((2 : Int) ^ min (Int.toNat (1 : Int)) IntKind.u8.bits))).toNat.toUInt8 = Xm.digC x := by
 have := dig_fin ⟨x.toNat,by omega⟩
 simpa only [Int.toNat_of_nonneg h0] using this
/-- A text with its line ends as one sign, in values blanks as one. -/
theorem byteB_crlf : ∀ {l : List Int},byteB l = true → byteB (crlf l) = true ∧ (crlf l).length ≤ l.length
 | [],_ => ⟨rfl,Nat.le_refl _⟩
 | [x],h => ⟨h,Nat.le_refl _⟩
 | x :: y :: t,h => by
  have h' : (decide (0 ≤ x) && decide (x < 256)) = true ∧ byteB (y :: t) = true := by
   unfold byteB at h ⊢
   rw [List.all_cons,Bool.and_eq_true] at h; exact h
  have h3 : byteB (y :: t) = true := h'.2
  have h2 : byteB t = true := by
   unfold byteB at h3 ⊢
   rw [List.all_cons,Bool.and_eq_true] at h3; exact h3.2
  rw [crlf]
  split
  · have := byteB_crlf h2
    refine ⟨?_,by simp only [List.length_cons]; omega⟩
    unfold byteB; rw [List.all_cons,Bool.and_eq_true]; exact ⟨by decide,this.1⟩
  · have := byteB_crlf h3
    refine ⟨?_,by have := this.2; simp only [List.length_cons] at this ⊢; omega⟩
    unfold byteB; rw [List.all_cons,Bool.and_eq_true]; exact ⟨h'.1,this.1⟩
theorem byteB_map {l : List Int} {a b : Int} (hb : 0 ≤ b ∧ b < 256) (h : byteB l = true) : byteB (l.map fun x => if x = a then b else x) = true := by
 have h' := byteB_all h
 unfold byteB
 rw [List.all_eq_true]
 intro x hx
 obtain ⟨y,hy,rfl⟩ := List.mem_map.1 hx
 split
 · simp [hb]
 · simp [h' y hy]
end Go.Proofs.YtccfmfifnbnlmaaDoor.Ev
end
section
/- What is known of each function: its word; and the contexts in which it is reckoned. -/
-- prev bytes_ReplaceAll
-- irreducible fullX trimX linesX numX namedX commX instX cutX containsX replX
set_option linter.unusedVariables false
namespace Go.Proofs.YtccfmfifnbnlmaaDoor.Ev
open Go
def okB (b : List Int) : Prop := byteB b = true ∧ b.length ≤ 8000000
instance (b : List Int) : Decidable (okB b) := by unfold okB; infer_instance
def fullX (b : List Int) : Option (List Int) := if okB b then some (b.take (Xm.fullL b)) else none
def trimX (b : List Int) : Option (List Int) := if okB b then some (bTrimW b ⟨#[32,9,10,13]⟩) else none
def r2n (x : Int) : Int := if x = 13 then 10 else x
def n2s (x : Int) : Int := if x = 10 then 32 else x
def t2s (x : Int) : Int := if x = 9 then 32 else x
/-- Literal bytes with each end of a line as one sign; in values blanks are 32. -/
def linesW (b : List Int) (v : Bool) : List Int := if v then (((crlf b).map r2n).map n2s).map t2s else (crlf b).map r2n
def linesX (b : List Int) (v : Bool) : Option (List Int) := if okB b then some (linesW b v) else none
def numX (s : ByteArray) (q : Int) : Option (Int × Bool) := if s.size ≤ 8000000 ∧ (q = 10 ∨ q = 16) then some (Xm.numW q (toBytes s)) else none
def namedX (s : ByteArray) : Option (Int × Bool) := if s.size ≤ 8000000 then some (Xm.namedW (toBytes s)) else none
def commW (b : List Int) : Int := if bIndexW (b.drop 4) [45,45] < 0 ∨ (b.drop (4 + (bIndexW (b.drop 4) [45,45]).toNat)).take 3 ≠ [45,45,62] then 0 else bIndexW (b.drop 4) [45,45] + 7
def commX (b : List Int) : Option Int := if okB b ∧ 4 ≤ b.length then some (commW b) else none
def blankC (x : Int) : Bool := x == 32 || x == 9 || x == 10 || x == 13
def instW (b : List Int) : Int :=
 let t := Xm.nameL (b.drop 2)
 let r := b.drop (2 + t)
 let n := bIndexW r [63,62]
 if t = 0 ∨ n < 0 ∨ (n > 0 ∧ blankC (r.getD 0 0) = false) then 0 else 2 + t + n + 2
def instX (b : List Int) : Option Int := if okB b ∧ 2 ≤ b.length then some (instW b) else none
noncomputable def cx_xmllex_fullName := cxOf specs_bytes_ReplaceAll
noncomputable def xmllex_fullName.spec : Spec := fun args st K => match args,st.box,st.nt with
 | [.sl (.int .u8) b .no],[],0 => (fullX b).bind fun v => K (.ret (.sl (.int .u8) (v) .no)) (lcRet [] [] 0)
 | _,_,_ => none
noncomputable def specs_xmllex_fullName : SpecL := (37,false,xmllex_fullName.spec) :: specs_bytes_ReplaceAll
noncomputable def cx_xmllex_trimmed := cxOf specs_xmllex_fullName
noncomputable def xmllex_trimmed.spec : Spec := fun args st K => match args,st.box,st.nt with
 | [.sl (.int .u8) b .no],[],0 => (trimX b).bind fun v => K (.ret (.sl (.int .u8) (v) .no)) (lcRet [] [] 0)
 | _,_,_ => none
noncomputable def specs_xmllex_trimmed : SpecL := (38,false,xmllex_trimmed.spec) :: specs_xmllex_fullName
end Go.Proofs.YtccfmfifnbnlmaaDoor.Ev
end
section
/- What each function comes to, one step of it at a time: the kernel's own reckoning. -/
set_option linter.unusedVariables false
set_option maxRecDepth 100000
namespace Go.Proofs.YtccfmfifnbnlmaaDoor.Ev
open Go Go.RowKit
open Go.IntKind (i64 u8 i32 u64)
theorem xmllex_fullName.top (n : Nat) (b : List Int) : callX false (fnF cx_xmllex_fullName noCalls n 37) ([.sl (.int .u8) b .no]) (lcSt [] 0) out = ((lim fun k => Q.xmllex_nameOf.f k b).bind fun v0 => if (if ((↑v0.length : Int) == 0) = true then true else (↑v0.length : Int) == (↑b.length : Int)) = true then some (.ret (.sl (.int .u8) v0 .no),lcRet [] [] 0) else if 0 ≤ (↑v0.length : Int) then ((nth b (↑v0.length : Int).toNat).bind fun v1 => if (if false = true then true else v1 != 58) = true then some (.ret (.sl (.int .u8) v0 .no),lcRet [] [] 0) else if 0 ≤ i64.wrap ((↑v0.length : Int) + 1) then if i64.wrap ((↑v0.length : Int) + 1) ≤ (↑b.length : Int) then ((lim fun k => Q.xmllex_nameOf.f k (List.drop (i64.wrap ((↑v0.length : Int) + 1)).toNat b)).bind fun v2 => if ((↑v2.length : Int) == 0) = true then some (.ret (.sl (.int .u8) v0 .no),lcRet [] [] 0) else if 0 ≤ i64.wrap (i64.wrap ((↑v0.length : Int) + 1) + (↑v2.length : Int)) then if i64.wrap (i64.wrap ((↑v0.length : Int) + 1) + (↑v2.length : Int)) ≤ (↑b.length : Int) then some (.ret (.sl (.int .u8) (List.take (i64.wrap (i64.wrap ((↑v0.length : Int) + 1) + (↑v2.length : Int))).toNat b) .no),lcRet [] [] 0) else none else none) else none else none) else none) := by kernel_rfl
theorem xmllex_trimmed.top (n : Nat) (b : List Int) : callX false (fnF cx_xmllex_trimmed noCalls n 38) ([.sl (.int .u8) b .no]) (lcSt [] 0) out = if byteB b = true ∧ 2 ≤ (ByteArray.mk #[32,9,10,13]).size ∧ (ByteArray.mk #[32,9,10,13]).size < 4294967281 ∧ ([32,9,10,13].all fun b : UInt8 => decide (b.toNat < 128)) = true then some (.ret (.sl (.int .u8) (bTrimW b (ByteArray.mk #[32,9,10,13])) .no),lcRet [] [] 0) else none := by kernel_rfl
end Go.Proofs.YtccfmfifnbnlmaaDoor.Ev
end
section
/- The evaluator's trees are the functions: full names, blanks. -/
set_option linter.unusedVariables false
set_option linter.unusedSimpArgs false
namespace Go.Proofs.YtccfmfifnbnlmaaDoor.Ev
open Go Go.RowKit Go.Proofs.YtccfmfifnbnlmaaDoorW.PrintWords
theorem byteB_bytes {l : List Int} (h : byteB l = true) : Chars.Bytes l := byteB_all h
theorem nameOf_lim {b : List Int} (hb : Chars.Bytes b) (hl : b.length ≤ 8000000) : lim (fun k => Q.xmllex_nameOf.f k b) = some (b.take (Xm.nameL b)) :=
 lim_of (fun k => Q.xmllex_nameOf.mono b k) (k := 0 + b.length + 30) (by omega) (Xm.nameOf_spec b hb (by omega) 0)
theorem xmllex_fullName.ok : AllOk specs_xmllex_fullName := okS (cx := cx_xmllex_fullName) rfl bytes_ReplaceAll.ok (by kernel_rfl) fun args cs n K r g => by
 unfold xmllex_fullName.spec at g
 dsimp only [lcSt] at g
 split at g
 · rename_i b
   obtain ⟨v,h,h2⟩ := bind2 g
   clear g
   refine okG h2 ?_
   clear h2
   refine ⟨0,?_⟩
   rw [xmllex_fullName.top]
   unfold fullX at h
   by_cases hs : okB b
   · rw [if_pos hs] at h
     obtain rfl := Option.some.inj h
     obtain ⟨h1,h2⟩ := hs
     have hb := byteB_bytes h1
     have hle := Xm.nameL_le hb
     have e1 : ((b.take (Xm.nameL b)).length : Int) = (Xm.nameL b : Int) := by rw [List.length_take]; omega
     rw [nameOf_lim hb h2,Option.bind_some,e1]
     have hf : Xm.fullL b = if 0 < Xm.nameL b ∧ b.getD (Xm.nameL b) 0 = 58 ∧ 0 < Xm.nameL (b.drop (Xm.nameL b + 1)) then Xm.nameL b + 1 + Xm.nameL (b.drop (Xm.nameL b + 1)) else Xm.nameL b := rfl
     by_cases c0 : Xm.nameL b = 0 ∨ Xm.nameL b = b.length
     · have : Xm.fullL b = Xm.nameL b := by
        rw [hf,if_neg]
        rintro ⟨q1,q2,_⟩
        rcases c0 with c0 | c0
        · omega
        · rw [c0,List.getD_eq_getElem?_getD,List.getElem?_eq_none (by omega)] at q2
          exact absurd q2 (by decide)
       rw [if_pos (by rw [ite_or,beq_iff_eq,beq_iff_eq]; omega),this]
     · have hlt : Xm.nameL b < b.length := by omega
       have hn : nth b (Xm.nameL b) = some (b.getD (Xm.nameL b) 0) := by rw [nth_get,List.getD_eq_getElem?_getD,List.getElem?_eq_getElem hlt]; rfl
       have w1 : IntKind.i64.wrap ((Xm.nameL b : Int) + 1) = ((Xm.nameL b + 1 : Nat) : Int) := by rw [wrap_64]; unfold wrap64; omega
       rw [if_neg (by rw [ite_or,beq_iff_eq,beq_iff_eq]; omega),if_pos (by omega),Int.toNat_natCast,hn,Option.bind_some]
       by_cases c1 : b.getD (Xm.nameL b) 0 = 58
       · rw [if_neg (by rw [false_or_b,bne_iff_ne]; exact fun q => q c1),w1,if_pos (by omega),if_pos (by omega),Int.toNat_natCast,nameOf_lim (hb.drop _) (by rw [List.length_drop]; omega),Option.bind_some]
         have hle2 := Xm.nameL_le (hb.drop (Xm.nameL b + 1))
         have e2 : (((b.drop (Xm.nameL b + 1)).take (Xm.nameL (b.drop (Xm.nameL b + 1)))).length : Int) = (Xm.nameL (b.drop (Xm.nameL b + 1)) : Int) := by rw [List.length_take]; omega
         rw [e2]
         rw [List.length_drop] at hle2
         have w2 : IntKind.i64.wrap (((Xm.nameL b + 1 : Nat) : Int) + (Xm.nameL (b.drop (Xm.nameL b + 1)) : Int)) = ((Xm.nameL b + 1 + Xm.nameL (b.drop (Xm.nameL b + 1)) : Nat) : Int) := by rw [wrap_64]; unfold wrap64; omega
         by_cases c2 : Xm.nameL (b.drop (Xm.nameL b + 1)) = 0
         · rw [if_pos (by rw [beq_iff_eq]; omega),hf,if_neg (by omega)]
         · rw [if_neg (by rw [beq_iff_eq]; omega),w2,if_pos (by omega),if_pos (by omega),Int.toNat_natCast,hf,if_pos ⟨by omega,c1,by omega⟩]
       · rw [if_pos (by rw [false_or_b,bne_iff_ne]; exact c1),hf,if_neg (fun q => c1 q.2.1)]
   · rw [if_neg hs] at h
     cases h
 · cases g
theorem xmllex_trimmed.ok : AllOk specs_xmllex_trimmed := okS (cx := cx_xmllex_trimmed) rfl xmllex_fullName.ok (by kernel_rfl) fun args cs n K r g => by
 unfold xmllex_trimmed.spec at g
 dsimp only [lcSt] at g
 split at g
 · rename_i b
   obtain ⟨v,h,h2⟩ := bind2 g
   clear g
   refine okG h2 ?_
   clear h2
   refine ⟨0,?_⟩
   rw [xmllex_trimmed.top]
   unfold trimX at h
   by_cases hs : okB b
   · rw [if_pos hs] at h
     obtain rfl := Option.some.inj h
     rw [if_pos ⟨hs.1,by decide,by decide,by decide⟩]
   · rw [if_neg hs] at h
     cases h
 · cases g
end Go.Proofs.YtccfmfifnbnlmaaDoor.Ev
end
section
/- chars.Encode, and numerals: plain functions. -/
set_option linter.unusedSimpArgs false
set_option linter.unusedVariables false
namespace Go.Proofs.YtccfmfifnbnlmaaDoor.Xm
open Go.RowKit Go.Proofs.YtccfmfifnbnlmaaDoor.Q Go.Proofs.YtccfmfifnbnlmaaDoorW.PrintWords Go.Proofs.YtccfmfifnbnlmaaDoorW.PrintLast Go.Proofs.YtccfmfifnbnlmaaDoorH Go.Proofs.YtccfmfifnbnlmaaDoor.Chars
theorem orF_128 : ∀ n : Fin 64, Go.bits .or .u8 128 (n.val : Int) = 128 + n.val := by decide
theorem orF_192 : ∀ n : Fin 32, Go.bits .or .u8 192 (n.val : Int) = 192 + n.val := by decide
theorem orF_224 : ∀ n : Fin 16, Go.bits .or .u8 224 (n.val : Int) = 224 + n.val := by decide
theorem orF_240 : ∀ n : Fin 8, Go.bits .or .u8 240 (n.val : Int) = 240 + n.val := by decide
set_option maxRecDepth 100000 in
theorem andF_63 : ∀ n : Fin 256, Go.bits .and .u8 (n.val : Int) 63 = (n.val : Int) % 64 := by decide
theorem or128 (x : Int) (h0 : 0 ≤ x) (h1 : x < 64) : Go.bits .or .u8 128 x = 128 + x := by have := orF_128 ⟨x.toNat, by omega⟩; simp only [Int.toNat_of_nonneg h0] at this; exact this
theorem or192 (x : Int) (h0 : 0 ≤ x) (h1 : x < 32) : Go.bits .or .u8 192 x = 192 + x := by have := orF_192 ⟨x.toNat, by omega⟩; simp only [Int.toNat_of_nonneg h0] at this; exact this
theorem or224 (x : Int) (h0 : 0 ≤ x) (h1 : x < 16) : Go.bits .or .u8 224 x = 224 + x := by have := orF_224 ⟨x.toNat, by omega⟩; simp only [Int.toNat_of_nonneg h0] at this; exact this
theorem or240 (x : Int) (h0 : 0 ≤ x) (h1 : x < 8) : Go.bits .or .u8 240 x = 240 + x := by have := orF_240 ⟨x.toNat, by omega⟩; simp only [Int.toNat_of_nonneg h0] at this; exact this
theorem and63 (x : Int) : Go.bits .and .u8 (x % 256) 63 = x % 64 := by
  have := andF_63 ⟨(x % 256).toNat, by omega⟩
  simp only [Int.toNat_of_nonneg (show 0 ≤ x % 256 by omega)] at this
  rw [this]; omega
theorem encode_spec (k : Nat) (r : Int) : chars_Encode.f (k + 1) r = some (enc r) := by
  unfold chars_Encode.f enc
  by_cases h1 : r < 0
  · simp [h1]
  rw [if_neg h1]
  by_cases h2 : r > 1114111
  · simp [h2]
  have e32 : wrap32 r = r := by unfold wrap32; omega
  rw [if_neg h2, e32]
  unfold utf8_ValidRune.f
  rw [if_pos (by omega), utf8_ValidRune.j0]
  by_cases h3 : 55296 ≤ r ∧ r ≤ 57343
  · rw [if_neg (by simp; omega), if_neg (by omega), Option.bind_some, if_neg (by decide), if_pos (by omega)]
  have hv : (if decide (r < 55296) = true then some true else if 57343 < r then if r ≤ 1114111 then some true else some false else some false) = some true := by
    by_cases h4 : r < 55296
    · rw [if_pos (decide_eq_true h4)]
    · rw [if_neg (by simpa using h4), if_pos (by omega), if_pos (by omega)]
  rw [hv, Option.bind_some, if_pos rfl, if_neg (by omega)]
  unfold utf8_AppendRune.f
  have m : r % 4294967296 = r := by omega
  rw [m]
  by_cases a1 : r < 128
  · rw [if_pos (by omega), if_pos (by decide), if_pos a1, Option.bind_some, show r % 256 = r by omega]; rfl
  rw [if_neg (by omega), if_neg a1]
  unfold utf8_appendRuneNonASCII.f
  rw [m]
  by_cases a2 : r < 2048
  · rw [if_pos (by omega), if_pos a2, Option.bind_some, and63, show r / 64 % 256 = r / 64 by omega, or192 _ (by omega) (by omega), or128 _ (by omega) (by omega)]; rfl
  rw [if_neg (by omega), if_neg a2]
  by_cases a3 : r < 65536
  · rw [if_pos a3]
    have e : utf8_appendRuneNonASCII.j0 (k + 1) [] r r true = some [224 + r / 4096, 128 + r / 64 % 64, 128 + r % 64] := by
      rw [utf8_appendRuneNonASCII.j0, if_pos rfl, Option.bind_some, and63, and63, show r / 4096 % 256 = r / 4096 by omega, or224 _ (by omega) (by omega), or128 _ (by omega) (by omega), or128 _ (by omega) (by omega)]; rfl
    by_cases a4 : r < 55296
    · rw [if_pos a4, decide_eq_true a4, e]; rfl
    · rw [if_neg a4, if_pos (by omega), decide_eq_true (show r ≤ 65535 by omega), e]; rfl
  rw [if_neg (by omega), if_pos (by omega), decide_eq_false (show ¬ r ≤ 65535 by omega), if_neg a3, utf8_appendRuneNonASCII.j0, if_neg (by decide), if_pos (by omega), if_pos (by omega), Option.bind_some, and63, and63, and63,
    show r / 262144 % 256 = r / 262144 by omega, or240 _ (by omega) (by omega), or128 _ (by omega) (by omega), or128 _ (by omega) (by omega), or128 _ (by omega) (by omega)]; rfl
theorem enc_none {r : Int} (h : enc r = []) : r < 0 ∨ 1114111 < r ∨ (55296 ≤ r ∧ r ≤ 57343) := by
  have := enc_len r
  rw [h, List.length_nil] at this
  split at this
  · rename_i h; omega
  · repeat' split at this
    all_goals omega
theorem dec_enc {r : Int} (h : ¬ (r < 0 ∨ r > 1114111 ∨ (55296 ≤ r ∧ r ≤ 57343))) : dec (enc r) = (r, ((enc r).length : Int)) ∧ enc r ≠ [] := by
  have hl := enc_len r
  rw [if_neg h] at hl
  unfold enc at hl ⊢
  rw [if_neg h] at hl ⊢
  by_cases a1 : r < 128
  · rw [if_pos a1]
    refine ⟨?_, by simp⟩
    unfold dec
    rw [if_neg (by simp), decN1 _ _ _ _ _ (by simp; omega)]
    simp [a1]
  rw [if_neg a1] at hl ⊢
  by_cases a2 : r < 2048
  · rw [if_pos a2]
    refine ⟨?_, by simp⟩
    unfold dec
    rw [if_neg (by simp)]
    simp only [List.length_cons, List.length_nil, List.getD_cons_zero, List.getD_cons_succ]
    rw [decN2 _ _ _ _ _ (by omega) (by omega), if_pos (by omega)]
    congr 1
    omega
  rw [if_neg a2] at hl ⊢
  by_cases a3 : r < 65536
  · rw [if_pos a3]
    refine ⟨?_, by simp⟩
    unfold dec
    rw [if_neg (by simp)]
    simp only [List.length_cons, List.length_nil, List.getD_cons_zero, List.getD_cons_succ]
    rw [decN3 _ _ _ _ _ (by omega) (by omega), if_pos (by omega)]
    congr 1
    omega
  · rw [if_neg a3]
    refine ⟨?_, by simp⟩
    unfold dec
    rw [if_neg (by simp)]
    simp only [List.length_cons, List.length_nil, List.getD_cons_zero, List.getD_cons_succ]
    rw [decN4 _ _ _ _ _ (by omega) (by omega), if_pos (by omega)]
    congr 1
    omega
/-- Is a character that has bytes one of XML? -/
theorem wrong_enc {r : Int} (h : enc r ≠ []) (k : Nat) : chars_Wrong.f (k + 40) (enc r) = some (if xmlC r then -1 else 0) := by
  have hv : ¬ (r < 0 ∨ r > 1114111 ∨ (55296 ≤ r ∧ r ≤ 57343)) := fun q => h (by unfold enc; rw [if_pos q])
  obtain ⟨h1, _⟩ := dec_enc hv
  have hb := enc_bytes r
  have hl : 1 ≤ (enc r).length ∧ (enc r).length ≤ 4 := by
    have := enc_len r
    rw [if_neg hv] at this
    rw [this]
    repeat' split
    all_goals omega
  unfold chars_Wrong.f
  rw [show k + 40 = (k + 29 + 10) + 1 from rfl, chars_Wrong.l0, if_pos (by omega), if_pos (by omega), if_pos (by omega), show Int.toNat 0 = 0 from rfl, List.drop_zero, chars_Decode_spec _ hb, Option.bind_some, h1]
  dsimp only
  rw [if_neg (by omega), chars_ofXML_spec, Option.bind_some]
  by_cases hx : xmlC r = true
  · rw [if_pos hx, if_pos hx, x64 _ (by omega) (by omega), show k + 29 + 10 = (k + 38) + 1 from rfl, chars_Wrong.l0, if_neg (by omega)]
  · rw [if_neg hx, if_neg hx]
end Go.Proofs.YtccfmfifnbnlmaaDoor.Xm
end
section
/- chars.Encode: what it gives is nil just where it is none. -/
set_option linter.unusedVariables false
set_option linter.unusedSimpArgs false
namespace Go.Proofs.YtccfmfifnbnlmaaDoor.Ev
open Go Go.RowKit Go.Proofs.YtccfmfifnbnlmaaDoorW.PrintWords
theorem valid_walk (z : Int) (w : World) (h0 : 55296 ≤ z) (h1 : z ≤ 57343) : Calls Tryd.prog 54 #[.int .i32 z] w fun e w' => e = .returned (.bool false) ∧ w' = w := by
 have a1 : decide ((0 : Int) ≤ z) = true := decide_eq_true (by omega)
 have a2 : decide (z < (55296 : Int)) = false := decide_eq_false (by omega)
 have a3 : decide ((57343 : Int) < z) = false := decide_eq_false (by omega)
 go_enter Tryd.func54,Tryd.ntmps54
 go_wp2
 go_ret
 exact ⟨rfl,rfl⟩
theorem encode_nil_walk (z : Int) (w : World) (h : z < 0 ∨ 1114111 < z ∨ (55296 ≤ z ∧ z ≤ 57343)) : Calls Tryd.prog 44 #[.int .i64 z] w fun e w' => e = .returned (.slice none 0 0) ∧ w' = w := by
 rcases h with h | h | ⟨h0,h1⟩
 · go_enter Tryd.func44,Tryd.ntmps44
   go_wp2
   go_ret
   exact ⟨rfl,rfl⟩
 · go_enter Tryd.func44,Tryd.ntmps44
   go_wp2
   go_ret
   exact ⟨rfl,rfl⟩
 · have hw : IntKind.i32.wrap z = z := by rw [IntKind.wrap_i32]; omega
   go_enter Tryd.func44,Tryd.ntmps44
   go_wp2_with (go_at_call 54; refine (valid_walk _ _ (by first | omega | (rw [hw]; omega)) (by first | omega | (rw [hw]; omega))).mono ?_; rintro e w' ⟨rfl,hw'⟩; rw [hw'])
   go_ret
   exact ⟨rfl,rfl⟩
/-- A character's bytes: nil just where it has none. -/
def encS : Spec := fun args st K => match args,st.box,st.nt with
 | [.int .i64 r],[],0 => K (.ret (.sl (.int .u8) (Chars.enc r) .em)) (lcRet [] [] 0)
 | _,_,_ => none
theorem encS_ok : CallOkL Tryd.prog C0 44 encS := by
 intro args cs n K r h S w0 g w vs ha hS
 unfold encS at h
 split at h
 · rename_i z h1 h2
   obtain rfl : cs = [] := h1
   obtain rfl : n = 0 := h2
   have hlim : (lim fun k => Q.chars_Encode.f k z) = some (Chars.enc z) := lim_of (fun k => Q.chars_Encode.mono z k) (k := 0 + 1) (by omega) (Xm.encode_spec 0 z)
   by_cases he : Chars.enc z = []
   · cases ha with
     | cons ha1 ha2 =>
      cases ha2
      cases ha1
      refine (encode_nil_walk z w (Xm.enc_none he)).mono fun e w' ⟨q1,q2⟩ => ?_
      subst q1 q2
      rw [he] at h
      exact ⟨_,_,g,h,Le.refl _,hS,Same.refl _,.ret (.sl0 rfl)⟩
   · have hs := (chars_Encode.ok _ (List.mem_cons_self ..)).2
     refine (hs [.int .i64 z] [] 0 out (.ret (.sl (.int .u8) (Chars.enc z) .no),lcRet [] [] 0) ?_ S w0 g w vs ha hS).mono fun e w' ⟨res,st',g',q1,q2,q3,q4,q5⟩ => ?_
     · unfold chars_Encode.spec
       show Option.bind (lim fun k => Q.chars_Encode.f k z) _ = _
       rw [hlim]
       rfl
     · obtain ⟨rfl,rfl⟩ := Prod.mk.inj (Option.some.inj q1)
       refine ⟨_,_,g',h,q2,q3,q4,?_⟩
       cases q5 with
       | ret hv =>
        refine .ret ?_
        clear h hs hlim
        generalize Chars.enc z = l at he hv ⊢
        cases hv with
        | sl0 _ => exact absurd rfl he
        | sle _ => exact absurd rfl he
        | sl a1 a2 a3 a4 => exact .sl a1 a2 a3 (List.length_pos_iff.2 he)
 · cases h
noncomputable def specs_encS : SpecL := (44,false,encS) :: specs_xmllex_trimmed
theorem encS.ok : AllOk specs_encS := allOk_cons xmllex_trimmed.ok (fnOk_of (by kernel_rfl)) encS_ok
end Go.Proofs.YtccfmfifnbnlmaaDoor.Ev
end
section
/- What is known of each function: its word; and the contexts in which it is reckoned. -/
-- prev encS
-- irreducible fullX trimX linesX numX namedX commX instX cutX containsX replX Chars.enc
set_option linter.unusedVariables false
namespace Go.Proofs.YtccfmfifnbnlmaaDoor.Ev
open Go
noncomputable def cx_xmllex_numeral := cxOf specs_encS
noncomputable def xmllex_numeral.spec : Spec := fun args st K => match args,st.box,st.nt with
 | [.str s,.int .i64 q],[],0 => (numX s q).bind fun v => K (.ret (.tup [.int .i64 v.1,.bool v.2])) (lcRet [] [] 0)
 | _,_,_ => none
noncomputable def specs_xmllex_numeral : SpecL := (53,false,xmllex_numeral.spec) :: specs_encS
noncomputable def cx_xmllex_named := cxOf specs_xmllex_numeral
noncomputable def xmllex_named.spec : Spec := fun args st K => match args,st.box,st.nt with
 | [.str s],[],0 => (namedX s).bind fun v => K (.ret (.tup [.int .i64 v.1,.bool v.2])) (lcRet [] [] 0)
 | _,_,_ => none
noncomputable def specs_xmllex_named : SpecL := (43,false,xmllex_named.spec) :: specs_xmllex_numeral
noncomputable def cx_xmllex_lines := cxOf specs_xmllex_named
noncomputable def xmllex_lines.spec : Spec := fun args st K => match args,st.box,st.nt with
 | [.sl (.int .u8) b .no,.bool v],[],0 => (linesX b v).bind fun v => K (.ret (.sl (.int .u8) (v) .no)) (lcRet [] [] 0)
 | _,_,_ => none
noncomputable def specs_xmllex_lines : SpecL := (22,false,xmllex_lines.spec) :: specs_xmllex_named
noncomputable def cx_xmllex_comment := cxOf specs_xmllex_lines
noncomputable def xmllex_comment.spec : Spec := fun args st K => match args,st.box,st.nt with
 | [.sl (.int .u8) b .no],[],0 => (commX b).bind fun v => K (.ret (.int .i64 v)) (lcRet [] [] 0)
 | _,_,_ => none
noncomputable def specs_xmllex_comment : SpecL := (9,false,xmllex_comment.spec) :: specs_xmllex_lines
noncomputable def cx_xmllex_instruction := cxOf specs_xmllex_comment
noncomputable def xmllex_instruction.spec : Spec := fun args st K => match args,st.box,st.nt with
 | [.sl (.int .u8) b .no],[],0 => (instX b).bind fun v => K (.ret (.int .i64 v)) (lcRet [] [] 0)
 | _,_,_ => none
noncomputable def specs_xmllex_instruction : SpecL := (10,false,xmllex_instruction.spec) :: specs_xmllex_comment
end Go.Proofs.YtccfmfifnbnlmaaDoor.Ev
end
section
/- What each function comes to, one step of it at a time: the kernel's own reckoning. -/
set_option linter.unusedVariables false
set_option maxRecDepth 100000
namespace Go.Proofs.YtccfmfifnbnlmaaDoor.Ev
open Go Go.RowKit
open Go.IntKind (i64 u8 i32 u64)
noncomputable def xmllex_numeral.L0 (n k0 : Nat) (s : ByteArray) (q : Int) (j0 : ByteArray) (j1 j2 : Int) (j3 : List Int) (j4 j5 : Int) : Option (Rr U0) := loopF cx_xmllex_numeral noCalls k0 0 ([(0,false),(1,false),(6,false),(11,false),(12,false),(13,false)]) ((siteC (Tryd.f53.body.getD .skip) [1,1,0,1,0]).getD .skip) (siteK cx_xmllex_numeral noCalls n [] (Tryd.f53.body.getD .skip) [1,1,0,1,0] (bodyK cx_xmllex_numeral Tryd.f53 (lcSt [] 0) (callK false [] [] (lcSt [] 0) out))) (St.mk [(0,.str j0),(1,.int .i64 j1),(6,.int .i64 j2),(11,.sl (.int .u8) j3 .no),(12,.int .i64 j4),(13,.int .i64 j5)] [] [] 0 0 0 0 0 53 [] 52)
theorem xmllex_numeral.L0_s (n k0 : Nat) (s : ByteArray) (q : Int) (j0 : ByteArray) (j1 j2 : Int) (j3 : List Int) (j4 j5 : Int) : xmllex_numeral.L0 n (k0 + 1) s q j0 j1 j2 j3 j4 j5 = if decide (j5 < j4) = true then if 0 ≤ j5 then ((nth j3 j5.toNat).bind fun v0 => ((Q.strings_IndexByte.f (ByteArray.mk #[48,49,50,51,52,53,54,55,56,57,97,98,99,100,101,102]) (bits BinOp.or IntKind.u8 v0 ((bits BinOp.and IntKind.u8 v0 (64 : Int)).fdiv ((2 : Int) ^ min (Int.toNat (1 : Int)) IntKind.u8.bits)))).bind fun v1 => if (if decide (v1 < 0) = true then true else decide (v1 ≥ j1)) = true then some (.ret (.tup [.int .i64 0,.bool false]),lcRet [] [] 0) else if decide (i64.wrap (i64.wrap (j2 * j1) + v1) > 1114111) = true then some (.ret (.tup [.int .i64 0,.bool false]),lcRet [] [] 0) else (xmllex_numeral.L0 n k0 s q j0 j1 (i64.wrap (i64.wrap (j2 * j1) + v1)) j3 j4 (i64.wrap (j5 + 1))))) else none else if (!seq j0 (ByteArray.mk #[])) = true then ((lim fun k => Q.chars_Wrong.f k (Chars.enc j2)).bind fun v2 => if (if true = true then decide (v2 < 0) else false) = true then some (.ret (.tup [.int .i64 j2,.bool (if true = true then !(Chars.enc j2).isEmpty else false)]),lcRet [] [] 0) else some (.ret (.tup [.int .i64 j2,.bool false]),lcRet [] [] 0)) else some (.ret (.tup [.int .i64 j2,.bool false]),lcRet [] [] 0) := by kernel_rfl
theorem xmllex_numeral.top (n : Nat) (s : ByteArray) (q : Int) : callX false (fnF cx_xmllex_numeral noCalls n 53) ([.str s,.int .i64 q]) (lcSt [] 0) out = (xmllex_numeral.L0 n n s q s q 0 (toBytes s) ((↑(toBytes s).length : Int)) 0) := by kernel_rfl
theorem xmllex_lines.top (n : Nat) (b : List Int) (v : Bool) : callX false (fnF cx_xmllex_lines noCalls n 22) ([.sl (.int .u8) b .no,.bool v]) (lcSt [] 0) out = ((replX b [(13 : Int),(10 : Int)] [(10 : Int)]).bind fun v0 => ((replX v0 [(13 : Int)] [(10 : Int)]).bind fun v1 => if v = true then ((replX v1 [(10 : Int)] [(32 : Int)]).bind fun v2 => ((replX v2 [(9 : Int)] [(32 : Int)]).bind fun v3 => some (.ret (.sl (.int .u8) v3 .no),lcRet [] [] 0))) else some (.ret (.sl (.int .u8) v1 .no),lcRet [] [] 0))) := by kernel_rfl
theorem xmllex_instruction.top (n : Nat) (b : List Int) : callX false (fnF cx_xmllex_instruction noCalls n 10) ([.sl (.int .u8) b .no]) (lcSt [] 0) out = if (2 : Int) ≤ (↑b.length : Int) then ((lim fun k => Q.xmllex_nameOf.f k (List.drop (Int.toNat (2 : Int)) b)).bind fun v0 => if 0 ≤ i64.wrap ((2 : Int) + (↑v0.length : Int)) then if i64.wrap ((2 : Int) + (↑v0.length : Int)) ≤ (↑b.length : Int) then if (byteB (List.drop (i64.wrap ((2 : Int) + (↑v0.length : Int))).toNat b) = true ∧ byteB [(63 : Int),(62 : Int)] = true) ∧ (List.drop (i64.wrap ((2 : Int) + (↑v0.length : Int))).toNat b).length < 4294967281 ∧ 0 < [(63 : Int),(62 : Int)].length ∧ [(63 : Int),(62 : Int)].length ≤ 1000 then if (if ((↑v0.length : Int) == 0) = true then true else decide (bIndexW (List.drop (i64.wrap ((2 : Int) + (↑v0.length : Int))).toNat b) [(63 : Int),(62 : Int)] < 0)) = true then some (.ret (.int .i64 0),lcRet [] [] 0) else if decide (bIndexW (List.drop (i64.wrap ((2 : Int) + (↑v0.length : Int))).toNat b) [(63 : Int),(62 : Int)] > 0) = true then ((nth (List.drop (i64.wrap ((2 : Int) + (↑v0.length : Int))).toNat b) (Int.toNat (0 : Int))).bind fun v1 => ((Q.chars_Space.f (i64.wrap v1)).bind fun v2 => if (if false = true then true else if true = true then !v2 else false) = true then some (.ret (.int .i64 0),lcRet [] [] 0) else some (.ret (.int .i64 (i64.wrap (i64.wrap (i64.wrap ((2 : Int) + (↑v0.length : Int)) + bIndexW (List.drop (i64.wrap ((2 : Int) + (↑v0.length : Int))).toNat b) [(63 : Int),(62 : Int)]) + 2))),lcRet [] [] 0))) else some (.ret (.int .i64 (i64.wrap (i64.wrap (i64.wrap ((2 : Int) + (↑v0.length : Int)) + bIndexW (List.drop (i64.wrap ((2 : Int) + (↑v0.length : Int))).toNat b) [(63 : Int),(62 : Int)]) + 2))),lcRet [] [] 0) else none else none else none) else none := by kernel_rfl
theorem xmllex_named.top (n : Nat) (s : ByteArray) : callX false (fnF cx_xmllex_named noCalls n 43) ([.str s]) (lcSt [] 0) out = if seq s (ByteArray.mk #[108,116]) = true then some (.ret (.tup [.int .i64 60,.bool true]),lcRet [] [] 0) else if seq s (ByteArray.mk #[103,116]) = true then some (.ret (.tup [.int .i64 62,.bool true]),lcRet [] [] 0) else if seq s (ByteArray.mk #[97,109,112]) = true then some (.ret (.tup [.int .i64 38,.bool true]),lcRet [] [] 0) else if seq s (ByteArray.mk #[97,112,111,115]) = true then some (.ret (.tup [.int .i64 39,.bool true]),lcRet [] [] 0) else if seq s (ByteArray.mk #[113,117,111,116]) = true then some (.ret (.tup [.int .i64 34,.bool true]),lcRet [] [] 0) else ((Q.strings_CutPrefix.f s (ByteArray.mk #[35])).bind fun v0 => if (!v0.2) = true then some (.ret (.tup [.int .i64 0,.bool false]),lcRet [] [] 0) else ((Q.strings_CutPrefix.f v0.1 (ByteArray.mk #[120])).bind fun v1 => if v1.2 = true then ((numX v1.1 (16 : Int)).bind fun v2 => some (.ret (.tup [.int .i64 v2.1,.bool v2.2]),lcRet [] [] 0)) else ((numX v0.1 (10 : Int)).bind fun v3 => some (.ret (.tup [.int .i64 v3.1,.bool v3.2]),lcRet [] [] 0)))) := by kernel_rfl
theorem xmllex_comment.top (n : Nat) (b : List Int) : callX false (fnF cx_xmllex_comment noCalls n 9) ([.sl (.int .u8) b .no]) (lcSt [] 0) out = if (4 : Int) ≤ (↑b.length : Int) then if (byteB (List.drop (Int.toNat (4 : Int)) b) = true ∧ byteB [(45 : Int),(45 : Int)] = true) ∧ (List.drop (Int.toNat (4 : Int)) b).length < 4294967281 ∧ 0 < [(45 : Int),(45 : Int)].length ∧ [(45 : Int),(45 : Int)].length ≤ 1000 then if decide (bIndexW (List.drop (Int.toNat (4 : Int)) b) [(45 : Int),(45 : Int)] < 0) = true then some (.ret (.int .i64 0),lcRet [] [] 0) else if 0 ≤ i64.wrap ((4 : Int) + bIndexW (List.drop (Int.toNat (4 : Int)) b) [(45 : Int),(45 : Int)]) then if i64.wrap ((4 : Int) + bIndexW (List.drop (Int.toNat (4 : Int)) b) [(45 : Int),(45 : Int)]) ≤ (↑b.length : Int) then ((Q.bytes_HasPrefix.f (List.drop (i64.wrap ((4 : Int) + bIndexW (List.drop (Int.toNat (4 : Int)) b) [(45 : Int),(45 : Int)])).toNat b) [(45 : Int),(45 : Int),(62 : Int)]).bind fun v0 => if (if false = true then true else !v0) = true then some (.ret (.int .i64 0),lcRet [] [] 0) else some (.ret (.int .i64 (i64.wrap (bIndexW (List.drop (Int.toNat (4 : Int)) b) [(45 : Int),(45 : Int)] + 7))),lcRet [] [] 0)) else none else none else none else none := by kernel_rfl
end Go.Proofs.YtccfmfifnbnlmaaDoor.Ev
end
section
/- The evaluator's trees are the functions: numerals, line ends, comments, instructions. -/
set_option linter.unusedVariables false
set_option linter.unusedSimpArgs false
namespace Go.Proofs.YtccfmfifnbnlmaaDoor.Ev
open Go Go.RowKit Go.Proofs.YtccfmfifnbnlmaaDoorW.PrintWords
theorem str_toBytes (s : ByteArray) (l : List UInt8) : (seq s (ByteArray.mk ⟨l⟩) = true) = (toBytes s = l.map fun b => (b.toNat : Int)) := by
 rw [seq_list,ba_list,ByteArray.toList_eq]
 unfold toBytes
 apply propext
 constructor
 · intro h; rw [h]
 · intro h
   have inj : ∀ (x y : List UInt8),(x.map fun b => (b.toNat : Int)) = (y.map fun b => (b.toNat : Int)) → x = y := by
    intro x
    induction x with
    | nil => intro y h; cases y with | nil => rfl | cons _ _ => cases h
    | cons a x ih =>
     intro y h
     cases y with
     | nil => cases h
     | cons b y =>
      rw [List.map_cons,List.map_cons] at h
      injection h with h1 h2
      rw [ih y h2,UInt8.toNat_inj.1 (show a.toNat = b.toNat by omega)]
   exact inj _ _ h
theorem cutP_spec (s : ByteArray) (x : UInt8) : Q.strings_CutPrefix.f s (ByteArray.mk #[x]) = some (if (toBytes s).take 1 = [(x.toNat : Int)] then (s.extract 1 s.size,true) else (s,false)) := by
 unfold Q.strings_CutPrefix.f Q.stringslite_CutPrefix.f Q.stringslite_HasPrefix.f
 have e1 : ((ByteArray.mk #[x]).size : Int) = 1 := rfl
 rw [e1]
 have hl : (toBytes s).length = s.size := toBytes_len s
 by_cases h : (s.size : Int) ≥ 1
 · rw [if_pos h,if_pos (by decide),if_pos h,Option.bind_some]
   have e2 : ((s.extract 0 (Int.toNat 1)).toList == (ByteArray.mk #[x]).toList) = decide ((toBytes s).take 1 = [(x.toNat : Int)]) := by
    rw [ba_list,ByteArray.toList_eq]
    have : (s.extract 0 (Int.toNat 1)).data.toList = s.data.toList.take 1 := by simp [ByteArray.data_extract]
    rw [this]
    unfold toBytes
    rw [← List.map_take,Bool.eq_iff_iff,beq_iff_eq,decide_eq_true_eq]
    constructor
    · intro q; rw [q]; rfl
    · intro q
      cases hd : s.data.toList.take 1 with
      | nil => rw [hd] at q; cases q
      | cons a t =>
       rw [hd,List.map_cons] at q
       injection q with q1 q2
       obtain rfl := List.map_eq_nil_iff.1 q2
       rw [UInt8.toNat_inj.1 (show a.toNat = x.toNat by omega)]
   rw [e2]
   by_cases h2 : (toBytes s).take 1 = [(x.toNat : Int)]
   · rw [if_pos (decide_eq_true h2),if_pos (by decide),if_pos h,if_pos h2]; rfl
   · rw [if_neg (by simpa using h2),if_neg h2]; rfl
 · rw [if_neg h,if_neg (c := (toBytes s).take 1 = [(x.toNat : Int)])]
   · rfl
   · intro q
     have := congrArg List.length q
     rw [List.length_take] at this
     simp at this
     omega
theorem toBytes_extract (s : ByteArray) (i : Nat) : toBytes (s.extract i s.size) = (toBytes s).drop i := by
 unfold toBytes
 have : (s.extract i s.size).data.toList = s.data.toList.drop i := by
  rw [ByteArray.data_extract,Array.toList_extract]
  simp only [List.extract_eq_take_drop]
  rw [List.take_of_length_le]
  rw [List.length_drop,Array.length_toList]
  exact Nat.le_refl _
 rw [this,List.map_drop]
theorem preP_spec {l m : List Int} (hl : byteB l = true) (hm : byteB m = true) : Q.bytes_HasPrefix.f l m = some (decide (l.take m.length = m)) := by
 unfold Q.bytes_HasPrefix.f Q.bytes_Equal.f
 by_cases h : (l.length : Int) ≥ (m.length : Int)
 · rw [if_pos h,if_pos (by omega),if_pos (by omega),Int.toNat_natCast]
   simp only [Option.bind_some]
   congr 1
   rw [Bool.eq_iff_iff,decide_eq_true_eq,beq_iff_eq]
   exact Chars.str_inj (Chars.Bytes.take (byteB_all hl) _) (byteB_all hm)
 · rw [if_neg h,decide_eq_false]
   intro q
   have := congrArg List.length q
   rw [List.length_take] at this
   omega
theorem byteB_drop {l : List Int} (h : byteB l = true) (n : Nat) : byteB (l.drop n) = true := by
 have := byteB_all h
 unfold byteB
 rw [List.all_eq_true]
 intro x hx
 have := this x (List.mem_of_mem_drop hx)
 simp [this]
theorem byteB_take {l : List Int} (h : byteB l = true) (n : Nat) : byteB (l.take n) = true := by
 have := byteB_all h
 unfold byteB
 rw [List.all_eq_true]
 intro x hx
 have := this x (List.mem_of_mem_take hx)
 simp [this]
theorem byteB_to (s : ByteArray) : byteB (toBytes s) = true := by
 unfold byteB toBytes
 rw [List.all_eq_true]
 intro x hx
 obtain ⟨b,_,rfl⟩ := List.mem_map.1 hx
 have := b.toNat_lt
 simp
 omega
theorem bIndex_lt {l m : List Int} : -1 ≤ bIndexW l m ∧ (bIndexW l m : Int) + (if bIndexW l m = -1 then 0 else m.length) ≤ l.length := by
 have h1 := bIndex_ge l m
 refine ⟨h1,?_⟩
 split
 · rename_i h; rw [h]; omega
 · have := bIndex_room (b := l) (c := m) (by omega)
   exact this
def numR (s : ByteArray) : Option Int → Int × Bool
 | none => (0,false)
 | some n => (n,!(toBytes s).isEmpty && Chars.xmlC n)
theorem num_L0 (n : Nat) (s : ByteArray) (q : Int) (hq : q = 10 ∨ q = 16) (hs : s.size ≤ 8000000) : ∀ (d i k : Nat) (acc : Int),i + d = (toBytes s).length → 0 ≤ acc → acc ≤ 1114111 →
 xmllex_numeral.L0 n (k + d + 1) s q s q acc (toBytes s) ((toBytes s).length : Int) (i : Int) = (fun v : Int × Bool => (some (.ret (.tup [.int .i64 v.1,.bool v.2]),lcRet [] [] 0) : Option (Rr U0))) (numR s (Xm.numGo q acc ((toBytes s).drop i))) := by
 intro d
 have hlen := toBytes_len s
 induction d with
 | zero =>
  intro i k acc hi h0 h1
  rw [show k + 0 + 1 = k + 1 from rfl,xmllex_numeral.L0_s,if_neg (by rw [decide_eq_true_eq]; omega),List.drop_of_length_le (by omega),Xm.numGo]
  unfold numR
  dsimp only
  have hse : (seq s (ByteArray.mk #[]) = true) = (toBytes s = []) := str_toBytes s []
  by_cases he : toBytes s = []
  · rw [if_neg (by rw [Bool.not_eq_true',hse.mpr he]; decide),he]
    rfl
  · have hse' : seq s (ByteArray.mk #[]) = false := by rw [← Bool.not_eq_true,hse]; exact he
    rw [if_pos (by rw [hse']; rfl)]
    have hie : (toBytes s).isEmpty = false := by cases h : toBytes s with | nil => exact absurd h he | cons _ _ => rfl
    rw [hie]
    by_cases hn : Chars.enc acc = []
    · have hx : Chars.xmlC acc = false := by
       have := Xm.enc_none hn
       unfold Chars.xmlC
       rw [decide_eq_false]
       omega
      have hw0 : Q.chars_Wrong.f 1 [] = some (-1) := by unfold Q.chars_Wrong.f; rw [Q.chars_Wrong.l0,if_neg (by simp)]
      have hw : (lim fun k => Q.chars_Wrong.f k ([] : List Int)) = some (-1) := lim_of (fun k => Q.chars_Wrong.mono [] k) (k := 1) (by omega) hw0
      rw [hn,hw,hx]
      rfl
    · have hw : (lim fun k => Q.chars_Wrong.f k (Chars.enc acc)) = some (if Chars.xmlC acc then -1 else 0) := lim_of (fun k => Q.chars_Wrong.mono _ k) (k := 0 + 40) (by omega) (Xm.wrong_enc hn 0)
      have hie2 : (Chars.enc acc).isEmpty = false := by cases h : Chars.enc acc with | nil => exact absurd h hn | cons _ _ => rfl
      rw [hw,hie2,Option.bind_some]
      cases Chars.xmlC acc <;> rfl
 | succ d ih =>
  intro i k acc hi h0 h1
  have hlt : i < (toBytes s).length := by omega
  have hb := byteB_all (byteB_to s) ((toBytes s)[i]'hlt) (List.getElem_mem hlt)
  rw [show k + (d + 1) + 1 = (k + d + 1) + 1 from rfl,xmllex_numeral.L0_s,if_pos (by rw [decide_eq_true_eq]; omega),if_pos (by omega),Int.toNat_natCast,nth_get,List.getElem?_eq_getElem hlt,Option.bind_some]
  unfold Q.strings_IndexByte.f
  rw [Option.bind_some,show (ByteArray.mk #[(48 : UInt8),(49 : UInt8),(50 : UInt8),(51 : UInt8),(52 : UInt8),(53 : UInt8),(54 : UInt8),(55 : UInt8),(56 : UInt8),(57 : UInt8),(97 : UInt8),(98 : UInt8),(99 : UInt8),(100 : UInt8),(101 : UInt8),(102 : UInt8)]).data.toList = hexS from rfl,dig_ok hb.1 hb.2,List.drop_eq_getElem_cons hlt,Xm.numGo]
  generalize (toBytes s)[i]'hlt = x at hb ⊢
  have hd : Xm.digC x ≤ 15 := by unfold Xm.digC; repeat' split; all_goals omega
  by_cases c0 : Xm.digC x < 0 ∨ Xm.digC x ≥ q
  · rw [if_pos (by rw [ite_or,decide_eq_true_eq,decide_eq_true_eq]; exact c0),if_pos c0]
    rfl
  rw [if_neg (by rw [ite_or,decide_eq_true_eq,decide_eq_true_eq]; exact c0),if_neg c0]
  have e1 : IntKind.i64.wrap (IntKind.i64.wrap (acc * q) + Xm.digC x) = acc * q + Xm.digC x := by
   have hb2 : 0 ≤ acc * q ∧ acc * q ≤ 17825776 := by rcases hq with rfl | rfl <;> omega
   rw [wrap_64,wrap_64]; unfold wrap64; omega
  have hge : 0 ≤ acc * q := by rcases hq with rfl | rfl <;> omega
  rw [e1]
  by_cases c1 : acc * q + Xm.digC x > 1114111
  · rw [if_pos (decide_eq_true c1),if_pos c1]; rfl
  · have e2 : IntKind.i64.wrap ((i : Int) + 1) = ((i + 1 : Nat) : Int) := by rw [wrap_64]; unfold wrap64; omega
    rw [if_neg (by simpa using c1),if_neg c1,e2,ih (i + 1) k _ (by omega) (by omega) (by omega)]
theorem xmllex_numeral.ok : AllOk specs_xmllex_numeral := okS (cx := cx_xmllex_numeral) rfl encS.ok (by kernel_rfl) fun args cs n K r g => by
 unfold xmllex_numeral.spec at g
 dsimp only [lcSt] at g
 split at g
 · rename_i s q
   obtain ⟨v,h,h2⟩ := bind2 g
   clear g
   refine okG h2 ?_
   clear h2
   refine ⟨0 + (toBytes s).length + 1,?_⟩
   rw [xmllex_numeral.top]
   unfold numX at h
   split at h
   · rename_i hs
     obtain rfl := Option.some.inj h
     have := num_L0 (0 + (toBytes s).length + 1) s q hs.2 hs.1 (toBytes s).length 0 0 0 (by omega) (by omega) (by omega)
     rw [List.drop_zero] at this
     refine this.trans ?_
     unfold Xm.numW
     cases Xm.numGo q 0 (toBytes s) <;> rfl
   · cases h
 · cases g
theorem xmllex_named.ok : AllOk specs_xmllex_named := okS (cx := cx_xmllex_named) rfl xmllex_numeral.ok (by kernel_rfl) fun args cs n K r g => by
 unfold xmllex_named.spec at g
 dsimp only [lcSt] at g
 split at g
 · rename_i s
   obtain ⟨v,h,h2⟩ := bind2 g
   clear g
   refine okG h2 ?_
   clear h2
   refine ⟨0,?_⟩
   rw [xmllex_named.top]
   unfold namedX at h
   split at h
   · rename_i hs
     obtain rfl := Option.some.inj h
     unfold Xm.namedW
     have e (l : List UInt8) := str_toBytes s l
     have e1 : (seq s (ByteArray.mk #[(108 : UInt8),(116 : UInt8)]) = true) = (toBytes s = [108,116]) := e [108,116]
     have e2 : (seq s (ByteArray.mk #[(103 : UInt8),(116 : UInt8)]) = true) = (toBytes s = [103,116]) := e [103,116]
     have e3 : (seq s (ByteArray.mk #[(97 : UInt8),(109 : UInt8),(112 : UInt8)]) = true) = (toBytes s = [97,109,112]) := e [97,109,112]
     have e4 : (seq s (ByteArray.mk #[(97 : UInt8),(112 : UInt8),(111 : UInt8),(115 : UInt8)]) = true) = (toBytes s = [97,112,111,115]) := e [97,112,111,115]
     have e5 : (seq s (ByteArray.mk #[(113 : UInt8),(117 : UInt8),(111 : UInt8),(116 : UInt8)]) = true) = (toBytes s = [113,117,111,116]) := e [113,117,111,116]
     by_cases c1 : toBytes s = [108,116]
     · rw [if_pos (e1.mpr c1),if_pos c1]
     rw [if_neg (fun q => c1 (e1.mp q)),if_neg c1]
     by_cases c2 : toBytes s = [103,116]
     · rw [if_pos (e2.mpr c2),if_pos c2]
     rw [if_neg (fun q => c2 (e2.mp q)),if_neg c2]
     by_cases c3 : toBytes s = [97,109,112]
     · rw [if_pos (e3.mpr c3),if_pos c3]
     rw [if_neg (fun q => c3 (e3.mp q)),if_neg c3]
     by_cases c4 : toBytes s = [97,112,111,115]
     · rw [if_pos (e4.mpr c4),if_pos c4]
     rw [if_neg (fun q => c4 (e4.mp q)),if_neg c4]
     by_cases c5 : toBytes s = [113,117,111,116]
     · rw [if_pos (e5.mpr c5),if_pos c5]
     rw [if_neg (fun q => c5 (e5.mp q)),if_neg c5,cutP_spec,Option.bind_some]
     have hl := toBytes_len s
     by_cases c6 : (toBytes s).take 1 = [35]
     · rw [if_pos (show (toBytes s).take 1 = [((35 : UInt8).toNat : Int)] from c6),if_pos c6]
       dsimp only
       rw [if_neg (by decide),cutP_spec,Option.bind_some,toBytes_extract]
       have hl2 : (s.extract 1 s.size).size = s.size - 1 := by rw [ByteArray.size_extract]; omega
       by_cases c7 : ((toBytes s).drop 1).take 1 = [120]
       · rw [if_pos (show ((toBytes s).drop 1).take 1 = [((120 : UInt8).toNat : Int)] from c7),if_pos c7]
         dsimp only
         rw [if_pos rfl]
         unfold numX
         rw [if_pos ⟨by rw [ByteArray.size_extract]; omega,.inr rfl⟩,Option.bind_some,toBytes_extract,toBytes_extract,List.drop_drop]
       · rw [if_neg (show ¬ ((toBytes s).drop 1).take 1 = [((120 : UInt8).toNat : Int)] from c7),if_neg c7]
         dsimp only
         rw [if_neg (by decide)]
         unfold numX
         rw [if_pos ⟨by omega,.inl rfl⟩,Option.bind_some,toBytes_extract]
     · rw [if_neg (show ¬ (toBytes s).take 1 = [((35 : UInt8).toNat : Int)] from c6),if_neg c6]
       rfl
   · cases h
 · cases g
theorem replX_ok {l m r : List Int} (h1 : byteB l = true) (h2 : byteB m = true) (h3 : l.length < 4294967281 ∧ 1 ≤ m.length ∧ m.length ≤ 2 ∧ r.length = 1) : replX l m r = some (replW l m r) := by
 unfold replX
 rw [if_pos ⟨⟨h1,h2⟩,h3⟩]
theorem xmllex_lines.ok : AllOk specs_xmllex_lines := okS (cx := cx_xmllex_lines) rfl xmllex_named.ok (by kernel_rfl) fun args cs n K r g => by
 unfold xmllex_lines.spec at g
 dsimp only [lcSt] at g
 split at g
 · rename_i b v
   obtain ⟨v,h,h2⟩ := bind2 g
   clear g
   refine okG h2 ?_
   clear h2
   refine ⟨0,?_⟩
   rw [xmllex_lines.top]
   unfold linesX at h
   split at h
   · rename_i hs
     obtain rfl := Option.some.inj h
     obtain ⟨h1,h2⟩ := hs
     obtain ⟨k1,k2⟩ := byteB_crlf h1
     have m1 : replW (crlf b) [13] [10] = (crlf b).map r2n := replW_one (by decide) k1
     have b1 : byteB ((crlf b).map r2n) = true := byteB_map (by decide) k1
     have m2 : replW ((crlf b).map r2n) [10] [32] = ((crlf b).map r2n).map n2s := replW_one (by decide) b1
     have b2 : byteB (((crlf b).map r2n).map n2s) = true := byteB_map (by decide) b1
     have m3 : replW (((crlf b).map r2n).map n2s) [9] [32] = (((crlf b).map r2n).map n2s).map t2s := replW_one (by decide) b2
     rw [replX_ok h1 (by decide) ⟨by omega,by decide,by decide,by decide⟩,Option.bind_some,replW_crlf h1,replX_ok k1 (by decide) ⟨by omega,by decide,by decide,by decide⟩,Option.bind_some,m1]
     unfold linesW
     cases v with
     | true =>
      rw [if_pos rfl,if_pos rfl,replX_ok b1 (by decide) ⟨by rw [List.length_map]; omega,by decide,by decide,by decide⟩,Option.bind_some,m2,replX_ok b2 (by decide) ⟨by rw [List.length_map,List.length_map]; omega,by decide,by decide,by decide⟩,Option.bind_some,m3]
     | false => rw [if_neg (by decide),if_neg (by decide)]
   · cases h
 · cases g
theorem xmllex_comment.ok : AllOk specs_xmllex_comment := okS (cx := cx_xmllex_comment) rfl xmllex_lines.ok (by kernel_rfl) fun args cs n K r g => by
 unfold xmllex_comment.spec at g
 dsimp only [lcSt] at g
 split at g
 · rename_i b
   obtain ⟨v,h,h2⟩ := bind2 g
   clear g
   refine okG h2 ?_
   clear h2
   refine ⟨0,?_⟩
   rw [xmllex_comment.top]
   unfold commX at h
   split at h
   · rename_i hs
     obtain rfl := Option.some.inj h
     obtain ⟨⟨h1,h2⟩,h3⟩ := hs
     have hb := byteB_drop h1 4
     have hd : (b.drop 4).length = b.length - 4 := List.length_drop ..
     obtain ⟨q1,q2⟩ := bIndex_lt (l := b.drop 4) (m := [45,45])
     rw [if_pos (by omega),show Int.toNat 4 = 4 from rfl,if_pos ⟨⟨hb,by decide⟩,by omega,by decide,by decide⟩]
     unfold commW
     generalize bIndexW (b.drop 4) [45,45] = i at q1 q2 ⊢
     by_cases c0 : i < 0
     · rw [if_pos (decide_eq_true c0),if_pos (.inl c0)]
     have e0 : (if i = -1 then 0 else ([45,45] : List Int).length) = 2 := if_neg (by omega)
     rw [e0] at q2
     have e1 : IntKind.i64.wrap (4 + i) = ((4 + i.toNat : Nat) : Int) := by rw [wrap_64]; unfold wrap64; omega
     have e2 : IntKind.i64.wrap (i + 7) = i + 7 := by rw [wrap_64]; unfold wrap64; omega
     rw [if_neg (by simpa using c0),e1,if_pos (by omega),if_pos (by omega),Int.toNat_natCast,preP_spec (byteB_drop h1 _) (by decide),Option.bind_some,e2]
     by_cases c1 : (b.drop (4 + i.toNat)).take 3 = [45,45,62]
     · rw [if_neg (by rw [false_or_b,Bool.not_eq_true',decide_eq_true (show (b.drop (4 + i.toNat)).take ([45,45,62] : List Int).length = [45,45,62] from c1)]; decide),if_neg]
       rintro (q | q)
       · exact c0 q
       · exact q c1
     · rw [if_pos (by rw [false_or_b,Bool.not_eq_true',decide_eq_false (show ¬ (b.drop (4 + i.toNat)).take ([45,45,62] : List Int).length = [45,45,62] from c1)]),if_pos (.inr c1)]
   · cases h
 · cases g
theorem space_spec (x : Int) : Q.chars_Space.f x = some (blankC x) := by
 unfold Q.chars_Space.f blankC
 by_cases h1 : x = 32
 · simp [h1]
 by_cases h2 : x = 9
 · simp [h2]
 by_cases h3 : x = 10
 · simp [h3]
 by_cases h4 : x = 13
 · simp [h4]
 simp [h1,h2,h3,h4]
theorem xmllex_instruction.ok : AllOk specs_xmllex_instruction := okS (cx := cx_xmllex_instruction) rfl xmllex_comment.ok (by kernel_rfl) fun args cs n K r g => by
 unfold xmllex_instruction.spec at g
 dsimp only [lcSt] at g
 split at g
 · rename_i b
   obtain ⟨v,h,h2⟩ := bind2 g
   clear g
   refine okG h2 ?_
   clear h2
   refine ⟨0,?_⟩
   rw [xmllex_instruction.top]
   unfold instX at h
   split at h
   · rename_i hs
     obtain rfl := Option.some.inj h
     obtain ⟨⟨h1,h2⟩,h3⟩ := hs
     have hb := byteB_drop h1 2
     have hd : (b.drop 2).length = b.length - 2 := List.length_drop ..
     have hle := Xm.nameL_le (byteB_bytes hb)
     rw [if_pos (by omega),show Int.toNat 2 = 2 from rfl,nameOf_lim (byteB_bytes hb) (by omega),Option.bind_some]
     unfold instW
     generalize Xm.nameL (b.drop 2) = t at hle ⊢
     dsimp only
     have e1 : (((b.drop 2).take t).length : Int) = (t : Int) := by rw [List.length_take]; omega
     have e2 : IntKind.i64.wrap (2 + (t : Int)) = ((2 + t : Nat) : Int) := by rw [wrap_64]; unfold wrap64; omega
     have hb2 := byteB_drop h1 (2 + t)
     have hd2 : (b.drop (2 + t)).length = b.length - (2 + t) := List.length_drop ..
     obtain ⟨q1,q2⟩ := bIndex_lt (l := b.drop (2 + t)) (m := [63,62])
     rw [e1,e2,if_pos (by omega),if_pos (by omega),Int.toNat_natCast,if_pos ⟨⟨hb2,by decide⟩,by omega,by decide,by decide⟩]
     generalize hr : b.drop (2 + t) = r at q1 q2 hb2 hd2 ⊢
     generalize bIndexW r [63,62] = i at q1 q2 ⊢
     by_cases c0 : t = 0 ∨ i < 0
     · rw [if_pos (by rw [ite_or,beq_iff_eq,decide_eq_true_eq]; omega),if_pos (c0.elim .inl (fun q => .inr (.inl q)))]
     have e0 : (if i = -1 then 0 else ([63,62] : List Int).length) = 2 := if_neg (by omega)
     rw [e0] at q2
     have e3 : IntKind.i64.wrap (IntKind.i64.wrap (((2 + t : Nat) : Int) + i) + 2) = 2 + t + i + 2 := by rw [wrap_64,wrap_64]; unfold wrap64; omega
     rw [if_neg (by rw [ite_or,beq_iff_eq,decide_eq_true_eq]; omega),e3]
     by_cases c1 : i > 0
     · have hlt : 0 < r.length := by omega
       have hx := byteB_all hb2 (r[0]'hlt) (List.getElem_mem hlt)
       have eg : r.getD 0 0 = r[0]'hlt := by rw [List.getD_eq_getElem?_getD,List.getElem?_eq_getElem hlt]; rfl
       rw [if_pos (decide_eq_true c1),show Int.toNat 0 = 0 from rfl,nth_get,List.getElem?_eq_getElem hlt,Option.bind_some,show IntKind.i64.wrap (r[0]'hlt) = r[0]'hlt by rw [wrap_64]; unfold wrap64; omega,space_spec,Option.bind_some,eg]
       by_cases c2 : blankC (r[0]'hlt) = true
       · rw [if_neg (by rw [false_or_b,true_and_b,c2]; decide),if_neg]
         rintro (q | q | q)
         · omega
         · omega
         · rw [c2] at q; cases q.2
       · rw [if_pos (by rw [false_or_b,true_and_b]; simpa using c2),if_pos (.inr (.inr ⟨c1,by simpa using c2⟩))]
     · rw [if_neg (by simpa using c1),if_neg]
       omega
   · cases h
 · cases g
end Go.Proofs.YtccfmfifnbnlmaaDoor.Ev
end
section
/- The words of functions, as calls from any memory: for what is walked by hand. -/
set_option linter.unusedVariables false
set_option linter.unusedSimpArgs false
namespace Go.Proofs.YtccfmfifnbnlmaaDoor.Ev
open Go Go.RowKit
theorem assumed_below {w w' : World} (h : Assumed w) (hb : Below w.heap.size w w') : Assumed w' := by
 refine ⟨?_,h.2.keptBut (hb.frame (fun _ => False)) (fun _ q => q.elim)⟩
 first
  | exact trivial
  | exact Go.Proofs.YtccfmfifnbnlmaaDoorH.Laid_below h.1 hb
/-- A function's word, from any memory. -/
theorem callWord {f : FuncId} {spec : Spec} {args : List (AVal U0)} {v : AVal U0} {st' : St U0} {w : World} (hs : CallOkL Tryd.prog C0 f spec) (h : spec args (lcSt [] 0) out = some (.ret v,st')) (hA : Assumed w) (cs : List Value) (ha : RelVs C0 (g0 w) args cs) :
 Calls Tryd.prog f cs.toArray w fun e w' => ∃ c,e = .returned c ∧ Below w.heap.size w w' ∧ ∃ g' : Gh,(∀ b o x,g'.own b o = .imm x → w'.cell? ⟨b,o,none⟩ = some x) ∧ RelV C0 g' v c :=
 (hs args [] 0 out _ h _ w (g0 w) w cs ha (srel0 hA 0)).mono fun e w' ⟨res,st',g',h1,h2,h3,h4,h5⟩ => by
  obtain ⟨rfl,_⟩ := Prod.mk.inj (Option.some.inj h1)
  cases h5 with
  | ret hv => exact ⟨_,rfl,below_of' h3,g',h3.h.imm,hv⟩
/-- Bytes at an address; those that are some stand below block B. -/
structure Sb (B : Nat) (w : World) (l : List Int) (p : Option Addr) (c : Nat) : Prop where
 le : l.length ≤ c
 none : p = none → c = 0
 spot : c ≠ 0 → ∀ a,p = some a → a.spot = .none
 at' : 0 < l.length → ∃ blk off,p = some ⟨blk,off,.none⟩ ∧ blk < B ∧ ∀ i,i < l.length → w.cell? ⟨blk,off + i,.none⟩ = some (.int .u8 (l.getD i 0))
theorem imm0 {w : World} {blk off : Nat} {l : List Int} (h : ∀ i,i < l.length → w.cell? ⟨blk,off + i,none⟩ = some (.int .u8 (l.getD i 0))) : Imm (g0 w) blk off (l.map (Value.int .u8)) := fun j v hv => by
 rw [g0_imm]
 have hlt : j < l.length := by have := (List.getElem?_eq_some_iff.1 hv).1; rwa [List.length_map] at this
 rw [h j hlt]
 rw [List.getElem?_map,List.getElem?_eq_getElem hlt] at hv
 rw [List.getD_eq_getElem?_getD,List.getElem?_eq_getElem hlt]
 exact hv
theorem Sb.rel {B : Nat} {w : World} {l : List Int} {p : Option Addr} {c : Nat} (h : Sb B w l p c) : RelV C0 (g0 w) (.sl (.int .u8) l .no) (.slice p l.length c) := by
 cases hl : l with
 | nil =>
  cases p with
  | none => rw [h.none rfl]; exact .sl0 rfl
  | some a =>
   by_cases hc : c = 0
   · rw [hc]; exact .sle rfl
   · obtain ⟨blk,off,spot⟩ := a
     obtain rfl := h.spot hc _ rfl
     exact .sl (vs := []) .nil (fun j v hv => by cases hv) (Nat.zero_le _) trivial
 | cons x t =>
  rw [← hl]
  obtain ⟨blk,off,rfl,h1,h2⟩ := h.at' (by rw [hl]; simp)
  exact .sl (RelVs.ofNums _) (imm0 h2) h.le trivial
theorem Sb.below {B : Nat} {w w' : World} {l : List Int} {p : Option Addr} {c : Nat} (h : Sb B w l p c) (hB : B ≤ w.heap.size) (hb : Below B w w') : Sb B w' l p c :=
 ⟨h.le,h.none,h.spot,fun h0 => by
  obtain ⟨blk,off,e,h1,h2⟩ := h.at' h0
  exact ⟨blk,off,e,h1,fun i hi => by rw [World.cell?_of_block (hb.block blk h1)]; exact h2 i hi⟩⟩
theorem Sb.take {B : Nat} {w : World} {l : List Int} {p : Option Addr} {c : Nat} (h : Sb B w l p c) {i : Nat} (hi : i ≤ l.length) : Sb B w (l.take i) p c :=
 ⟨by rw [List.length_take]; have := h.le; omega,h.none,h.spot,fun h0 => by
  rw [List.length_take] at h0
  obtain ⟨blk,off,e,h1,h2⟩ := h.at' (by omega)
  refine ⟨blk,off,e,h1,fun j hj => ?_⟩
  rw [List.length_take] at hj
  rw [h2 j (by omega),List.getD_eq_getElem?_getD,List.getD_eq_getElem?_getD,List.getElem?_take,if_pos (by omega)]⟩
/-- What is left of a slice. -/
def fromP (p : Option Addr) (c j : Nat) : Option Addr := if c = j then p else p.map (fun x => x.add j)
theorem Sb.drop {B : Nat} {w : World} {l : List Int} {p : Option Addr} {c : Nat} (h : Sb B w l p c) {j : Nat} (hj : j ≤ l.length) : Sb B w (l.drop j) (fromP p c j) (c - j) := by
 have hle := h.le
 refine ⟨by rw [List.length_drop]; omega,fun q => ?_,fun hc a q => ?_,fun h0 => ?_⟩
 · unfold fromP at q
   split at q
   · omega
   · rw [Option.map_eq_none_iff] at q
     have := h.none q
     omega
 · unfold fromP at q
   split at q
   · exact h.spot (by omega) a q
   · obtain ⟨b,hb,rfl⟩ := Option.map_eq_some_iff.1 q
     have := h.spot (by omega) b hb
     obtain ⟨blk,off,spot⟩ := b
     obtain rfl : spot = .none := this
     rw [Lib.addr_add]
 · rw [List.length_drop] at h0
   obtain ⟨blk,off,e,h1,h2⟩ := h.at' (by omega)
   refine ⟨blk,off + j,?_,h1,fun i hi => ?_⟩
   · unfold fromP
     rw [if_neg (by omega),e,Option.map_some,Lib.addr_add]
   · rw [List.length_drop] at hi
     rw [Nat.add_assoc,h2 (j + i) (by omega),List.getD_eq_getElem?_getD,List.getD_eq_getElem?_getD,List.getElem?_drop]
theorem Sb.nil (B : Nat) (w : World) : Sb B w [] Option.none 0 := ⟨Nat.le_refl _,fun _ => rfl,fun _ a h => (by cases h),fun h => absurd h (Nat.lt_irrefl 0)⟩
theorem map_add {p : Option Addr} (h : ∀ a,p = some a → a.spot = none) (k : Nat) : p.map (fun x => ({ block := x.block,off := x.off + k } : Addr)) = p.map (fun x => x.add k) := by
 cases p with
 | none => rfl
 | some a =>
  obtain ⟨blk,off,spot⟩ := a
  obtain rfl : spot = none := h _ rfl
  rw [Option.map_some,Option.map_some,Lib.addr_add]
/-- bytes.Cut at one byte: the parts stand where the whole stands. -/
theorem cut_walk (B : Nat) (l : List Int) (p : Option Addr) (n c : Nat) (x : Int) (b2 o2 c2 : Nat) (w : World) (hn : l.length = n) (h : Sb B w l p c) (hb : byteB l = true) (hx : 0 ≤ x ∧ x < 256) (hl : l.length ≤ 8000000) (hc2 : 1 ≤ c2) (h2 : w.cell? ⟨b2,o2,none⟩ = some (.int .u8 x)) (hA : Assumed w) :
 Calls Tryd.prog 21 #[.slice p n c,.slice (some ⟨b2,o2,none⟩) 1 c2] w fun e w' => Below w.heap.size w w' ∧
  ((0 ≤ bIndexW l [x] ∧ e = .returned (.tuple #[.slice p (bIndexW l [x]).toNat c,.slice (fromP p c ((bIndexW l [x]).toNat + 1)) (n - ((bIndexW l [x]).toNat + 1)) (c - ((bIndexW l [x]).toNat + 1)),.bool true])) ∨
   (bIndexW l [x] < 0 ∧ e = .returned (.tuple #[.slice p n c,.slice none 0 0,.bool false]))) := by
 have hle := h.le
 have hsp : Aside (c ≠ 0 → ∀ a,p = some a → a.spot = none) := h.spot
 obtain ⟨q1,q2⟩ := bIndex_lt (l := l) (m := [x])
 have hidx : Calls Tryd.prog 17 #[.slice p n c,.slice (some ⟨b2,o2,none⟩) 1 c2] w fun e w' => e = .returned (.int .i64 (bIndexW l [x])) ∧ Below w.heap.size w w' := by
  have hm : byteB [x] = true := by unfold byteB; rw [List.all_cons,List.all_nil,Bool.and_true,Bool.and_eq_true]; exact ⟨decide_eq_true hx.1,decide_eq_true hx.2⟩
  have hs : bIndexS (U := U0) [.sl (.int .u8) l .no,.sl (.int .u8) [x] .no] (lcSt [] 0) out = some (.ret (.int .i64 (bIndexW l [x])),lcRet [] [] 0) := by
   unfold bIndexS
   dsimp only
   rw [if_pos ⟨⟨hb,hm⟩,by omega,by simp,by simp⟩]
   rfl
  have hr2 : RelV C0 (g0 w) (.sl (.int .u8) [x] .no) (.slice (some ⟨b2,o2,none⟩) 1 c2) := by
   have := RelV.sl (C := C0) (g := g0 w) (t := .int .u8) (l := [x]) (p := .no) (blk := b2) (off := o2) (cap := c2) (RelVs.ofNums _) (imm0 (l := [x]) fun i hi => by
    simp only [List.length_cons,List.length_nil] at hi
    obtain rfl : i = 0 := by omega
    exact h2) hc2 trivial
   exact this
  have := callWord bIndexS_ok hs hA [.slice p n c,.slice (some ⟨b2,o2,none⟩) 1 c2] (.cons (by rw [← hn]; exact h.rel) (.cons hr2 .nil))
  refine this.mono fun e w' ⟨c,h1,h2,g',_,h4⟩ => ?_
  cases h4
  exact ⟨h1,h2⟩
 generalize bIndexW l [x] = i at q1 q2 hidx ⊢
 by_cases h0 : 0 ≤ i
 · obtain ⟨j,rfl⟩ : ∃ j : Nat,i = j := ⟨i.toNat,by omega⟩
   rw [if_neg (by omega)] at q2
   simp only [List.length_cons,List.length_nil] at q2
   clear hx h2 hA h
   have mixed : Tryd.prog.follows .mixedOrders = true := by kernel_rfl
   go_enter Tryd.func21,Tryd.ntmps21
   go_wp2_with (go_at_call 17; refine hidx.mono ?_; rintro e w' ⟨rfl,hw⟩)
   go_region_o
   all_goals go_wp2
   all_goals go_ret3
   all_goals refine ⟨⟨hw.os,hw.tape,hw.output,hw.size,hw.block⟩,?_⟩
   all_goals first | exact .inl ⟨h0,by simp [fromP, *]⟩ | (simp [fromP, *]; done) | (simp [fromP, *]; exact map_add (hsp.out (by omega)) _)
 · clear hx h2 hA h
   go_enter Tryd.func21,Tryd.ntmps21
   go_wp2_with (go_at_call 17; refine hidx.mono ?_; rintro e w' ⟨rfl,hw⟩)
   go_ret3
   first | exact ⟨hw,.inr ⟨by omega,rfl⟩⟩ | (refine ⟨hw,?_⟩; simp; omega)
end Go.Proofs.YtccfmfifnbnlmaaDoor.Ev
end
section
/- What is known of each function: its word; and the contexts in which it is reckoned. -/
-- prev xmllex_instruction
-- irreducible fullX trimX linesX numX namedX commX instX cutX containsX replX Chars.enc skipX
set_option linter.unusedVariables false
namespace Go.Proofs.YtccfmfifnbnlmaaDoor.Ev
open Go
/-- How many bytes the comment or the instruction has that others begin with; -1: there is none. -/
def markW (r : List Int) : Int := if r.take 4 = [60,33,45,45] then commW r else if r.take 2 = [60,63] then instW r else -1
def skipGo : Nat → List Int → Int → Int × Int
 | 0,_,p => (p,0)
 | d + 1,b,p => if markW (b.drop p.toNat) = -1 then (p,0) else if markW (b.drop p.toNat) = 0 then (p,11) else skipGo d b (p + markW (b.drop p.toNat))
def skipW (b : List Int) (p : Int) : Int × Int := if p < 0 ∨ p > b.length then (0,1) else skipGo (b.length + 1) b p
def skipX (b : List Int) (p : Int) : Option (Int × Int) := if okB b then some (skipW b p) else none
noncomputable def cx_xmllex_Skip := cxOf specs_xmllex_instruction
noncomputable def xmllex_Skip.spec : Spec := fun args st K => match args,st.box,st.nt with
 | [.sl (.int .u8) b .no,.int .i64 p],[],0 => (skipX b p).bind fun v => K (.ret (.tup [.int .i64 v.1,.int .i64 v.2])) (lcRet [] [] 0)
 | _,_,_ => none
noncomputable def specs_xmllex_Skip : SpecL := (6,false,xmllex_Skip.spec) :: specs_xmllex_instruction
end Go.Proofs.YtccfmfifnbnlmaaDoor.Ev
end
section
/- What each function comes to, one step of it at a time: the kernel's own reckoning. -/
set_option linter.unusedVariables false
set_option maxRecDepth 100000
namespace Go.Proofs.YtccfmfifnbnlmaaDoor.Ev
open Go Go.RowKit
open Go.IntKind (i64 u8 i32 u64)
noncomputable def xmllex_Skip.L0 (n k0 : Nat) (b : List Int) (p : Int) (j0 : List Int) (j1 : Int) : Option (Rr U0) := loopF cx_xmllex_Skip noCalls k0 0 ([(0,false),(1,false)]) ((siteC (Tryd.f6.body.getD .skip) [1,1,0]).getD .skip) (siteK cx_xmllex_Skip noCalls n [] (Tryd.f6.body.getD .skip) [1,1,0] (bodyK cx_xmllex_Skip Tryd.f6 (lcSt [] 0) (callK false [] [] (lcSt [] 0) out))) (St.mk [(0,.sl (.int .u8) j0 .no),(1,.int .i64 j1)] [] [] 0 0 0 0 0 6 [] 40)
theorem xmllex_Skip.L0_s (n k0 : Nat) (b : List Int) (p : Int) (j0 : List Int) (j1 : Int) : xmllex_Skip.L0 n (k0 + 1) b p j0 j1 = if 0 ≤ j1 then if j1 ≤ (↑j0.length : Int) then ((Q.bytes_HasPrefix.f (List.drop j1.toNat j0) [(60 : Int),(33 : Int),(45 : Int),(45 : Int)]).bind fun v0 => if v0 = true then ((commX (List.drop j1.toNat j0)).bind fun v1 => if (v1 == 0) = true then some (.ret (.tup [.int .i64 j1,.int .i64 11]),lcRet [] [] 0) else (xmllex_Skip.L0 n k0 b p j0 (i64.wrap (j1 + v1)))) else ((Q.bytes_HasPrefix.f (List.drop j1.toNat j0) [(60 : Int),(63 : Int)]).bind fun v2 => if v2 = true then ((instX (List.drop j1.toNat j0)).bind fun v3 => if (v3 == 0) = true then some (.ret (.tup [.int .i64 j1,.int .i64 11]),lcRet [] [] 0) else (xmllex_Skip.L0 n k0 b p j0 (i64.wrap (j1 + v3)))) else some (.ret (.tup [.int .i64 j1,.int .i64 0]),lcRet [] [] 0))) else none else none := by kernel_rfl
theorem xmllex_Skip.top (n : Nat) (b : List Int) (p : Int) : callX false (fnF cx_xmllex_Skip noCalls n 6) ([.sl (.int .u8) b .no,.int .i64 p]) (lcSt [] 0) out = if (if decide (p < 0) = true then true else decide (p > (↑b.length : Int))) = true then some (.ret (.tup [.int .i64 0,.int .i64 1]),lcRet [] [] 0) else (xmllex_Skip.L0 n n b p b p) := by kernel_rfl
end Go.Proofs.YtccfmfifnbnlmaaDoor.Ev
end
section
/- The reference's searches: where a text stands, whether bytes begin with it, blanks. -/
set_option linter.unusedVariables false
set_option linter.unusedSimpArgs false
namespace Go.Proofs.YtccfmfifnbnlmaaDoor.Ev
open Go Go.RowKit Go.Proofs.YtccfmfifnbnlmaaDoorW.PrintWords
theorem pre_bytes {l m : List Int} (hl : byteB l = true) (hm : byteB m = true) : (Lib.bytesOf m).isPrefixOf (Lib.bytesOf l) = decide (l.take m.length = m) := by
 rw [Bool.eq_iff_iff,decide_eq_true_eq,List.isPrefixOf_iff_prefix,List.prefix_iff_eq_take]
 unfold Lib.bytesOf
 rw [List.length_map,← List.map_take]
 constructor
 · intro h
   have : ∀ (x y : List Int),byteB x = true → byteB y = true → x.map (fun n => UInt8.ofNat n.toNat) = y.map (fun n => UInt8.ofNat n.toNat) → x = y := by
    intro x
    induction x with
    | nil => intro y _ _ h; cases y with | nil => rfl | cons _ _ => cases h
    | cons a x ih =>
     intro y hx hy h
     cases y with
     | nil => cases h
     | cons b y =>
      rw [List.map_cons,List.map_cons] at h
      injection h with h1 h2
      have ha := byteB_all hx a (List.mem_cons_self ..)
      have hb := byteB_all hy b (List.mem_cons_self ..)
      unfold byteB at hx hy
      rw [List.all_cons,Bool.and_eq_true] at hx hy
      rw [u8_inj ha hb h1,ih y hx.2 hy.2 h2]
   exact (this _ _ hm (byteB_take hl _) h).symm
 · intro h
   rw [h]
theorem bIndex_nil {m : List Int} (h : 0 < m.length) : bIndexW [] m = -1 := by
 have := bIndex_lt (l := []) (m := m)
 by_cases q : bIndexW [] m = -1
 · exact q
 · rw [if_neg q,List.length_nil] at this; omega
/-- How many blanks bytes begin with. -/
def blankN : List Int → Nat
 | [] => 0
 | x :: t => if blankC x then blankN t + 1 else 0
theorem blankN_le : ∀ l : List Int,blankN l ≤ l.length
 | [] => Nat.le_refl _
 | x :: t => by
  unfold blankN
  have := blankN_le t
  split
  · rw [List.length_cons]; omega
  · omega
/-- Blanks taken off. -/
theorem trim_blank : ∀ {l : List Int},byteB l = true → bTrimW l ⟨#[32,9,10,13]⟩ = l.drop (blankN l)
 | [],_ => rfl
 | x :: t,h => by
  have hx := byteB_all h x (List.mem_cons_self ..)
  have ht : byteB t = true := by unfold byteB at h ⊢; rw [List.all_cons,Bool.and_eq_true] at h; exact h.2
  have e : (⟨#[32,9,10,13]⟩ : ByteArray).data.toList.contains (UInt8.ofNat x.toNat) = blankC x := by
   have f : ∀ n : Fin 256,([32,9,10,13] : List UInt8).contains (UInt8.ofNat n.val) = blankC (n.val : Int) := by decide +kernel
   have := f ⟨x.toNat,by omega⟩
   simp only [Int.toNat_of_nonneg hx.1] at this
   exact this
  unfold bTrimW
  rw [List.dropWhile_cons,e,blankN]
  by_cases c : blankC x = true
  · rw [if_pos c,if_pos c,List.drop_succ_cons]
    exact trim_blank ht
  · rw [if_neg c,if_neg c]; rfl
end Go.Proofs.YtccfmfifnbnlmaaDoor.Ev
end
section
/- The evaluator's trees are the functions: comments and instructions skipped. -/
set_option linter.unusedVariables false
set_option linter.unusedSimpArgs false
namespace Go.Proofs.YtccfmfifnbnlmaaDoor.Ev
open Go Go.RowKit Go.Proofs.YtccfmfifnbnlmaaDoorW.PrintWords
theorem take_len {l m : List Int} {n : Nat} (h : l.take n = m) : m.length ≤ l.length := by
 have := congrArg List.length h
 rw [List.length_take] at this
 omega
theorem comm_pos (r : List Int) : commW r = 0 ∨ (7 ≤ commW r ∧ commW r ≤ r.length) := by
 obtain ⟨q1,q2⟩ := bIndex_lt (l := r.drop 4) (m := [45,45])
 unfold commW
 split
 · exact .inl rfl
 · rename_i h
   have h1 : ¬ bIndexW (r.drop 4) [45,45] < 0 := fun q => h (.inl q)
   have h2 := Classical.byContradiction fun q => h (.inr q)
   have := take_len h2
   rw [List.length_drop] at this
   refine .inr ⟨by omega,?_⟩
   simp only [List.length_cons,List.length_nil] at this
   omega
theorem inst_pos (r : List Int) : instW r = 0 ∨ (4 ≤ instW r ∧ instW r ≤ r.length) := by
 unfold instW
 dsimp only
 obtain ⟨q1,q2⟩ := bIndex_lt (l := r.drop (2 + Xm.nameL (r.drop 2))) (m := [63,62])
 split
 · exact .inl rfl
 · rename_i h
   have h1 : ¬ bIndexW (r.drop (2 + Xm.nameL (r.drop 2))) [63,62] < 0 := fun q => h (.inr (.inl q))
   rw [if_neg (by omega),List.length_drop] at q2
   simp only [List.length_cons,List.length_nil] at q2
   exact .inr ⟨by omega,by omega⟩
/-- What a round of the skipping comes to. -/
theorem skip_step {b : List Int} {p : Int} {d : Nat} (h0 : 0 ≤ p) (h1 : p ≤ b.length) :
 (((b.drop p.toNat).take 4 = [60,33,45,45] ∧ skipGo (d + 1) b p = (if commW (b.drop p.toNat) = 0 then (p,11) else skipGo d b (p + commW (b.drop p.toNat))) ∧ 4 ≤ (b.drop p.toNat).length) ∨
 (¬ (b.drop p.toNat).take 4 = [60,33,45,45] ∧ (b.drop p.toNat).take 2 = [60,63] ∧ skipGo (d + 1) b p = (if instW (b.drop p.toNat) = 0 then (p,11) else skipGo d b (p + instW (b.drop p.toNat))) ∧ 2 ≤ (b.drop p.toNat).length) ∨
 (¬ (b.drop p.toNat).take 4 = [60,33,45,45] ∧ ¬ (b.drop p.toNat).take 2 = [60,63] ∧ skipGo (d + 1) b p = (p,0))) := by
 rw [skipGo]
 unfold markW
 have c := comm_pos (b.drop p.toNat)
 have i := inst_pos (b.drop p.toNat)
 by_cases a1 : (b.drop p.toNat).take 4 = [60,33,45,45]
 · refine .inl ⟨a1,?_,take_len a1⟩
   rw [if_pos a1,if_neg (by omega)]
 · by_cases a2 : (b.drop p.toNat).take 2 = [60,63]
   · refine .inr (.inl ⟨a1,a2,?_,take_len a2⟩)
     rw [if_neg a1,if_pos a2,if_neg (by omega)]
   · refine .inr (.inr ⟨a1,a2,?_⟩)
     rw [if_neg a1,if_neg a2,if_pos rfl]
theorem skip_L0 (n : Nat) (b : List Int) (p0 : Int) (hb : okB b) : ∀ (d k : Nat) (p : Int),0 ≤ p → p ≤ b.length → (b.length : Int) - p < d →
 xmllex_Skip.L0 n (k + d) b p0 b p = (some (.ret (.tup [.int .i64 (skipGo d b p).1,.int .i64 (skipGo d b p).2]),lcRet [] [] 0) : Option (Rr U0)) := by
 intro d
 induction d with
 | zero => intro k p h0 h1 h2; omega
 | succ d ih =>
  intro k p h0 h1 h2
  obtain ⟨hb1,hb2⟩ := hb
  have hr := byteB_drop hb1 p.toNat
  have hrl : (b.drop p.toNat).length = b.length - p.toNat := List.length_drop ..
  have c := comm_pos (b.drop p.toNat)
  have i := inst_pos (b.drop p.toNat)
  rw [show k + (d + 1) = (k + d) + 1 from rfl,xmllex_Skip.L0_s,if_pos h0,if_pos h1,preP_spec hr (by decide),Option.bind_some]
  rcases skip_step (d := d) h0 h1 with ⟨a1,e,a2⟩ | ⟨a1,a2,e,a3⟩ | ⟨a1,a2,e⟩
  · rw [if_pos (decide_eq_true (show (b.drop p.toNat).take ([60,33,45,45] : List Int).length = [60,33,45,45] from a1)),e]
    unfold commX
    rw [if_pos ⟨⟨hr,by omega⟩,a2⟩,Option.bind_some]
    by_cases z : commW (b.drop p.toNat) = 0
    · rw [if_pos (by rw [z]; rfl),if_pos z]
    · rw [if_neg (by rw [beq_iff_eq]; exact z),if_neg z,show IntKind.i64.wrap (p + commW (b.drop p.toNat)) = p + commW (b.drop p.toNat) by rw [wrap_64]; unfold wrap64; omega]
      exact ih k _ (by omega) (by omega) (by omega)
  · rw [if_neg (by rw [decide_eq_true_eq]; exact a1),preP_spec hr (by decide),Option.bind_some,if_pos (decide_eq_true (show (b.drop p.toNat).take ([60,63] : List Int).length = [60,63] from a2)),e]
    unfold instX
    rw [if_pos ⟨⟨hr,by omega⟩,a3⟩,Option.bind_some]
    by_cases z : instW (b.drop p.toNat) = 0
    · rw [if_pos (by rw [z]; rfl),if_pos z]
    · rw [if_neg (by rw [beq_iff_eq]; exact z),if_neg z,show IntKind.i64.wrap (p + instW (b.drop p.toNat)) = p + instW (b.drop p.toNat) by rw [wrap_64]; unfold wrap64; omega]
      exact ih k _ (by omega) (by omega) (by omega)
  · rw [if_neg (by rw [decide_eq_true_eq]; exact a1),preP_spec hr (by decide),Option.bind_some,if_neg (by rw [decide_eq_true_eq]; exact a2),e]
theorem xmllex_Skip.ok : AllOk specs_xmllex_Skip := okS (cx := cx_xmllex_Skip) rfl xmllex_instruction.ok (by kernel_rfl) fun args cs n K r g => by
 unfold xmllex_Skip.spec at g
 dsimp only [lcSt] at g
 split at g
 · rename_i b p
   obtain ⟨v,h,h2⟩ := bind2 g
   clear g
   refine okG h2 ?_
   clear h2
   refine ⟨0 + (b.length + 1),?_⟩
   rw [xmllex_Skip.top]
   unfold skipX at h
   split at h
   · rename_i hs
     obtain rfl := Option.some.inj h
     unfold skipW
     by_cases c : p < 0 ∨ p > b.length
     · rw [if_pos (by rw [ite_or,decide_eq_true_eq,decide_eq_true_eq]; exact c),if_pos c]
     · rw [if_neg (by rw [ite_or,decide_eq_true_eq,decide_eq_true_eq]; exact c),if_neg c]
       exact skip_L0 _ b p hs (b.length + 1) 0 p (by omega) (by omega) (by omega)
   · cases h
 · cases g
end Go.Proofs.YtccfmfifnbnlmaaDoor.Ev
end
section
/- dossierref05.plain as a sealed word. -/
set_option linter.unusedVariables false
set_option linter.unusedSimpArgs false
namespace Go.Proofs.YtccfmfifnbnlmaaDoor.Ev
open Go Go.RowKit Go.Proofs.YtccfmfifnbnlmaaDoorW.PrintWords
theorem crlf_len : ∀ l : List Int,(crlf l).length ≤ l.length
 | [] => Nat.le_refl _
 | [x] => Nat.le_refl _
 | x :: y :: t => by
  rw [crlf]
  split
  · have := crlf_len t; simp only [List.length_cons]; omega
  · have := crlf_len (y :: t); simp only [List.length_cons] at this ⊢; omega
end Go.Proofs.YtccfmfifnbnlmaaDoor.Ev
end
