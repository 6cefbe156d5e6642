/- Several texts in one, in their order. -/
import Derived.Test.YtccfmfifnbnlmaaGreatDoorBXmllexBack6
import Derived.Test.YtccfmfifnbnlmaaGreatDoorBXmllexBack10
import Derived.Test.YtccfmfifnbnlmaaGreatDoorBXmllexBack11
import Derived.KernelRfl
import Derived.Tactics
import Derived.Tactics2
import Derived.Defers
import Derived.Laws.Pointers
import Derived.Laws.LoneSync
import Derived.RegionTactic
import Derived.RegionCalls
import Derived.ChangeAlike
import Derived.Test.YtccfmfifnbnlmaaGreatDoorProg
section
/- The reference's references and names. -/
set_option linter.unusedVariables false
set_option linter.unusedSimpArgs false
namespace Go.Proofs.YtccfmfifnbnlmaaGreatDoor.Ev
open Go Go.RowKit Go.Proofs.YtccfmfifnbnlmaaGreatDoorW.PrintWords
theorem take_len' {l m : List Int} {n : Nat} (h : l.take n = m) : m.length ≤ l.length := by
 have := congrArg List.length h
 rw [List.length_take] at this
 omega
theorem dig10 : ∀ n : Fin 256,Q.dossierref05_digit.f 4 (n.val : Int) 10 = some (if Xm.digC (n.val : Int) ≥ 10 then -1 else Xm.digC (n.val : Int)) := by decide +kernel
theorem dig16 : ∀ n : Fin 256,Q.dossierref05_digit.f 4 (n.val : Int) 16 = some (if Xm.digC (n.val : Int) ≥ 16 then -1 else Xm.digC (n.val : Int)) := by decide +kernel
theorem digit_spec {x q : Int} (h0 : 0 ≤ x) (h1 : x < 256) (hq : q = 10 ∨ q = 16) (k : Nat) : Q.dossierref05_digit.f (4 + k) x q = some (if Xm.digC x ≥ q then -1 else Xm.digC x) := by
 refine leO_le (fun k => Q.dossierref05_digit.mono x q k) ?_
 rcases hq with rfl | rfl
 · have := dig10 ⟨x.toNat,by omega⟩
   simpa only [Int.toNat_of_nonneg h0] using this
 · have := dig16 ⟨x.toNat,by omega⟩
   simpa only [Int.toNat_of_nonneg h0] using this
def numRGo (q : Int) : Int → List Int → Option Int
 | n,[] => some n
 | n,x :: t => if Xm.digC x < 0 ∨ Xm.digC x ≥ q then none else if n > 1073741824 then none else numRGo q (n * q + Xm.digC x) t
def numRW (q : Int) (l : List Int) : Int × Bool := match numRGo q 0 l with
 | none => (0,false)
 | some n => (n,!l.isEmpty && Chars.xmlC n)
def refW (l : List Int) : Int × Bool :=
 if l = [108,116] then (60,true) else if l = [103,116] then (62,true) else if l = [97,109,112] then (38,true) else if l = [97,112,111,115] then (39,true) else if l = [113,117,111,116] then (34,true)
 else if l.take 2 = [35,120] then numRW 16 (l.drop 2) else if l.take 1 = [35] then numRW 10 (l.drop 1) else (0,false)
theorem dig_le (x : Int) : Xm.digC x ≤ 15 ∧ -1 ≤ Xm.digC x := by unfold Xm.digC; repeat' split; all_goals omega
theorem numR_mono {q : Int} (hq : q = 10 ∨ q = 16) : ∀ (l : List Int) (n m : Int),0 ≤ n → numRGo q n l = some m → n ≤ m
 | [],n,m,_,h => by obtain rfl := Option.some.inj h; exact Int.le_refl _
 | x :: t,n,m,h0,h => by
  rw [numRGo] at h
  split at h
  · cases h
  split at h
  · cases h
  · rename_i c1 c2
    have hd : 0 ≤ Xm.digC x := by omega
    have hn : n ≤ n * q + Xm.digC x := by rcases hq with rfl | rfl <;> omega
    have := numR_mono hq t (n * q + Xm.digC x) m (by omega) h
    omega
theorem numR_num {q : Int} (hq : q = 10 ∨ q = 16) : ∀ (l : List Int) (n : Int),0 ≤ n → n ≤ 1114111 → (match Xm.numGo q n l with | some m => numRGo q n l = some m ∧ m ≤ 1114111 | none => numRGo q n l = none ∨ ∃ m,numRGo q n l = some m ∧ m > 1114111)
 | [],n,h0,h1 => ⟨rfl,h1⟩
 | x :: t,n,h0,h1 => by
  rw [Xm.numGo,numRGo]
  by_cases c0 : Xm.digC x < 0 ∨ Xm.digC x ≥ q
  · rw [if_pos c0,if_pos c0]; exact .inl rfl
  rw [if_neg c0,if_neg c0,if_neg (show ¬ n > 1073741824 by omega)]
  have hge : 0 ≤ n * q + Xm.digC x := by rcases hq with rfl | rfl <;> omega
  by_cases c1 : n * q + Xm.digC x > 1114111
  · rw [if_pos c1]
    cases h : numRGo q (n * q + Xm.digC x) t with
    | none => exact .inl rfl
    | some m => exact .inr ⟨m,rfl,by have := numR_mono hq t _ m hge h; omega⟩
  · rw [if_neg c1]
    exact numR_num hq t _ hge (by omega)
theorem numR_same {q : Int} (hq : q = 10 ∨ q = 16) (l : List Int) : (numRW q l).2 = (Xm.numW q l).2 ∧ ((Xm.numW q l).2 = true → (numRW q l).1 = (Xm.numW q l).1) := by
 have h := numR_num hq l 0 (Int.le_refl 0) (by decide)
 unfold numRW Xm.numW
 cases hg : Xm.numGo q 0 l with
 | some m =>
  rw [hg] at h
  rw [h.1]
  exact ⟨rfl,fun _ => rfl⟩
 | none =>
  rw [hg] at h
  rcases h with h | ⟨m,h,hm⟩
  · rw [h]; exact ⟨rfl,fun _ => rfl⟩
  · rw [h]
    have hx : Chars.xmlC m = false := by unfold Chars.xmlC; rw [decide_eq_false]; omega
    dsimp only
    rw [hx,Bool.and_false]
    exact ⟨rfl,fun q => by cases q⟩
theorem ref_same (l : List Int) : (refW l).2 = (Xm.namedW l).2 ∧ ((Xm.namedW l).2 = true → (refW l).1 = (Xm.namedW l).1) := by
 unfold refW Xm.namedW
 by_cases c1 : l = [108,116]
 · rw [if_pos c1,if_pos c1]; exact ⟨rfl,fun _ => rfl⟩
 rw [if_neg c1,if_neg c1]
 by_cases c2 : l = [103,116]
 · rw [if_pos c2,if_pos c2]; exact ⟨rfl,fun _ => rfl⟩
 rw [if_neg c2,if_neg c2]
 by_cases c3 : l = [97,109,112]
 · rw [if_pos c3,if_pos c3]; exact ⟨rfl,fun _ => rfl⟩
 rw [if_neg c3,if_neg c3]
 by_cases c4 : l = [97,112,111,115]
 · rw [if_pos c4,if_pos c4]; exact ⟨rfl,fun _ => rfl⟩
 rw [if_neg c4,if_neg c4]
 by_cases c5 : l = [113,117,111,116]
 · rw [if_pos c5,if_pos c5]; exact ⟨rfl,fun _ => rfl⟩
 rw [if_neg c5,if_neg c5]
 have e : (l.take 2 = [35,120]) ↔ (l.take 1 = [35] ∧ (l.drop 1).take 1 = [120]) := by
  match l with
  | [] => simp
  | [x] => simp
  | x :: y :: t => simp
 by_cases c6 : l.take 1 = [35]
 · by_cases c7 : (l.drop 1).take 1 = [120]
   · rw [if_pos (e.2 ⟨c6,c7⟩),if_pos c6,if_pos c7]
     exact numR_same (.inr rfl) _
   · rw [if_neg (fun q => c7 (e.1 q).2),if_pos c6,if_pos c6,if_neg c7]
     exact numR_same (.inl rfl) _
 · rw [if_neg (fun q => c6 (e.1 q).1),if_neg c6,if_neg c6]
   exact ⟨rfl,fun _ => rfl⟩
theorem numbered_at {l : List Int} (hb : byteB l = true) (q : Int) (hq : q = 10 ∨ q = 16) (hl : l.length ≤ 8000000) : ∀ (d i k : Nat) (acc : Int),i + d = l.length → 0 ≤ acc → acc ≤ 17179869200 → Q.dossierref05_numbered.l0 (k + d + 30) l q acc l (l.length : Int) (i : Int) =
 some (match numRGo q acc (l.drop i) with | none => (0,false) | some n => (n,!l.isEmpty && Chars.xmlC n)) := by
 intro d
 induction d with
 | zero =>
  intro i k acc hi h0 h1
  rw [show k + 0 + 30 = (k + 9 + 20) + 1 from rfl,Q.dossierref05_numbered.l0,if_neg (by omega),List.drop_of_length_le (by omega),numRGo]
  dsimp only
  cases hx : l with
  | nil => rw [if_neg (by decide)]; rfl
  | cons x t =>
   rw [← hx,if_pos (by rw [hx]; simp only [List.length_cons]; omega),Chars.ref_OfXML_spec,Option.bind_some,hx]
   rfl
 | succ d ih =>
  intro i k acc hi h0 h1
  have hlt : i < l.length := by omega
  have hx := byteB_all hb (l[i]'hlt) (List.getElem_mem hlt)
  have er : rd l (i : Int) = l[i]'hlt := by unfold rd; rw [Int.toNat_natCast,List.getD_eq_getElem?_getD,List.getElem?_eq_getElem hlt]; rfl
  have ew : wrap64 ((i : Int) + 1) = ((i + 1 : Nat) : Int) := by unfold wrap64; omega
  rw [show k + (d + 1) + 30 = (k + d + 30) + 1 from by omega,Q.dossierref05_numbered.l0,if_pos (by omega),if_pos (by omega),if_pos (by omega),er,show k + d + 30 = 4 + (k + d + 26) by omega,digit_spec hx.1 hx.2 hq,Option.bind_some,show 4 + (k + d + 26) = k + d + 30 by omega,List.drop_eq_getElem_cons hlt,numRGo]
  generalize l[i]'hlt = x at hx
  have hd := dig_le x
  by_cases c0 : Xm.digC x < 0 ∨ Xm.digC x ≥ q
  · rw [if_pos c0]
    have : (if Xm.digC x ≥ q then (-1 : Int) else Xm.digC x) < 0 := by
     split
     · decide
     · omega
    rw [if_pos this]
  · have e : (if Xm.digC x ≥ q then (-1 : Int) else Xm.digC x) = Xm.digC x := if_neg (fun z => c0 (.inr z))
    rw [if_neg c0,e,if_neg (fun z => c0 (.inl z))]
    by_cases c1 : acc > 1073741824
    · rw [if_pos c1,if_pos c1]
    · have hb2 : 0 ≤ acc * q + Xm.digC x ∧ acc * q + Xm.digC x ≤ 17179869200 ∧ acc * q ≤ 17179869184 := by rcases hq with rfl | rfl <;> omega
      have e1 : wrap64 (wrap64 (acc * q) + Xm.digC x) = acc * q + Xm.digC x := by unfold wrap64; omega
      rw [if_neg c1,if_neg c1,e1,ew]
      exact ih (i + 1) k _ (by omega) (by omega) (by omega)
theorem numbered_spec {l : List Int} (hb : byteB l = true) (q : Int) (hq : q = 10 ∨ q = 16) (hl : l.length ≤ 8000000) (k : Nat) : Q.dossierref05_numbered.f (k + l.length + 30) l q = some (numRW q l) := by
 have := numbered_at hb q hq hl l.length 0 k 0 (by omega) (Int.le_refl 0) (by decide)
 unfold Q.dossierref05_numbered.f
 refine this.trans ?_
 rw [List.drop_zero]
 rfl
theorem str_lit {l : List Int} (hb : byteB l = true) (m : List Int) (u : List UInt8) (hm : byteB m = true) (e : (strOfNums m).toList = u) : ((strOfNums l).toList = u) = (l = m) := by
 rw [← e]
 exact propext (Chars.str_inj (byteB_all hb) (byteB_all hm))
theorem reference_lim {l : List Int} (hb : byteB l = true) (hl : l.length ≤ 8000000) : (lim fun k => Q.dossierref05_reference.f k l) = some (refW l) := by
 refine lim_of (fun k => Q.dossierref05_reference.mono l k) (k := l.length + 40) (by omega) ?_
 unfold Q.dossierref05_reference.f refW
 have e1 := str_lit hb [108,116] [108,116] (by decide) (by decide +kernel)
 have e2 := str_lit hb [103,116] [103,116] (by decide) (by decide +kernel)
 have e3 := str_lit hb [97,109,112] [97,109,112] (by decide) (by decide +kernel)
 have e4 := str_lit hb [97,112,111,115] [97,112,111,115] (by decide) (by decide +kernel)
 have e5 := str_lit hb [113,117,111,116] [113,117,111,116] (by decide) (by decide +kernel)
 by_cases c1 : l = [108,116]
 · rw [if_pos (e1.mpr c1),if_pos c1]
 rw [if_neg (fun q => c1 (e1.mp q)),if_neg c1]
 by_cases c2 : l = [103,116]
 · rw [if_pos (e2.mpr c2),if_pos c2]
 rw [if_neg (fun q => c2 (e2.mp q)),if_neg c2]
 by_cases c3 : l = [97,109,112]
 · rw [if_pos (e3.mpr c3),if_pos c3]
 rw [if_neg (fun q => c3 (e3.mp q)),if_neg c3]
 by_cases c4 : l = [97,112,111,115]
 · rw [if_pos (e4.mpr c4),if_pos c4]
 rw [if_neg (fun q => c4 (e4.mp q)),if_neg c4]
 by_cases c5 : l = [113,117,111,116]
 · rw [if_pos (e5.mpr c5),if_pos c5]
 rw [if_neg (fun q => c5 (e5.mp q)),if_neg c5,beg_at hb _ [35,120] 2 rfl rfl,Option.bind_some]
 by_cases c6 : l.take 2 = [35,120]
 · have := take_len' c6
   simp only [List.length_cons,List.length_nil] at this
   rw [if_pos (decide_eq_true c6),if_pos c6,if_pos (by omega)]
   have h := numbered_spec (byteB_drop hb 2) 16 (.inr rfl) (by rw [List.length_drop]; omega) 12
   rw [List.length_drop,show 12 + (l.length - 2) + 30 = l.length + 40 by omega] at h
   rw [h]; rfl
 · rw [if_neg (by rw [decide_eq_true_eq]; exact c6),if_neg c6,beg_at hb _ [35] 1 rfl rfl,Option.bind_some]
   by_cases c7 : l.take 1 = [35]
   · have := take_len' c7
     simp only [List.length_cons,List.length_nil] at this
     rw [if_pos (decide_eq_true c7),if_pos c7,if_pos (by omega)]
     have h := numbered_spec (byteB_drop hb 1) 10 (.inl rfl) (by rw [List.length_drop]; omega) 11
     rw [List.length_drop,show 11 + (l.length - 1) + 30 = l.length + 40 by omega] at h
     rw [h]; rfl
   · rw [if_neg (by rw [decide_eq_true_eq]; exact c7),if_neg c7]
theorem rname_lim {b : List Int} (hb : byteB b = true) (hl : b.length ≤ 8000000) : (lim fun k => Q.dossierref05_name.f k b) = some (Xm.fullL b : Int) := by
 refine lim_of (fun k => Q.dossierref05_name.mono b k) (k := 1 + b.length + 70) (by omega) ?_
 unfold Q.dossierref05_name.f
 have hle := Xm.nameL_le (byteB_bytes hb)
 rw [Xm.nameAt_spec b (byteB_bytes hb) (by omega) 1,Option.bind_some]
 have hf : Xm.fullL b = if 0 < Xm.nameL b ∧ b.getD (Xm.nameL b) 0 = 58 ∧ 0 < Xm.nameL (b.drop (Xm.nameL b + 1)) then Xm.nameL b + 1 + Xm.nameL (b.drop (Xm.nameL b + 1)) else Xm.nameL b := rfl
 rw [hf]
 generalize Xm.nameL b = t at hle ⊢
 by_cases c0 : t = 0
 · rw [if_pos (by omega),show 1 + b.length + 70 = (b.length + 70) + 1 by omega,Q.dossierref05_name.j0,if_pos rfl,if_neg (by omega)]
 · have hd := byteB_drop hb (t + 1)
   have e1 : ((b.drop t).take 1 = [58]) ↔ b.getD t 0 = 58 := by
    rcases Nat.lt_or_ge t b.length with h1 | h1
    · rw [List.drop_eq_getElem_cons h1,List.getD_eq_getElem?_getD,List.getElem?_eq_getElem h1,List.take_succ_cons,List.take_zero]
      exact ⟨fun h => (List.cons.inj h).1,fun h => by rw [show b[t]'h1 = 58 from h]⟩
    · rw [List.drop_of_length_le h1,List.getD_eq_getElem?_getD,List.getElem?_eq_none h1]
      simp
   rw [if_neg (by omega),if_pos (by omega),if_pos (by omega),Int.toNat_natCast,beg_at (byteB_drop hb t) _ [58] 1 rfl rfl,Option.bind_some,show 1 + b.length + 70 = (b.length + 70) + 1 by omega,Q.dossierref05_name.j0]
   by_cases c1 : (b.drop t).take 1 = [58]
   · have hlt : t + 1 ≤ b.length := by
      have := take_len' c1
      rw [List.length_drop] at this
      simp only [List.length_cons,List.length_nil] at this
      omega
     have ew : wrap64 ((t : Int) + 1) = ((t + 1 : Nat) : Int) := by unfold wrap64; omega
     have hn := Xm.nameAt_spec (b.drop (t + 1)) (byteB_bytes hd) (by rw [List.length_drop]; omega) (t + 1)
     rw [List.length_drop,show t + 1 + (b.length - (t + 1)) + 70 = b.length + 70 by omega] at hn
     have hle2 := Xm.nameL_le (byteB_bytes hd)
     rw [List.length_drop] at hle2
     rw [if_neg (by rw [decide_eq_true c1]; decide),ew,if_pos (by omega),if_pos (by omega),Int.toNat_natCast,hn,Option.bind_some]
     by_cases c2 : Xm.nameL (b.drop (t + 1)) = 0
     · rw [if_pos (by omega),if_neg (by omega)]
     · rw [if_neg (by omega),if_pos ⟨by omega,e1.1 c1,by omega⟩,show wrap64 (((t + 1 : Nat) : Int) + (Xm.nameL (b.drop (t + 1)) : Int)) = ((t + 1 + Xm.nameL (b.drop (t + 1)) : Nat) : Int) by unfold wrap64; omega]
   · rw [if_pos (by rw [decide_eq_false c1]; rfl),if_neg (fun q => c1 (e1.2 q.2.1))]
end Go.Proofs.YtccfmfifnbnlmaaGreatDoor.Ev
end
section
/- The evaluator's trees are the functions: texts, tags, tokens. -/
set_option linter.unusedVariables false
set_option linter.unusedSimpArgs false
namespace Go.Proofs.YtccfmfifnbnlmaaGreatDoor.Ev
open Go Go.RowKit Go.Proofs.YtccfmfifnbnlmaaGreatDoorW.PrintWords
theorem wid (x : Int) (h : -9000000000 ≤ x ∧ x ≤ 9000000000) : IntKind.i64.wrap x = x := by rw [wrap_64]; unfold wrap64; omega
theorem okB_drop {l : List Int} (h : okB l) (n : Nat) : okB (l.drop n) := ⟨byteB_drop h.1 n,by rw [List.length_drop]; have := h.2; omega⟩
theorem okB_take {l : List Int} (h : okB l) (n : Nat) : okB (l.take n) := ⟨byteB_take h.1 n,by rw [List.length_take]; have := h.2; omega⟩
theorem okB_off {l : List Int} (h : okB l) : okB (off l) := okB_drop h _
theorem full_le {l : List Int} (h : byteB l = true) : Xm.fullL l ≤ l.length := by
 have h1 := Xm.nameL_le (byteB_bytes h)
 unfold Xm.fullL
 split
 · rename_i q
   have h2 := Xm.nameL_le (byteB_bytes (byteB_drop h (Xm.nameL l + 1)))
   rw [List.length_drop] at h2
   omega
 · exact h1
theorem seq_empty (m : List Int) : (seq (ofBytes m) (ByteArray.mk #[]) = true) = (m = []) := by
 rw [str_toBytes]
 have h := toBytes_len (ofBytes m)
 rw [ofBytes_size] at h
 apply propext
 constructor
 · intro q; rw [q] at h; exact List.eq_nil_of_length_eq_zero h.symm
 · intro q; exact List.eq_nil_of_length_eq_zero (by rw [h,q]; rfl)
theorem take_none {l : List Int} {n : Nat} (h : n ≤ l.length) : (l.take n = []) = (n = 0) := by
 apply propext
 constructor
 · intro q
   have := congrArg List.length q
   rw [List.length_take,List.length_nil] at this
   omega
 · rintro rfl; rfl
theorem index_byte : ∀ (s : List UInt8) (x : UInt8),Lib.index s [x] = Lib.indexByte s x
 | [],x => by simp [Lib.index,Lib.indexByte]
 | b :: t,x => by
  have ih := index_byte t x
  rw [Lib.index,Lib.indexByte,ih]
  have e : ([x].isPrefixOf (b :: t) = true) = ((b == x) = true) := by
   simp only [List.isPrefixOf,Bool.and_true,beq_iff_eq]
   exact propext ⟨fun h => h.symm,fun h => h.symm⟩
  by_cases c : b = x
  · rw [if_pos (e.mpr (beq_iff_eq.2 c)),if_pos (beq_iff_eq.2 c)]
  · rw [if_neg (fun q => c (beq_iff_eq.1 (e.mp q))),if_neg (fun q => c (beq_iff_eq.1 q))]
theorem indexByte_W (l : List Int) (x : Nat) (h : x < 256) : Lib.indexByte (Lib.bytesOf l) (Int.toNat (x : Int)).toUInt8 = bIndexW l [(x : Int)] := (index_byte _ _).symm
theorem cutX_ok {b c : List Int} (h : okB b) (hc : byteB c = true) (h1 : 0 < c.length ∧ c.length ≤ 1000) : cutX b c = some (if 0 ≤ bIndexW b c then (b.take (bIndexW b c).toNat,b.drop ((bIndexW b c).toNat + c.length),true) else (b,[],false)) := by
 unfold cutX
 rw [if_pos ⟨⟨h.1,hc⟩,by have := h.2; omega,h1⟩]
 split <;> rfl
theorem linesX_ok {b : List Int} (h : okB b) (v : Bool) : linesX b v = some (linesW b v) := by unfold linesX; rw [if_pos h]
theorem resX_ok {b : List Int} (h : okB b) (v : Bool) : resX b v = some (ofBytes (resW b v).1,(resW b v).2.1,(resW b v).2.2) := by unfold resX; rw [if_pos h]
theorem takeX_ok {l : List Int} (h : okB l) (q : Int) (t : ByteArray) (m : List Int) (n : Nat) (ht : toBytes t = m) (hn : m.length = n) : takeX l q t = some (if l.take n = m then (true,l.drop n,q) else (false,l,q)) := by
 subst ht hn
 unfold takeX
 rw [if_pos h,toBytes_len]
 by_cases c : l.take t.size = toBytes t
 · rw [if_pos c,if_pos c,decide_eq_true c]
 · rw [if_neg c,if_neg c,decide_eq_false c]
theorem blanksX_ok {l : List Int} (h : okB l) (q : Int) : blanksX l q = some (decide (0 < blankN l),off l,q) := by unfold blanksX; rw [if_pos h]
theorem nameX_ok {l : List Int} (h : okB l) (q : Int) : nameX l q = some (ofBytes (l.take (Xm.fullL l)),l.drop (Xm.fullL l),q) := by unfold nameX; rw [if_pos h]
theorem valueX_ok {l : List Int} (h : okB l) (q : Int) : valueX l q = some ((valW l).1,(valW l).2.1,(valW l).2.2,q) := by unfold valueX; rw [if_pos h]
theorem attrX_ok {l : List Int} (h : okB l) (q : Int) : attrX l q = some (ofBytes (attrW l).1,ofBytes (attrW l).2.1,(attrW l).2.2.1,(attrW l).2.2.2) := by unfold attrX; rw [if_pos h]
theorem isX_ok {l : List Int} (h : okB l) (t : ByteArray) (m : List Int) (n : Nat) (ht : toBytes t = m) (hn : m.length = n) : isX l t = some (decide (l.take n = m)) := by
 subst ht hn
 unfold isX
 rw [if_pos h,toBytes_len]
theorem okB_valQ {l : List Int} (h : okB l) (s : Int) : okB (valQ s l).1 ∧ okB (valQ s l).2.2 := by
 unfold valQ
 split
 · exact ⟨okB_take h _,okB_drop h _⟩
 · exact ⟨h,rfl,by simp⟩
theorem okB_valW {l : List Int} (h : okB l) : okB (valW l).1 ∧ okB (valW l).2.2 := by
 unfold valW
 split
 · exact okB_valQ (okB_drop h 1) _
 · split
   · exact okB_valQ (okB_drop h 1) _
   · exact ⟨⟨rfl,by simp⟩,h⟩
theorem okB_eqW {l : List Int} (h : okB l) : okB (eqW l).2 := by
 unfold eqW
 split
 · exact okB_drop h 1
 · exact h
theorem okB_attrW {l : List Int} (h : okB l) : okB (attrW l).2.2.1 := by
 unfold attrW
 dsimp only
 have := (okB_valW (okB_off (okB_eqW (okB_off (okB_drop h (Xm.fullL l)))))).2
 split <;> exact this
theorem valQ_len (s : Int) (l : List Int) : (valQ s l).2.2.length ≤ l.length := by
 unfold valQ
 split
 · rw [List.length_drop]; omega
 · simp
theorem valW_len (l : List Int) : (valW l).2.2.length ≤ l.length := by
 unfold valW
 split
 · have := valQ_len 39 (l.drop 1); rw [List.length_drop] at this; omega
 · split
   · have := valQ_len 34 (l.drop 1); rw [List.length_drop] at this; omega
   · exact Nat.le_refl _
theorem off_len (l : List Int) : (off l).length ≤ l.length := by unfold off; rw [List.length_drop]; omega
theorem eqW_len (l : List Int) : (eqW l).2.length ≤ l.length := by
 unfold eqW
 split
 · rw [List.length_drop]; omega
 · exact Nat.le_refl _
theorem attrW_len (l : List Int) : (attrW l).2.2.1.length ≤ l.length := by
 unfold attrW
 dsimp only
 have h1 := valW_len (off (eqW (off (l.drop (Xm.fullL l)))).2)
 have h2 := off_len (eqW (off (l.drop (Xm.fullL l)))).2
 have h3 := eqW_len (off (l.drop (Xm.fullL l)))
 have h4 := off_len (l.drop (Xm.fullL l))
 rw [List.length_drop] at h4
 split <;> dsimp only <;> omega
theorem scan_take.ok : AllOk specs_scan_take := okS (cx := cx_scan_take) rfl resS.ok (by kernel_rfl) fun args cs n K r g => by
 unfold scan_take.spec at g
 dsimp only [lcSt] at g
 split at g
 · rename_i t l q
   obtain ⟨v,h,h2⟩ := bind2 g
   clear g
   refine okG h2 ?_
   clear h2
   refine ⟨0,?_⟩
   rw [scan_take.top]
   unfold takeX at h
   split at h
   · rename_i hs
     obtain rfl := Option.some.inj h
     unfold Q.bytes_CutPrefix.f
     rw [preP_spec hs.1 (byteB_to t),Option.bind_some,toBytes_len]
     by_cases c : l.take t.size = toBytes t
     · have hl := take_len c
       rw [toBytes_len] at hl
       rw [if_pos (decide_eq_true c),if_pos (by omega),if_pos (by omega),if_pos c,decide_eq_true c]
       rfl
     · rw [if_neg (by simpa using c),if_neg c,decide_eq_false c]
       rfl
   · cases h
 · cases g
theorem scan_blanks.ok : AllOk specs_scan_blanks := okS (cx := cx_scan_blanks) rfl scan_take.ok (by kernel_rfl) fun args cs n K r g => by
 unfold scan_blanks.spec at g
 dsimp only [lcSt] at g
 split at g
 · rename_i l q
   obtain ⟨v,h,h2⟩ := bind2 g
   clear g
   refine okG h2 ?_
   clear h2
   refine ⟨0,?_⟩
   rw [scan_blanks.top]
   unfold blanksX at h
   split at h
   · rename_i hs
     obtain rfl := Option.some.inj h
     unfold trimX
     rw [if_pos hs,Option.bind_some,trim_blank hs.1]
     have hle := blankN_le l
     have e : decide (((l.drop (blankN l)).length : Int) < (l.length : Int)) = decide (0 < blankN l) := by
      rw [Bool.eq_iff_iff,decide_eq_true_eq,decide_eq_true_eq,List.length_drop]
      omega
     rw [e]
     rfl
   · cases h
 · cases g
theorem scan_name.ok : AllOk specs_scan_name := okS (cx := cx_scan_name) rfl scan_blanks.ok (by kernel_rfl) fun args cs n K r g => by
 unfold scan_name.spec at g
 dsimp only [lcSt] at g
 split at g
 · rename_i l q
   obtain ⟨v,h,h2⟩ := bind2 g
   clear g
   refine okG h2 ?_
   clear h2
   refine ⟨0,?_⟩
   rw [scan_name.top]
   unfold nameX at h
   split at h
   · rename_i hs
     obtain rfl := Option.some.inj h
     have hle := full_le hs.1
     unfold fullX
     have e : ((l.take (Xm.fullL l)).length : Int) = (Xm.fullL l : Int) := by rw [List.length_take]; omega
     rw [if_pos hs,Option.bind_some,e,if_pos (by omega),if_pos (by omega),Int.toNat_natCast]
   · cases h
 · cases g
theorem val_end (n k : Nat) (l0 : List Int) (q0 : Int) (a b : ByteArray) (i : Int) (l : List Int) (q : Int) (hi : i = 2) : scan_value.L1 n (k + 1) l0 q0 a b i l q = (some (.ret (.tup [.sl (.int .u8) [] .no,.bool false]),lcRet [[.sl (.int .u8) l .no,.int .i64 q]] [] 0) : Option (Rr U0)) := by
 subst hi
 rw [scan_value.L1_s,if_neg (by decide)]
theorem val_quote {l : List Int} (h : okB l) (s : Int) (hs : byteB [s] = true) (q : Int) :
 ((cutX l [s]).bind fun v1 => (if v1.2.2 = true then some (Res.ret (AVal.tup [AVal.sl (Ty.int IntKind.u8) v1.1 Perm.no,AVal.bool (if true = true then decide (Lib.indexByte (Lib.bytesOf v1.1) (Int.toNat (60 : Int)).toUInt8 < (0 : Int)) else false)]),lcRet ([[AVal.sl (Ty.int IntKind.u8) v1.2.1 Perm.no,AVal.int IntKind.i64 q]]) ([]) ((0 : Nat))) else some (Res.ret (AVal.tup [AVal.sl (Ty.int IntKind.u8) v1.1 Perm.no,AVal.bool false]),lcRet ([[AVal.sl (Ty.int IntKind.u8) v1.2.1 Perm.no,AVal.int IntKind.i64 q]]) ([]) ((0 : Nat))))) =
 (some (.ret (.tup [.sl (.int .u8) (valQ s l).1 .no,.bool (valQ s l).2.1]),lcRet [[.sl (.int .u8) (valQ s l).2.2 .no,.int .i64 q]] [] 0) : Option (Rr U0)) := by
 rw [cutX_ok h hs ⟨by simp,by simp⟩,Option.bind_some]
 unfold valQ
 by_cases c : 0 ≤ bIndexW l [s]
 · rw [if_pos c,if_pos c]
   dsimp only
   rw [if_pos rfl,if_pos rfl,show (60 : Int) = ((60 : Nat) : Int) from rfl,indexByte_W _ 60 (by decide)]
   rfl
 · rw [if_neg c,if_neg c]
   dsimp only
   rw [if_neg (by decide)]
theorem scan_value.ok : AllOk specs_scan_value := okS (cx := cx_scan_value) rfl scan_name.ok (by kernel_rfl) fun args cs n K r g => by
 unfold scan_value.spec at g
 dsimp only [lcSt] at g
 split at g
 · rename_i l q
   obtain ⟨v,h,h2⟩ := bind2 g
   clear g
   refine okG h2 ?_
   clear h2
   refine ⟨3,?_⟩
   rw [scan_value.top]
   unfold valueX at h
   split at h
   · rename_i hs
     obtain rfl := Option.some.inj h
     rw [show (3 : Nat) = 2 + 1 from rfl,scan_value.L1_s,if_pos (by decide),if_neg (by decide),if_pos (by decide),takeX_ok hs q _ [39] 1 rfl rfl,Option.bind_some]
     unfold valW
     by_cases c : l.take 1 = [39]
     · rw [if_pos c,if_pos c]
       dsimp only
       rw [if_pos rfl]
       exact val_quote (okB_drop hs 1) 39 (by decide) q
     · rw [if_neg c,if_neg c]
       dsimp only
       rw [if_neg (by decide),show IntKind.i64.wrap (0 + 1) = 1 from rfl,show (2 : Nat) = 1 + 1 from rfl,scan_value.L1_s,if_pos (by decide),if_pos (by decide),takeX_ok hs q _ [34] 1 rfl rfl,Option.bind_some]
       by_cases c2 : l.take 1 = [34]
       · rw [if_pos c2,if_pos c2]
         dsimp only
         rw [if_pos rfl]
         exact val_quote (okB_drop hs 1) 34 (by decide) q
       · rw [if_neg c2,if_neg c2]
         dsimp only
         rw [if_neg (by decide)]
         exact val_end _ 0 _ _ _ _ _ _ _ rfl
   · cases h
 · cases g
theorem scan_attribute.ok : AllOk specs_scan_attribute := okS (cx := cx_scan_attribute) rfl scan_value.ok (by kernel_rfl) fun args cs n K r g => by
 unfold scan_attribute.spec at g
 dsimp only [lcSt] at g
 split at g
 · rename_i l q
   obtain ⟨v,h,h2⟩ := bind2 g
   clear g
   refine okG h2 ?_
   clear h2
   refine ⟨0,?_⟩
   rw [scan_attribute.top]
   unfold attrX at h
   split at h
   · rename_i hs
     obtain rfl := Option.some.inj h
     have hle := full_le hs.1
     have h1 := okB_drop hs (Xm.fullL l)
     have h2 := okB_off h1
     rw [nameX_ok hs,Option.bind_some,blanksX_ok h1,Option.bind_some,takeX_ok h2 q _ [61] 1 rfl rfl,Option.bind_some]
     have h3 := okB_eqW h2
     have e3 : (if (off (l.drop (Xm.fullL l))).take 1 = [61] then (true,(off (l.drop (Xm.fullL l))).drop 1,q) else (false,off (l.drop (Xm.fullL l)),q)) = ((eqW (off (l.drop (Xm.fullL l)))).1,(eqW (off (l.drop (Xm.fullL l)))).2,q) := by
      unfold eqW
      split <;> rfl
     dsimp only
     rw [e3]
     dsimp only
     have h4 := okB_off h3
     rw [blanksX_ok h3,Option.bind_some]
     dsimp only
     rw [valueX_ok h4,Option.bind_some]
     dsimp only
     unfold attrW
     dsimp only
     by_cases c : Xm.fullL l = 0 ∨ (eqW (off (l.drop (Xm.fullL l)))).1 = false ∨ (valW (off (eqW (off (l.drop (Xm.fullL l)))).2)).2.1 = false
     · rw [if_pos (by rw [ite_or,ite_or,seq_empty,take_none hle,Bool.not_eq_true',Bool.not_eq_true',or_assoc]; exact c),if_pos c]
       rfl
     · rw [if_neg (by rw [ite_or,ite_or,seq_empty,take_none hle,Bool.not_eq_true',Bool.not_eq_true',or_assoc]; exact c),if_neg c,resX_ok (okB_valW h4).1,Option.bind_some]
   · cases h
 · cases g
theorem open_L (n : Nat) (l0 : List Int) (q0 : Int) (x2 : Int) (x3 : ByteArray) (x4 : List (Ty.den U0 (Ty.str.pair Ty.str))) (x5 : Bool) (x6 : ByteArray) (nm : ByteArray) : ∀ (d k : Nat) (l : List Int) (xs : List (ByteArray × ByteArray)),okB l → l.length < d → xs.length + l.length ≤ 8000000 →
 scan_opening.L1 n (k + d + 1) l0 q0 l 0 x2 x3 x4 x5 x6 1 nm xs false ⟨#[]⟩ = (some (.ret (.agg [.int .i64 1,.str nm,.sl (Ty.str.pair Ty.str) (openGo d l xs).1 .no,.bool (openGo d l xs).2.1,.str ⟨#[]⟩]),lcRet [[.sl (.int .u8) (openGo d l xs).2.2.1 .no,.int .i64 (openGo d l xs).2.2.2]] [] 0) : Option (Rr U0)) := by
 intro d
 induction d with
 | zero => intro k l xs _ h1; omega
 | succ d ih =>
  intro k l xs hb h1 h2
  have ho := okB_off hb
  rw [show k + (d + 1) + 1 = (k + d + 1) + 1 from rfl,scan_opening.L1_s,if_pos (by decide),blanksX_ok hb,Option.bind_some]
  dsimp only
  rw [takeX_ok ho 0 _ [62] 1 rfl rfl,Option.bind_some,openGo]
  by_cases c1 : (off l).take 1 = [62]
  · rw [if_pos c1,if_pos c1]
    dsimp only
    rw [if_pos rfl]
  rw [if_neg c1,if_neg c1]
  dsimp only
  rw [if_neg (by decide),takeX_ok ho 0 _ [47,62] 2 rfl rfl,Option.bind_some]
  by_cases c2 : (off l).take 2 = [47,62]
  · rw [if_pos c2,if_pos c2]
    dsimp only
    rw [if_pos rfl]
  rw [if_neg c2,if_neg c2]
  dsimp only
  rw [if_neg (by decide)]
  by_cases c3 : blankN l = 0
  · rw [if_pos (by rw [c3]; rfl),if_pos c3]
  have hp : (!decide (0 < blankN l)) = false := by rw [decide_eq_true (by omega)]; rfl
  rw [if_neg (by rw [hp]; decide),if_neg c3,attrX_ok ho,Option.bind_some]
  dsimp only
  have hl := attrW_len (off l)
  have hl2 : (off l).length < l.length := by
   have := blankN_le l
   unfold off
   rw [List.length_drop]; omega
  rw [if_pos (by simp only [List.length_cons,List.length_nil,most]; omega)]
  by_cases c4 : (attrW (off l)).2.2.2 = 0
  · rw [if_pos c4,c4]
    exact ih k _ _ (okB_attrW ho) (by omega) (by rw [List.length_append]; simp only [List.length_cons,List.length_nil]; omega)
  · rw [if_neg c4,scan_opening.L1_s,if_neg (by rw [beq_iff_eq]; exact c4)]
theorem scan_opening.ok : AllOk specs_scan_opening := okS (cx := cx_scan_opening) rfl scan_attribute.ok (by kernel_rfl) fun args cs n K r g => by
 unfold scan_opening.spec at g
 dsimp only [lcSt] at g
 split at g
 · rename_i l q
   obtain ⟨v,h,h2⟩ := bind2 g
   clear g
   refine okG h2 ?_
   clear h2
   refine ⟨0 + (l.length + 1) + 1,?_⟩
   rw [scan_opening.top]
   unfold openX at h
   split at h
   · rename_i hs
     obtain rfl := Option.some.inj h
     obtain ⟨hs,rfl⟩ := hs
     rw [takeX_ok hs 0 _ [60] 1 rfl rfl,Option.bind_some]
     have e : (if l.take 1 = [60] then (true,l.drop 1,(0 : Int)) else (false,l,0)) = (decide (l.take 1 = [60]),(if l.take 1 = [60] then l.drop 1 else l),0) := by
      by_cases c : l.take 1 = [60]
      · rw [if_pos c,if_pos c,decide_eq_true c]
      · rw [if_neg c,if_neg c,decide_eq_false c]
     rw [e]
     have hu : okB (if l.take 1 = [60] then l.drop 1 else l) := by
      split
      · exact okB_drop hs 1
      · exact hs
     have hul : (if l.take 1 = [60] then l.drop 1 else l).length ≤ l.length := by
      split
      · rw [List.length_drop]; omega
      · exact Nat.le_refl _
     unfold openW
     dsimp only
     generalize (if l.take 1 = [60] then l.drop 1 else l) = u at hu hul ⊢
     have hle := full_le hu.1
     rw [nameX_ok hu,Option.bind_some]
     dsimp only
     by_cases c : Xm.fullL u = 0
     · rw [if_pos (by rw [seq_empty,take_none hle]; exact c),if_pos c,c,List.drop_zero,scan_opening.L1_s,if_neg (by decide)]
       rfl
     · rw [if_neg (by rw [seq_empty,take_none hle]; exact c),if_neg c]
       refine (open_L _ l 0 _ _ _ _ _ _ (l.length + 1) 0 (u.drop (Xm.fullL u)) [] (okB_drop hu _) (by rw [List.length_drop]; omega) (by rw [List.length_drop]; have := hu.2; simp only [List.length_nil]; omega)).trans ?_
       rfl
   · cases h
 · cases g
theorem scan_closing.ok : AllOk specs_scan_closing := okS (cx := cx_scan_closing) rfl scan_opening.ok (by kernel_rfl) fun args cs n K r g => by
 unfold scan_closing.spec at g
 dsimp only [lcSt] at g
 split at g
 · rename_i l q
   obtain ⟨v,h,h2⟩ := bind2 g
   clear g
   refine okG h2 ?_
   clear h2
   refine ⟨0,?_⟩
   rw [scan_closing.top]
   unfold closeX at h
   split at h
   · rename_i hs
     obtain rfl := Option.some.inj h
     obtain ⟨hs,rfl⟩ := hs
     rw [takeX_ok hs 0 _ [60,47] 2 rfl rfl,Option.bind_some]
     have e : (if l.take 2 = [60,47] then (true,l.drop 2,(0 : Int)) else (false,l,0)) = (decide (l.take 2 = [60,47]),(if l.take 2 = [60,47] then l.drop 2 else l),0) := by
      by_cases c : l.take 2 = [60,47]
      · rw [if_pos c,if_pos c,decide_eq_true c]
      · rw [if_neg c,if_neg c,decide_eq_false c]
     rw [e]
     have hu : okB (if l.take 2 = [60,47] then l.drop 2 else l) := by
      split
      · exact okB_drop hs 2
      · exact hs
     unfold closeW
     dsimp only
     generalize (if l.take 2 = [60,47] then l.drop 2 else l) = u at hu ⊢
     have hle := full_le hu.1
     have h1 := okB_drop hu (Xm.fullL u)
     have h2 := okB_off h1
     rw [nameX_ok hu,Option.bind_some]
     dsimp only
     rw [blanksX_ok h1,Option.bind_some]
     dsimp only
     by_cases c : Xm.fullL u = 0
     · rw [if_pos (by rw [seq_empty,take_none hle]; exact c),if_pos c,c]
       rfl
     · rw [if_neg (by rw [seq_empty,take_none hle]; exact c),if_neg c,takeX_ok h2 0 _ [62] 1 rfl rfl,Option.bind_some]
       by_cases c2 : (off (u.drop (Xm.fullL u))).take 1 = [62]
       · rw [if_pos c2,if_pos c2]
         dsimp only
         rw [if_neg (by decide)]
         rfl
       · rw [if_neg c2,if_neg c2]
         dsimp only
         rw [if_pos (by decide)]
         rfl
   · cases h
 · cases g
theorem scan_literal.ok : AllOk specs_scan_literal := okS (cx := cx_scan_literal) rfl scan_closing.ok (by kernel_rfl) fun args cs n K r g => by
 unfold scan_literal.spec at g
 dsimp only [lcSt] at g
 split at g
 · rename_i l q
   obtain ⟨v,h,h2⟩ := bind2 g
   clear g
   refine okG h2 ?_
   clear h2
   refine ⟨0,?_⟩
   rw [scan_literal.top]
   unfold litX at h
   split at h
   · rename_i hs
     obtain rfl := Option.some.inj h
     obtain ⟨hs,rfl⟩ := hs
     rw [takeX_ok hs 0 _ [60,33,91,67,68,65,84,65,91] 9 rfl rfl,Option.bind_some]
     have e : (if l.take 9 = [60,33,91,67,68,65,84,65,91] then (true,l.drop 9,(0 : Int)) else (false,l,0)) = (decide (l.take 9 = [60,33,91,67,68,65,84,65,91]),(if l.take 9 = [60,33,91,67,68,65,84,65,91] then l.drop 9 else l),0) := by
      by_cases c : l.take 9 = [60,33,91,67,68,65,84,65,91]
      · rw [if_pos c,if_pos c,decide_eq_true c]
      · rw [if_neg c,if_neg c,decide_eq_false c]
     rw [e]
     have hu : okB (if l.take 9 = [60,33,91,67,68,65,84,65,91] then l.drop 9 else l) := by
      split
      · exact okB_drop hs 9
      · exact hs
     unfold litW
     dsimp only
     generalize (if l.take 9 = [60,33,91,67,68,65,84,65,91] then l.drop 9 else l) = u at hu ⊢
     rw [cutX_ok hu (by decide) ⟨by decide,by decide⟩,Option.bind_some]
     by_cases c : 0 ≤ bIndexW u [93,93,62]
     · rw [if_pos c,if_pos c]
       dsimp only
       rw [if_neg (by decide),linesX_ok (okB_take hu _),Option.bind_some]
       rfl
     · rw [if_neg c,if_neg c]
       dsimp only
       rw [if_pos (by decide),linesX_ok hu,Option.bind_some]
       rfl
   · cases h
 · cases g
theorem textN_le (l : List Int) : textN l ≤ l.length := by
 obtain ⟨q1,q2⟩ := bIndex_lt (l := l) (m := [60])
 unfold textN
 split
 · exact Nat.le_refl _
 · rw [if_neg (by omega)] at q2
   simp only [List.length_cons,List.length_nil] at q2
   omega
theorem containsX_ok {b c : List Int} (h : okB b) (hc : byteB c = true) (h1 : 0 < c.length ∧ c.length ≤ 1000) : containsX b c = some (bIndexW b c != -1) := by
 unfold containsX
 rw [if_pos ⟨⟨h.1,hc⟩,by have := h.2; omega,h1⟩]
theorem scan_text.ok : AllOk specs_scan_text := okS (cx := cx_scan_text) rfl scan_literal.ok (by kernel_rfl) fun args cs n K r g => by
 unfold scan_text.spec at g
 dsimp only [lcSt] at g
 split at g
 · rename_i l q
   obtain ⟨v,h,h2⟩ := bind2 g
   clear g
   refine okG h2 ?_
   clear h2
   refine ⟨0,?_⟩
   rw [scan_text.top]
   unfold textX at h
   split at h
   · rename_i hs
     obtain rfl := Option.some.inj h
     obtain ⟨hs,rfl⟩ := hs
     have hle := textN_le l
     have fin : ∀ (m : Int),m = (textN l : Int) → ((containsX (List.take m.toNat l) [(93 : Int),(93 : Int),(62 : Int)]).bind fun v0 => (if v0 = true then some (Res.ret (AVal.agg [AVal.int IntKind.i64 (3 : Int),AVal.str (ByteArray.mk #[]),AVal.sl (Ty.str.pair Ty.str) [] Perm.no,AVal.bool false,AVal.str (ByteArray.mk #[])]),lcRet ([[AVal.sl (Ty.int IntKind.u8) (List.drop m.toNat l) Perm.no,AVal.int IntKind.i64 (11 : Int)]]) ([]) ((0 : Nat))) else ((resX (List.take m.toNat l) false).bind fun v1 => some (Res.ret (AVal.agg [AVal.int IntKind.i64 (3 : Int),AVal.str (ByteArray.mk #[]),AVal.sl (Ty.str.pair Ty.str) [] Perm.no,AVal.bool false,AVal.str v1.1]),lcRet ([[AVal.sl (Ty.int IntKind.u8) (List.drop m.toNat l) Perm.no,AVal.int IntKind.i64 v1.2.2]]) ([]) ((0 : Nat)))))) =
      (some (.ret (.agg [.int .i64 (flatB (textW l)).1,.str (flatB (textW l)).2.1,.sl (Ty.str.pair Ty.str) (flatB (textW l)).2.2.1 .no,.bool (flatB (textW l)).2.2.2.1,.str (flatB (textW l)).2.2.2.2.1]),lcRet [[.sl (.int .u8) (flatB (textW l)).2.2.2.2.2.1 .no,.int .i64 (flatB (textW l)).2.2.2.2.2.2]] [] 0) : Option (Rr U0)) := by
      rintro _ rfl
      rw [Int.toNat_natCast,containsX_ok (okB_take hs _) (by decide) ⟨by decide,by decide⟩,Option.bind_some]
      unfold textW
      by_cases c : bIndexW (l.take (textN l)) [93,93,62] = -1
      · rw [if_neg (by rw [c]; decide),if_pos c,resX_ok (okB_take hs _),Option.bind_some]
        rfl
      · rw [if_pos (bne_iff_ne.2 c),if_neg c]
        rfl
     rw [show (60 : Int) = ((60 : Nat) : Int) from rfl,indexByte_W l 60 (by decide),show ((60 : Nat) : Int) = 60 from rfl]
     obtain ⟨q1,q2⟩ := bIndex_lt (l := l) (m := [60])
     by_cases c : bIndexW l [60] < 0
     · rw [if_pos (decide_eq_true c),if_pos (by omega),if_pos (by omega),if_pos (by omega),if_pos (by omega)]
       exact fin _ (by unfold textN; rw [if_pos c])
     · rw [if_neg (c := bIndexW l [60] = -1) (by omega)] at q2
       simp only [List.length_cons,List.length_nil] at q2
       rw [if_neg (by simpa using c),if_pos (by omega),if_pos (by omega),if_pos (by omega),if_pos (by omega)]
       exact fin _ (by unfold textN; rw [if_neg c]; omega)
   · cases h
 · cases g
theorem scan_is.ok : AllOk specs_scan_is := okS (cx := cx_scan_is) rfl scan_text.ok (by kernel_rfl) fun args cs n K r g => by
 unfold scan_is.spec at g
 dsimp only [lcSt] at g
 split at g
 · rename_i t l q
   obtain ⟨v,h,h2⟩ := bind2 g
   clear g
   refine okG h2 ?_
   clear h2
   refine ⟨0,?_⟩
   rw [scan_is.top]
   unfold isX at h
   split at h
   · rename_i hs
     obtain rfl := Option.some.inj h
     rw [preP_spec hs.1 (byteB_to t),Option.bind_some,toBytes_len]
   · cases h
 · cases g
theorem litX_ok {l : List Int} (h : okB l) : litX l 0 = some (flatB (litW l)) := by unfold litX; rw [if_pos ⟨h,rfl⟩]
theorem closeX_ok {l : List Int} (h : okB l) : closeX l 0 = some (flatB (closeW l)) := by unfold closeX; rw [if_pos ⟨h,rfl⟩]
theorem openX_ok {l : List Int} (h : okB l) : openX l 0 = some (flatB (openW l)) := by unfold openX; rw [if_pos ⟨h,rfl⟩]
theorem textX_ok {l : List Int} (h : okB l) : textX l 0 = some (flatB (textW l)) := by unfold textX; rw [if_pos ⟨h,rfl⟩]
theorem scan_token.ok : AllOk specs_scan_token := okS (cx := cx_scan_token) rfl scan_is.ok (by kernel_rfl) fun args cs n K r g => by
 unfold scan_token.spec at g
 dsimp only [lcSt] at g
 split at g
 · rename_i l q
   obtain ⟨v,h,h2⟩ := bind2 g
   clear g
   refine okG h2 ?_
   clear h2
   refine ⟨0,?_⟩
   rw [scan_token.top]
   unfold tokX at h
   split at h
   · rename_i hs
     obtain rfl := Option.some.inj h
     obtain ⟨hs,rfl⟩ := hs
     unfold tokW
     by_cases c0 : l.length = 0
     · rw [if_pos (by rw [beq_iff_eq]; omega),if_pos c0]
       rfl
     rw [if_neg (by rw [beq_iff_eq]; omega),if_neg c0,isX_ok hs _ [60,33,91,67,68,65,84,65,91] 9 rfl rfl,Option.bind_some]
     by_cases c1 : l.take 9 = [60,33,91,67,68,65,84,65,91]
     · rw [if_pos (decide_eq_true c1),if_pos c1,litX_ok hs,Option.bind_some]
     rw [if_neg (by rw [decide_eq_true_eq]; exact c1),if_neg c1,isX_ok hs _ [60,33,68,79,67,84,89,80,69] 9 rfl rfl,Option.bind_some]
     by_cases c2 : l.take 9 = [60,33,68,79,67,84,89,80,69]
     · rw [if_pos (decide_eq_true c2),if_pos c2]
       rfl
     rw [if_neg (by rw [decide_eq_true_eq]; exact c2),if_neg c2,isX_ok hs _ [60,47] 2 rfl rfl,Option.bind_some]
     by_cases c3 : l.take 2 = [60,47]
     · rw [if_pos (decide_eq_true c3),if_pos c3,closeX_ok hs,Option.bind_some]
     rw [if_neg (by rw [decide_eq_true_eq]; exact c3),if_neg c3,isX_ok hs _ [60] 1 rfl rfl,Option.bind_some]
     by_cases c4 : l.take 1 = [60]
     · rw [if_pos (decide_eq_true c4),if_pos c4,openX_ok hs,Option.bind_some]
     rw [if_neg (by rw [decide_eq_true_eq]; exact c4),if_neg c4,textX_ok hs,Option.bind_some]
   · cases h
 · cases g
theorem openGo_len : ∀ (d : Nat) (l : List Int) (xs : List (ByteArray × ByteArray)),(openGo d l xs).2.2.1.length ≤ l.length
 | 0,l,xs => Nat.le_refl _
 | d + 1,l,xs => by
  have h1 := off_len l
  have h2 := attrW_len (off l)
  rw [openGo]
  split
  · rw [List.length_drop]; omega
  split
  · rw [List.length_drop]; omega
  split
  · exact h1
  · dsimp only
    split
    · have := openGo_len d (attrW (off l)).2.2.1 (xs ++ [(ofBytes (attrW (off l)).1,ofBytes (attrW (off l)).2.1)])
      omega
    · dsimp only; omega
theorem ite_len {c : Prop} [Decidable c] (l : List Int) (n : Nat) : (if c then l.drop n else l).length ≤ l.length := by
 split
 · rw [List.length_drop]; omega
 · exact Nat.le_refl _
theorem openW_len (l : List Int) : (openW l).2.1.length ≤ l.length := by
 have h1 := ite_len (c := l.take 1 = [60]) l 1
 unfold openW
 dsimp only
 generalize (if l.take 1 = [60] then l.drop 1 else l) = u at h1
 have h2 := openGo_len (l.length + 1) (u.drop (Xm.fullL u)) []
 rw [List.length_drop] at h2
 split <;> dsimp only <;> omega
theorem closeW_len (l : List Int) : (closeW l).2.1.length ≤ l.length := by
 have h1 := ite_len (c := l.take 2 = [60,47]) l 2
 unfold closeW
 dsimp only
 generalize (if l.take 2 = [60,47] then l.drop 2 else l) = u at h1
 have h2 := off_len (u.drop (Xm.fullL u))
 rw [List.length_drop] at h2
 split
 · dsimp only; omega
 · split
   · dsimp only; rw [List.length_drop]; omega
   · dsimp only; omega
theorem litW_len (l : List Int) : (litW l).2.1.length ≤ l.length := by
 have h1 := ite_len (c := l.take 9 = [60,33,91,67,68,65,84,65,91]) l 9
 unfold litW
 dsimp only
 generalize (if l.take 9 = [60,33,91,67,68,65,84,65,91] then l.drop 9 else l) = u at h1
 split
 · dsimp only; rw [List.length_drop]; omega
 · exact Nat.zero_le _
theorem textW_len (l : List Int) : (textW l).2.1.length ≤ l.length := by
 unfold textW
 split <;> (dsimp only; rw [List.length_drop]; omega)
theorem tokW_len (l : List Int) : (tokW l).2.1.length ≤ l.length := by
 unfold tokW
 split
 · exact Nat.le_refl _
 split
 · exact litW_len l
 split
 · exact Nat.le_refl _
 split
 · exact closeW_len l
 split
 · exact openW_len l
 · exact textW_len l
theorem tokX_ok {l : List Int} (h : okB l) : tokX l 0 = some (flatB (tokW l)) := by unfold tokX; rw [if_pos ⟨h,rfl⟩]
theorem skipGo_in : ∀ (d : Nat) (b : List Int) (p : Int),0 ≤ p → p ≤ b.length → 0 ≤ (skipGo d b p).1 ∧ (skipGo d b p).1 ≤ b.length ∧ p ≤ (skipGo d b p).1
 | 0,b,p,h0,h1 => ⟨h0,h1,Int.le_refl _⟩
 | d + 1,b,p,h0,h1 => by
  have c := comm_pos (b.drop p.toNat)
  have i := inst_pos (b.drop p.toNat)
  rw [List.length_drop] at c i
  rcases skip_step (d := d) h0 h1 with ⟨_,e,_⟩ | ⟨_,_,e,_⟩ | ⟨_,_,e⟩ <;> rw [e]
  · split
    · exact ⟨h0,h1,Int.le_refl _⟩
    · have := skipGo_in d b (p + commW (b.drop p.toNat)) (by omega) (by omega)
      exact ⟨this.1,this.2.1,by omega⟩
  · split
    · exact ⟨h0,h1,Int.le_refl _⟩
    · have := skipGo_in d b (p + instW (b.drop p.toNat)) (by omega) (by omega)
      exact ⟨this.1,this.2.1,by omega⟩
  · exact ⟨h0,h1,Int.le_refl _⟩
theorem skipW_in {b : List Int} {p : Int} (h : (skipW b p).2 = 0) : 0 ≤ (skipW b p).1 ∧ (skipW b p).1 ≤ b.length ∧ p ≤ (skipW b p).1 := by
 unfold skipW at h ⊢
 by_cases c : p < 0 ∨ p > b.length
 · rw [if_pos c] at h; cases h
 · rw [if_neg c]
   exact skipGo_in _ _ _ (by omega) (by omega)
theorem xmllex_Next.ok : AllOk specs_xmllex_Next := okS (cx := cx_xmllex_Next) rfl scan_token.ok (by kernel_rfl) fun args cs n K r g => by
 unfold xmllex_Next.spec at g
 dsimp only [lcSt] at g
 split at g
 · rename_i b p
   obtain ⟨v,h,h2⟩ := bind2 g
   clear g
   refine okG h2 ?_
   clear h2
   refine ⟨0,?_⟩
   rw [xmllex_Next.top]
   unfold nextX at h
   split at h
   · rename_i hs
     obtain rfl := Option.some.inj h
     unfold skipX
     rw [if_pos hs,Option.bind_some]
     unfold nextW
     dsimp only
     by_cases c : (skipW b p).2 = 0
     · obtain ⟨k0,k1,_⟩ := skipW_in c
       have hlen := tokW_len (b.drop (skipW b p).1.toNat)
       rw [List.length_drop] at hlen
       rw [if_neg (c := ((skipW b p).2 != 0) = true) (by rw [bne_iff_ne]; exact fun q => q c),if_pos k0,if_pos k1,tokX_ok (okB_drop hs _),Option.bind_some,if_neg (c := (skipW b p).2 ≠ 0) (fun q => q c)]
       generalize tokW (b.drop (skipW b p).1.toNat) = t at hlen
       have hs2 := hs.2
       by_cases c2 : t.2.2 = 0
       · rw [if_neg (c := ((flatB t).2.2.2.2.2.2 != 0) = true) (by rw [bne_iff_ne]; exact fun q => q c2),if_neg (c := t.2.2 ≠ 0) (fun q => q c2)]
         have hw : IntKind.i64.wrap ((b.length : Int) - ((flatB t).2.2.2.2.2.1.length : Int)) = (b.length : Int) - t.2.1.length := wid _ (by show _ ≤ (b.length : Int) - (t.2.1.length : Int) ∧ (b.length : Int) - (t.2.1.length : Int) ≤ _; omega)
         rw [hw]
         rfl
       · rw [if_pos (c := ((flatB t).2.2.2.2.2.2 != 0) = true) (bne_iff_ne.2 c2),if_pos (c := t.2.2 ≠ 0) c2]
         rfl
     · rw [if_pos (bne_iff_ne.2 c),if_pos c]
       rfl
   · cases h
 · cases g
theorem lines_none (v : Bool) : linesW [] v = [] := by cases v <;> rfl
theorem index_head {x y : Int} {t : List Int} (hx : 0 ≤ x ∧ x < 256) (hy : 0 ≤ y ∧ y < 256) (ht : byteB t = true) : bIndexW (x :: t) [y] = if x = y then 0 else if bIndexW t [y] = -1 then -1 else bIndexW t [y] + 1 := by
 have hb : byteB (x :: t) = true := by unfold byteB at ht ⊢; rw [List.all_cons,ht,Bool.and_true,Bool.and_eq_true]; exact ⟨decide_eq_true hx.1,decide_eq_true hx.2⟩
 have hm : byteB [y] = true := by unfold byteB; rw [List.all_cons,List.all_nil,Bool.and_true,Bool.and_eq_true]; exact ⟨decide_eq_true hy.1,decide_eq_true hy.2⟩
 rw [bIndex_cons,pre_bytes hb hm]
 have e : ((x :: t).take [y].length = [y]) ↔ x = y := by
  rw [show [y].length = 1 from rfl,List.take_succ_cons,List.take_zero]
  exact ⟨fun h => (List.cons.inj h).1,fun h => by rw [h]⟩
 by_cases c : x = y
 · rw [if_pos (decide_eq_true (e.2 c)),if_pos c]
 · rw [if_neg (by rw [decide_eq_true_eq]; exact fun q => c (e.1 q)),if_neg c]
/-- A sign's place: the sign stands there, and not ahead. -/
theorem index_drop {y : Int} (hy : 0 ≤ y ∧ y < 256) : ∀ {l : List Int} {i : Nat},byteB l = true → bIndexW l [y] = i → bIndexW (l.drop i) [y] = 0
 | [],i,_,h => by rw [bIndex_nil (by simp)] at h; omega
 | x :: t,i,hb,h => by
  have hx := byteB_all hb x (List.mem_cons_self ..)
  have ht : byteB t = true := by unfold byteB at hb ⊢; rw [List.all_cons,Bool.and_eq_true] at hb; exact hb.2
  have hg := bIndex_ge t [y]
  have h0 := h
  rw [index_head hx hy ht] at h
  by_cases c : x = y
  · rw [if_pos c] at h
    obtain rfl : i = 0 := by omega
    exact h0
  · rw [if_neg c] at h
    by_cases c2 : bIndexW t [y] = -1
    · rw [if_pos c2] at h; omega
    · rw [if_neg c2] at h
      obtain ⟨j,rfl⟩ : ∃ j,i = j + 1 := ⟨i - 1,by omega⟩
      rw [List.drop_succ_cons]
      exact index_drop hy ht (by omega)
theorem resGo_skip (n : Nat) (v : Bool) {d e i : Nat} {l acc : List Int} (hb : byteB l = true) (hi : bIndexW l [38] = i) (h1 : l.length < d) (h2 : (l.drop i).length < e) : resGo n v d l acc = resGo n v e (l.drop i) (acc ++ linesW (l.take i) v) := by
 obtain ⟨d,rfl⟩ : ∃ d',d = d' + 1 := ⟨d - 1,by omega⟩
 obtain ⟨e,rfl⟩ : ∃ e',e = e' + 1 := ⟨e - 1,by omega⟩
 have h0 := index_drop (by decide) hb hi
 have hlt : i < l.length := by
  have := (bIndex_lt (l := l) (m := [38])).2
  rw [hi,if_neg (by omega)] at this
  simp only [List.length_cons,List.length_nil] at this
  omega
 rw [resGo,resGo,hi,h0,if_neg (show ¬ ((i : Int) < 0) by omega),if_neg (show ¬ ((0 : Int) < 0) by decide)]
 dsimp only
 have ed : (l.drop i).drop (0 + 1) = l.drop (i + 1) := List.drop_drop
 rw [Int.toNat_natCast,show (0 : Int).toNat = 0 from rfl,ed,List.take_zero,lines_none,List.append_nil]
 rw [List.length_drop] at h2
 by_cases c1 : bIndexW (l.drop (i + 1)) [59] < 0
 · rw [if_pos c1,if_pos c1]
 rw [if_neg c1,if_neg c1]
 by_cases c2 : (Xm.namedW ((l.drop (i + 1)).take (bIndexW (l.drop (i + 1)) [59]).toNat)).2 = false
 · rw [if_pos c2,if_pos c2]
 rw [if_neg c2,if_neg c2]
 exact resGo_fuel n v _ _ _ _ (by rw [List.length_drop,List.length_drop]; omega) (by rw [List.length_drop,List.length_drop]; omega)
theorem rres_L0 (n : Nat) (b : List Int) (v : Bool) (hb : okB b) : ∀ (d : Nat) (i k : Nat) (acc : List Int),i + d = b.length → acc.length + 4 * d ≤ 4 * b.length →
 dossierref05_resolve.L0 n (k + 2 * d + 1) b v b v acc (i : Int) = (some (.ret (.tup [.str (ofBytes (resGo b.length v (d + 1) (b.drop i) acc).1),.int .i64 (resGo b.length v (d + 1) (b.drop i) acc).2.1,.int .i64 (resGo b.length v (d + 1) (b.drop i) acc).2.2]),lcRet [] [] 0) : Option (Rr U0)) := by
 intro d
 have hb2 := hb.2
 induction d using Nat.strongRecOn with
 | ind d ih =>
  intro i k acc hi ha
  have hdl : (b.drop i).length = d := by rw [List.length_drop]; omega
  have hdb := byteB_drop hb.1 i
  cases d with
  | zero =>
   rw [show k + 2 * 0 + 1 = k + 1 from rfl,dossierref05_resolve.L0_s,if_neg (by rw [decide_eq_true_eq]; omega),List.eq_nil_of_length_eq_zero hdl,resGo,bIndex_nil (by decide),if_pos (by decide),lines_none,List.append_nil]
  | succ d =>
   have hlt : i < b.length := by omega
   have hx := byteB_all hb.1 (b[i]'hlt) (List.getElem_mem hlt)
   have e : b.drop i = b[i]'hlt :: b.drop (i + 1) := List.drop_eq_getElem_cons hlt
   have hub := byteB_drop hb.1 (i + 1)
   rw [show k + 2 * (d + 1) + 1 = (k + 1 + 2 * d + 1) + 1 by omega,dossierref05_resolve.L0_s,if_pos (by rw [decide_eq_true_eq]; omega),if_pos (by omega),Int.toNat_natCast,nth_get,List.getElem?_eq_getElem hlt,Option.bind_some]
   obtain ⟨q1,q2⟩ := bIndex_lt (l := b.drop i) (m := [38])
   rw [hdl] at q2
   by_cases c : b[i]'hlt = 38
   · have h38 : bIndexW (b.drop i) [38] = 0 := by rw [e,index_head hx (by decide) hub,if_pos c]
     have h59 : bIndexW (b.drop i) [59] = if bIndexW (b.drop (i + 1)) [59] = -1 then -1 else bIndexW (b.drop (i + 1)) [59] + 1 := by rw [e,index_head hx (by decide) hub,if_neg (by omega)]
     rw [if_neg (by rw [bne_iff_ne]; exact fun q => q c),if_pos (by omega),if_pos (by omega),find_to hdb _ [59] rfl (by decide) (by rw [hdl]; omega),Option.bind_some,h59,resGo,h38,if_neg (show ¬ ((0 : Int) < 0) by decide)]
     dsimp only
     rw [show (0 : Int).toNat = 0 from rfl,List.drop_drop,show i + (0 + 1) = i + 1 from rfl,List.take_zero,lines_none,List.append_nil]
     have hul : (b.drop (i + 1)).length = d := by rw [List.length_drop]; omega
     obtain ⟨p1,p2⟩ := bIndex_lt (l := b.drop (i + 1)) (m := [59])
     rw [hul] at p2
     have eplace : (b.length : Int) - ((b.drop (i + 1)).length : Int) - 1 = (i : Int) := by rw [hul]; omega
     rw [eplace]
     by_cases c1 : bIndexW (b.drop (i + 1)) [59] = -1
     · rw [c1,if_pos rfl,if_pos (by decide),if_pos (by decide)]
       rfl
     · obtain ⟨j,hj⟩ : ∃ j : Nat,bIndexW (b.drop (i + 1)) [59] = j := ⟨(bIndexW (b.drop (i + 1)) [59]).toNat,by omega⟩
       rw [if_neg c1] at p2
       simp only [List.length_cons,List.length_nil] at p2
       rw [hj] at p2
       have hw : okB ((b.drop (i + 1)).take j) := okB_take (okB_drop hb (i + 1)) j
       rw [hj,if_neg (show ¬ ((j : Int) = -1) by omega),if_neg (show ¬ (decide ((j : Int) + 1 < 0) = true) by rw [decide_eq_true_eq]; omega),if_neg (show ¬ ((j : Int) < 0) by omega),wid ((i : Int) + 1) (by omega),wid ((i : Int) + ((j : Int) + 1)) (by omega),if_pos (by omega),if_pos (by omega),if_pos (by omega),
        show ((i : Int) + 1).toNat = i + 1 by omega,show ((i : Int) + ((j : Int) + 1)).toNat = i + 1 + j by omega,List.drop_take,Nat.add_sub_cancel_left,reference_lim hw.1 hw.2,Option.bind_some,Int.toNat_natCast]
       obtain ⟨r1,r2⟩ := ref_same ((b.drop (i + 1)).take j)
       generalize refW ((b.drop (i + 1)).take j) = r at r1 r2
       generalize Xm.namedW ((b.drop (i + 1)).take j) = s at r1 r2
       by_cases c2 : s.2 = false
       · rw [if_pos (by rw [r1,c2]; rfl),if_pos c2]
         rfl
       · have hs : s.2 = true := by simpa using c2
         have henc : (lim fun k => Q.dossierref01_Encode.f k r.1) = some (Chars.enc r.1) := lim_of (fun k => Q.dossierref01_Encode.mono r.1 k) (k := 0 + 1) (by omega) (Chars.enc_spec 0 r.1)
         have hel := enc_le s.1
         rw [if_neg (by rw [r1,hs]; decide),if_neg c2,henc,Option.bind_some,r2 hs,if_pos (by simp only [most]; omega),wid ((j : Int) + 1 + 1) (by omega),wid _ (by omega),
          show (i : Int) + ((j : Int) + 1 + 1) = ((i + 1 + (j + 1) : Nat) : Int) by omega,List.drop_drop]
         have h9 := ih (d - (j + 1)) (by omega) (i + 1 + (j + 1)) (k + 1 + 2 * (j + 1)) (acc ++ Chars.enc s.1) (by omega) (by rw [List.length_append]; omega)
         rw [show k + 1 + 2 * (j + 1) + 2 * (d - (j + 1)) + 1 = k + 1 + 2 * d + 1 by omega] at h9
         rw [h9]
         have hf := resGo_fuel b.length v (d - (j + 1) + 1) (d + 1) (b.drop (i + 1 + (j + 1))) (acc ++ Chars.enc s.1) (by rw [List.length_drop]; omega) (by rw [List.length_drop]; omega)
         rw [hf]
   · rw [if_pos (bne_iff_ne.2 c),if_pos (by omega),if_pos (by omega),find_to hdb _ [38] rfl (by decide) (by rw [hdl]; omega),Option.bind_some]
     by_cases c1 : bIndexW (b.drop i) [38] < 0
     · have ew : IntKind.i64.wrap ((i : Int) + IntKind.i64.wrap ((b.length : Int) - (i : Int))) = ((b.length : Nat) : Int) := by rw [wid ((b.length : Int) - (i : Int)) (by omega),wid _ (by omega)]; omega
       rw [if_pos (decide_eq_true c1),if_pos (by omega),ew,if_pos (by omega),if_pos (by omega),Int.toNat_natCast,List.take_length,linesX_ok (okB_drop hb i),Option.bind_some]
       have hl := lines_len (b.drop i) v
       rw [hdl] at hl
       rw [if_pos (by simp only [most]; omega)]
       have h9 := ih 0 (by omega) b.length (k + 1 + 2 * d) (acc ++ linesW (b.drop i) v) (by omega) (by rw [List.length_append]; omega)
       rw [show k + 1 + 2 * d + 2 * 0 + 1 = k + 1 + 2 * d + 1 by omega] at h9
       rw [h9,List.drop_length,resGo,bIndex_nil (by decide),if_pos (by decide),lines_none,List.append_nil,resGo,if_pos c1]
     · obtain ⟨j,hj⟩ : ∃ j : Nat,bIndexW (b.drop i) [38] = j := ⟨(bIndexW (b.drop i) [38]).toNat,by omega⟩
       have hj0 : j ≠ 0 := by
        rintro rfl
        rw [e,index_head hx (by decide) hub,if_neg c] at hj
        have := bIndex_ge (b.drop (i + 1)) [38]
        split at hj <;> omega
       rw [if_neg (by omega),hj] at q2
       simp only [List.length_cons,List.length_nil] at q2
       rw [hj,if_neg (by rw [decide_eq_true_eq]; omega),if_pos (by omega),wid _ (by omega),if_pos (by omega),if_pos (by omega),show ((i : Int) + (j : Int)).toNat = i + j by omega,List.drop_take,Nat.add_sub_cancel_left,linesX_ok (okB_take (okB_drop hb i) j),Option.bind_some]
       have hl := lines_len ((b.drop i).take j) v
       rw [List.length_take,hdl] at hl
       rw [if_pos (by simp only [most]; omega),show (i : Int) + (j : Int) = ((i + j : Nat) : Int) by omega]
       have h9 := ih (d + 1 - j) (by omega) (i + j) (k + 1 + 2 * (j - 1)) (acc ++ linesW ((b.drop i).take j) v) (by omega) (by rw [List.length_append]; omega)
       rw [show k + 1 + 2 * (j - 1) + 2 * (d + 1 - j) + 1 = k + 1 + 2 * d + 1 by omega] at h9
       have hs := resGo_skip b.length v (d := d + 1 + 1) (e := d + 1 - j + 1) (i := j) (acc := acc) hdb hj (by rw [hdl]; omega) (by rw [List.length_drop,hdl]; omega)
       rw [List.drop_drop] at hs
       rw [h9,hs]
theorem dossierref05_resolve.ok : AllOk specs_dossierref05_resolve := okS (cx := cx_dossierref05_resolve) rfl xmllex_Next.ok (by kernel_rfl) fun args cs n K r g => by
 unfold dossierref05_resolve.spec at g
 dsimp only [lcSt] at g
 split at g
 · rename_i b v
   obtain ⟨v,h,h2⟩ := bind2 g
   clear g
   refine okG h2 ?_
   clear h2
   refine ⟨0 + 2 * b.length + 1,?_⟩
   rw [dossierref05_resolve.top]
   unfold resX at h
   split at h
   · rename_i hs
     obtain rfl := Option.some.inj h
     have := rres_L0 (0 + 2 * b.length + 1) b v hs b.length 0 0 [] (by omega) (by simp)
     rw [List.drop_zero] at this
     exact this
   · cases h
 · cases g
theorem dossierref05_Unescape.ok : AllOk specs_dossierref05_Unescape := okS (cx := cx_dossierref05_Unescape) rfl dossierref05_resolve.ok (by kernel_rfl) fun args cs n K r g => by
 unfold dossierref05_Unescape.spec at g
 dsimp only [lcSt] at g
 split at g
 · rename_i b
   obtain ⟨v,h,h2⟩ := bind2 g
   clear g
   refine okG h2 ?_
   clear h2
   refine ⟨0,?_⟩
   rw [dossierref05_Unescape.top,h]
   rfl
 · cases g
theorem xmllex_Unescape.ok : AllOk specs_xmllex_Unescape := okS (cx := cx_xmllex_Unescape) rfl dossierref05_Unescape.ok (by kernel_rfl) fun args cs n K r g => by
 unfold xmllex_Unescape.spec at g
 dsimp only [lcSt] at g
 split at g
 · rename_i b
   obtain ⟨v,h,h2⟩ := bind2 g
   clear g
   refine okG h2 ?_
   clear h2
   refine ⟨0,?_⟩
   rw [xmllex_Unescape.top,h]
   rfl
 · cases g
theorem less_same {u : List Int} (hb : byteB u = true) {k : Nat} (hk : k ≤ u.length) : (0 ≤ bIndexW u [60] ∧ bIndexW u [60] < k) ↔ ¬ bIndexW (u.take k) [60] < 0 := by
 induction u generalizing k with
 | nil =>
  rw [List.take_nil,bIndex_nil (by decide)]
  constructor
  · intro h; omega
  · intro h; exact absurd (by decide) h
 | cons x t ih =>
  have hx := byteB_all hb x (List.mem_cons_self ..)
  have ht : byteB t = true := by unfold byteB at hb ⊢; rw [List.all_cons,Bool.and_eq_true] at hb; exact hb.2
  cases k with
  | zero =>
   rw [List.take_zero,bIndex_nil (by decide)]
   constructor
   · intro h; omega
   · intro h; exact absurd (by decide) h
  | succ k =>
   rw [List.take_succ_cons,index_head hx (by decide) ht,index_head hx (by decide) (byteB_take ht k)]
   have := ih ht (k := k) (by simp only [List.length_cons] at hk; omega)
   have h1 := bIndex_ge t [60]
   have h2 := bIndex_ge (t.take k) [60]
   by_cases c : x = 60
   · rw [if_pos c,if_pos c]; omega
   · rw [if_neg c,if_neg c]
     split <;> split <;> omega
theorem res_err (l : List Int) (v : Bool) : (resW l v).2.2 = 0 ∨ (resW l v).2.2 = 13 := by
 unfold resW
 have : ∀ (n d : Nat) (u acc : List Int),(resGo n v d u acc).2.2 = 0 ∨ (resGo n v d u acc).2.2 = 13 := by
  intro n d
  induction d with
  | zero => intro u acc; exact .inl rfl
  | succ d ih =>
   intro u acc
   rw [resGo]
   split
   · exact .inl rfl
   dsimp only
   split
   · exact .inr rfl
   split
   · exact .inr rfl
   · exact ih _ _
 exact this _ _ _ _
def okA (v : ByteArray × ByteArray × Int × Int) : Option (Rr U0) := some (.ret (.tup [.agg [.str v.1,.str v.2.1],.int .i64 v.2.2.1,.int .i64 v.2.2.2]),lcRet [] [] 0)
def tailA (n : Nat) (nm : List Int) (t : List Int × Bool × List Int) : ByteArray × ByteArray × Int × Int := if t.2.1 = false then (⟨#[]⟩,⟨#[]⟩,0,11) else (ofBytes nm,ofBytes (resW t.1 true).1,(n : Int) - t.2.2.length,(resW t.1 true).2.2)
/-- The tail of an attribute, from its value's sign on. -/
theorem rattr_tail {b : List Int} (hb : okB b) {a : Nat} (ha : a + 1 ≤ b.length) (s : Int) (nm : List Int) :
 (if (if decide (bIndexW (b.drop (a + 1)) [s] < (0 : Int)) = true then true else if decide (bIndexW (b.drop (a + 1)) [60] ≥ (0 : Int)) = true then decide (bIndexW (b.drop (a + 1)) [60] < bIndexW (b.drop (a + 1)) [s]) else false) = true then okA (⟨#[]⟩,⟨#[]⟩,0,11)
  else (resX ((b.drop (a + 1)).take (bIndexW (b.drop (a + 1)) [s]).toNat) true).bind fun v8 => okA (ofBytes nm,v8.1,(a : Int) + bIndexW (b.drop (a + 1)) [s] + 2,v8.2.2)) = okA (tailA b.length nm (valQ s (b.drop (a + 1)))) := by
 have hu := okB_drop hb (a + 1)
 have hul : (b.drop (a + 1)).length = b.length - (a + 1) := List.length_drop ..
 generalize b.drop (a + 1) = u at hu hul
 obtain ⟨q1,q2⟩ := bIndex_lt (l := u) (m := [s])
 unfold valQ tailA
 by_cases c : 0 ≤ bIndexW u [s]
 · obtain ⟨k,hk⟩ : ∃ k : Nat,bIndexW u [s] = k := ⟨(bIndexW u [s]).toNat,by omega⟩
   rw [if_neg (by omega),hk] at q2
   simp only [List.length_cons,List.length_nil] at q2
   have hl := less_same hu.1 (k := k) (by omega)
   rw [hk,if_pos (show (0 : Int) ≤ (k : Int) by omega),if_neg (show ¬ (decide ((k : Int) < 0) = true) by rw [decide_eq_true_eq]; omega),Int.toNat_natCast]
   dsimp only
   by_cases c1 : bIndexW (u.take k) [60] < 0
   · have hn : ¬ (if decide (bIndexW u [60] ≥ (0 : Int)) = true then decide (bIndexW u [60] < (k : Int)) else false) = true := by
      intro h
      rw [ite_and,decide_eq_true_eq,decide_eq_true_eq] at h
      exact hl.1 h c1
     have e : (a : Int) + (k : Int) + 2 = (b.length : Int) - ((u.drop (k + 1)).length : Int) := by rw [List.length_drop]; omega
     rw [if_neg hn,decide_eq_true c1,if_neg (by decide),resX_ok (okB_take hu k),Option.bind_some,e]
   · have hp : (if decide (bIndexW u [60] ≥ (0 : Int)) = true then decide (bIndexW u [60] < (k : Int)) else false) = true := by
      rw [ite_and,decide_eq_true_eq,decide_eq_true_eq]
      exact hl.2 c1
     rw [if_pos hp,decide_eq_false c1,if_pos rfl]
 · rw [if_pos (show (if decide (bIndexW u [s] < (0 : Int)) = true then true else if decide (bIndexW u [60] ≥ (0 : Int)) = true then decide (bIndexW u [60] < bIndexW u [s]) else false) = true by rw [if_pos (decide_eq_true (by omega))]),if_neg c]
   dsimp only
   rw [if_pos rfl]
theorem rattrW_mark {b : List Int} (h : Xm.fullL b = 0 ∨ (eqW (off (b.drop (Xm.fullL b)))).1 = false ∨ (valW (off (eqW (off (b.drop (Xm.fullL b)))).2)).2.1 = false) : rattrW b = (⟨#[]⟩,⟨#[]⟩,0,11) := by
 have e : (attrW b).2.2.2 = 11 := by unfold attrW; dsimp only; rw [if_pos h]
 unfold rattrW
 rw [if_pos e]
theorem rattrW_tail {b : List Int} (h1 : ¬ Xm.fullL b = 0) (h2 : (eqW (off (b.drop (Xm.fullL b)))).1 = true) : rattrW b = tailA b.length (b.take (Xm.fullL b)) (valW (off (eqW (off (b.drop (Xm.fullL b)))).2)) := by
 unfold tailA
 by_cases c : (valW (off (eqW (off (b.drop (Xm.fullL b)))).2)).2.1 = false
 · rw [rattrW_mark (.inr (.inr c)),if_pos c]
 · have hn : ¬ (Xm.fullL b = 0 ∨ (eqW (off (b.drop (Xm.fullL b)))).1 = false ∨ (valW (off (eqW (off (b.drop (Xm.fullL b)))).2)).2.1 = false) := by
    rintro (q | q | q)
    · exact h1 q
    · rw [h2] at q; cases q
    · exact c q
   have he := res_err (valW (off (eqW (off (b.drop (Xm.fullL b)))).2)).1 true
   unfold rattrW attrW
   dsimp only
   rw [if_neg hn]
   dsimp only
   rw [if_neg (by omega),if_neg c]
theorem dossierref05_attribute.ok : AllOk specs_dossierref05_attribute := okS (cx := cx_dossierref05_attribute) rfl xmllex_Unescape.ok (by kernel_rfl) fun args cs n K r g => by
 unfold dossierref05_attribute.spec at g
 dsimp only [lcSt] at g
 split at g
 · rename_i b
   obtain ⟨v,h,h2⟩ := bind2 g
   clear g
   refine okG h2 ?_
   clear h2
   refine ⟨0,?_⟩
   rw [dossierref05_attribute.top]
   unfold rattrX at h
   split at h
   · rename_i hs
     obtain rfl := Option.some.inj h
     show _ = okA (rattrW b)
     have hle := full_le hs.1
     have hb2 := hs.2
     rw [rname_lim hs.1 hs.2,Option.bind_some,if_pos (by omega),if_pos (by omega),if_pos (by omega),if_pos (by omega),Int.toNat_natCast]
     have h1 := okB_drop hs (Xm.fullL b)
     have l1 : (b.drop (Xm.fullL b)).length = b.length - Xm.fullL b := List.length_drop ..
     have k1 := blankN_le (b.drop (Xm.fullL b))
     rw [l1] at k1
     rw [blanks_lim h1.1 h1.2,Option.bind_some]
     by_cases c0 : Xm.fullL b = 0
     · rw [if_pos (by rw [beq_iff_eq]; omega),rattrW_mark (.inl c0)]
       rfl
     have ho : off (b.drop (Xm.fullL b)) = b.drop (Xm.fullL b + blankN (b.drop (Xm.fullL b))) := by unfold off; rw [List.drop_drop]
     rw [if_neg (by rw [beq_iff_eq]; omega),wid _ (by omega),if_pos (by omega),if_pos (by omega),show ((Xm.fullL b : Int) + (blankN (b.drop (Xm.fullL b)) : Int)).toNat = Xm.fullL b + blankN (b.drop (Xm.fullL b)) by omega]
     have hAi : (Xm.fullL b : Int) + (blankN (b.drop (Xm.fullL b)) : Int) = ((Xm.fullL b + blankN (b.drop (Xm.fullL b)) : Nat) : Int) := by omega
     rw [hAi]
     generalize Xm.fullL b + blankN (b.drop (Xm.fullL b)) = A at ho
     rw [beg_at (byteB_drop hs.1 A) _ [61] 1 rfl rfl,Option.bind_some]
     by_cases c1 : ¬ (b.drop A).take 1 = [61]
     · rw [if_pos (by rw [false_or_b,decide_eq_false c1]; rfl),rattrW_mark (.inr (.inl (by rw [ho]; unfold eqW; rw [if_neg c1])))]
       rfl
     replace c1 := Classical.not_not.1 c1
     have hA1 : A + 1 ≤ b.length := by
      have := take_len c1
      rw [List.length_drop] at this
      simp only [List.length_cons,List.length_nil] at this
      omega
     have e3 : eqW (off (b.drop (Xm.fullL b))) = (true,b.drop (A + 1)) := by rw [ho]; unfold eqW; rw [if_pos c1,List.drop_drop]
     rw [if_neg (by rw [false_or_b,decide_eq_true c1]; decide),wid ((A : Int) + 1) (by omega),if_pos (by omega),if_pos (by omega),show ((A : Int) + 1).toNat = A + 1 by omega]
     have h2 := okB_drop hs (A + 1)
     have k2 := blankN_le (b.drop (A + 1))
     rw [List.length_drop] at k2
     have ho2 : off (b.drop (A + 1)) = b.drop (A + 1 + blankN (b.drop (A + 1))) := by unfold off; rw [List.drop_drop]
     rw [blanks_lim h2.1 h2.2,Option.bind_some,rattrW_tail c0 (by rw [e3]),e3]
     dsimp only
     have hBi : (A : Int) + 1 + (blankN (b.drop (A + 1)) : Int) = ((A + 1 + blankN (b.drop (A + 1)) : Nat) : Int) := by omega
     rw [hBi,ho2]
     have hBl : A + 1 + blankN (b.drop (A + 1)) ≤ b.length := by omega
     generalize A + 1 + blankN (b.drop (A + 1)) = B at hBl
     rw [wid (B : Int) (by omega),if_pos (by omega),if_pos (by omega),Int.toNat_natCast,beg_at (byteB_drop hs.1 B) _ [39] 1 rfl rfl,Option.bind_some]
     have sgn : ∀ s : Int,(b.drop B).take 1 = [s] → B + 1 ≤ b.length ∧ (b.take (B + 1)).drop B = [s] := by
      intro s hat
      have := take_len hat
      rw [List.length_drop] at this
      simp only [List.length_cons,List.length_nil] at this
      refine ⟨by omega,?_⟩
      rw [List.drop_take,Nat.add_sub_cancel_left,hat]
     have tail : ∀ (s : Int),byteB [s] = true → (b.drop B).take 1 = [s] → valW (b.drop B) = valQ s (b.drop (B + 1)) →
      ((if (0 : Int) ≤ IntKind.i64.wrap ((B : Int) + 1) then (if IntKind.i64.wrap ((B : Int) + 1) ≤ (b.length : Int) then (if (0 : Int) ≤ (B : Int) then (if (B : Int) ≤ IntKind.i64.wrap ((B : Int) + 1) then (if IntKind.i64.wrap ((B : Int) + 1) ≤ (b.length : Int) then ((lim fun k => Q.dossierref05_find.f k (List.drop (IntKind.i64.wrap ((B : Int) + 1)).toNat b) (ofBytes (List.drop B (List.take (IntKind.i64.wrap ((B : Int) + 1)).toNat b)))).bind fun v9 => (if (0 : Int) ≤ IntKind.i64.wrap ((B : Int) + 1) then (if IntKind.i64.wrap ((B : Int) + 1) ≤ (b.length : Int) then ((lim fun k => Q.dossierref05_find.f k (List.drop (IntKind.i64.wrap ((B : Int) + 1)).toNat b) (ByteArray.mk #[(60 : UInt8)])).bind fun v10 => (if (if decide (v9 < (0 : Int)) = true then true else if decide (v10 ≥ (0 : Int)) = true then decide (v10 < v9) else false) = true then okA (⟨#[]⟩,⟨#[]⟩,0,11) else (if (0 : Int) ≤ IntKind.i64.wrap ((B : Int) + 1) then (if IntKind.i64.wrap ((B : Int) + 1) ≤ IntKind.i64.wrap (IntKind.i64.wrap ((B : Int) + 1) + v9) then (if IntKind.i64.wrap (IntKind.i64.wrap ((B : Int) + 1) + v9) ≤ (b.length : Int) then ((resX (List.drop (IntKind.i64.wrap ((B : Int) + 1)).toNat (List.take (IntKind.i64.wrap (IntKind.i64.wrap ((B : Int) + 1) + v9)).toNat b)) true).bind fun v11 => okA (ofBytes (List.take (Xm.fullL b) b),v11.1,IntKind.i64.wrap (IntKind.i64.wrap ((B : Int) + v9) + 2),v11.2.2)) else none) else none) else none))) else none) else none)) else none) else none) else none) else none) else none)) = okA (tailA b.length (b.take (Xm.fullL b)) (valW (b.drop B))) := by
      intro s hs0 hat hv
      obtain ⟨hB1,hsg⟩ := sgn s hat
      have hu := okB_drop hs (B + 1)
      have hul : (b.drop (B + 1)).length = b.length - (B + 1) := List.length_drop ..
      rw [wid ((B : Int) + 1) (by omega),if_pos (by omega),if_pos (by omega),if_pos (by omega),if_pos (by omega),if_pos (by omega),show ((B : Int) + 1).toNat = B + 1 by omega,hsg,
       find_to hu.1 _ [s] (toBytes_of hs0) (by simp) hu.2,Option.bind_some,if_pos (by omega),if_pos (by omega),find_to hu.1 _ [60] rfl (by decide) hu.2,Option.bind_some,hv,← rattr_tail hs hB1 s (b.take (Xm.fullL b))]
      obtain ⟨q1,q2⟩ := bIndex_lt (l := b.drop (B + 1)) (m := [s])
      rw [hul] at q2
      by_cases cc : (if decide (bIndexW (b.drop (B + 1)) [s] < (0 : Int)) = true then true else if decide (bIndexW (b.drop (B + 1)) [60] ≥ (0 : Int)) = true then decide (bIndexW (b.drop (B + 1)) [60] < bIndexW (b.drop (B + 1)) [s]) else false) = true
      · rw [if_pos cc,if_pos cc]
      · rw [if_neg cc,if_neg cc]
        have hge : 0 ≤ bIndexW (b.drop (B + 1)) [s] := by
         rcases Int.lt_or_le (bIndexW (b.drop (B + 1)) [s]) 0 with h9 | h9
         · exact absurd (by rw [if_pos (decide_eq_true h9)]) cc
         · exact h9
        rw [if_neg (by omega)] at q2
        simp only [List.length_cons,List.length_nil] at q2
        rw [if_pos (by omega),wid ((B : Int) + 1 + bIndexW (b.drop (B + 1)) [s]) (by omega),wid ((B : Int) + bIndexW (b.drop (B + 1)) [s]) (by omega),wid ((B : Int) + bIndexW (b.drop (B + 1)) [s] + 2) (by omega),if_pos (by omega),if_pos (by omega),show ((B : Int) + 1 + bIndexW (b.drop (B + 1)) [s]).toNat = B + 1 + (bIndexW (b.drop (B + 1)) [s]).toNat by omega,List.drop_take,Nat.add_sub_cancel_left]
     by_cases c2 : (b.drop B).take 1 = [39]
     · rw [if_neg (by rw [decide_eq_true c2]; decide)]
       exact tail 39 (by decide) c2 (by unfold valW; rw [if_pos c2,List.drop_drop])
     · rw [if_pos (by rw [decide_eq_false c2]; rfl),if_pos (by omega),if_pos (by omega),beg_at (byteB_drop hs.1 B) _ [34] 1 rfl rfl,Option.bind_some]
       by_cases c3 : (b.drop B).take 1 = [34]
       · rw [if_neg (by rw [true_and_b,decide_eq_true c3]; decide)]
         exact tail 34 (by decide) c3 (by unfold valW; rw [if_neg c2,if_pos c3,List.drop_drop])
       · rw [if_pos (by rw [true_and_b,decide_eq_false c3]; rfl)]
         unfold valW tailA
         rw [if_neg c2,if_neg c3]
         dsimp only
         rw [if_pos rfl]
         rfl
   · cases h
 · cases g
theorem rattrX_ok {l : List Int} (h : okB l) : rattrX l = some (rattrW l) := by unfold rattrX; rw [if_pos h]
theorem rattrW_err {l : List Int} (h : okB l) : (rattrW l).2.2.2 = (attrW l).2.2.2 ∧ ((attrW l).2.2.2 = 0 → rattrW l = (ofBytes (attrW l).1,ofBytes (attrW l).2.1,(l.length : Int) - (attrW l).2.2.1.length,0)) := by
 unfold rattrW
 by_cases c : (attrW l).2.2.2 = 11
 · rw [if_pos c,c]
   exact ⟨rfl,fun q => by cases q⟩
 · rw [if_neg c]
   exact ⟨rfl,fun q => by rw [q]⟩
theorem valQ_drop (s : Int) (l : List Int) : ∃ m,(valQ s l).2.2 = l.drop m := by
 unfold valQ
 split
 · exact ⟨_,rfl⟩
 · exact ⟨l.length,(List.drop_length ..).symm⟩
theorem valW_drop (l : List Int) : ∃ m,(valW l).2.2 = l.drop m := by
 unfold valW
 split
 · obtain ⟨m,hm⟩ := valQ_drop 39 (l.drop 1); exact ⟨1 + m,by rw [hm,List.drop_drop]⟩
 · split
   · obtain ⟨m,hm⟩ := valQ_drop 34 (l.drop 1); exact ⟨1 + m,by rw [hm,List.drop_drop]⟩
   · exact ⟨0,rfl⟩
theorem eqW_drop (l : List Int) : ∃ m,(eqW l).2 = l.drop m := by
 unfold eqW
 split
 · exact ⟨1,rfl⟩
 · exact ⟨0,rfl⟩
theorem attrW_drop (l : List Int) : ∃ m,(attrW l).2.2.1 = l.drop m := by
 obtain ⟨m1,h1⟩ := eqW_drop (off (l.drop (Xm.fullL l)))
 obtain ⟨m2,h2⟩ := valW_drop (off (eqW (off (l.drop (Xm.fullL l)))).2)
 have : ∃ m,(valW (off (eqW (off (l.drop (Xm.fullL l)))).2)).2.2 = l.drop m := by
  rw [h2]
  unfold off at h1 ⊢
  rw [h1,List.drop_drop,List.drop_drop,List.drop_drop,List.drop_drop]
  exact ⟨_,rfl⟩
 obtain ⟨m,hm⟩ := this
 refine ⟨m,?_⟩
 unfold attrW
 dsimp only
 split <;> exact hm
theorem ropen_L (n : Nat) (b : List Int) (x2 : Int) (x3 : ByteArray) (x4 : List (Ty.den U0 (Ty.str.pair Ty.str))) (x5 : Bool) (x6 : ByteArray) (nm : ByteArray) (hb : okB b) : ∀ (d k i : Nat) (xs : List (ByteArray × ByteArray)),i ≤ b.length → b.length - i < d → xs.length + (b.length - i) ≤ 8000000 →
 dossierref05_opening.L1 n (k + d + 1) b b (i : Int) x2 x3 x4 x5 x6 1 nm xs false ⟨#[]⟩ = (fun o : List (ByteArray × ByteArray) × Bool × List Int × Int => if o.2.2.2 ≠ 0 then (some (.ret (.tup [.agg [.int .i64 0,.str ⟨#[]⟩,.sl (Ty.str.pair Ty.str) [] .no,.bool false,.str ⟨#[]⟩],.int .i64 0,.int .i64 o.2.2.2]),lcRet [] [] 0) : Option (Rr U0))
   else some (.ret (.tup [.agg [.int .i64 1,.str nm,.sl (Ty.str.pair Ty.str) o.1 .no,.bool o.2.1,.str ⟨#[]⟩],.int .i64 ((b.length : Int) - o.2.2.1.length),.int .i64 0]),lcRet [] [] 0)) (openGo d (b.drop i) xs) := by
 intro d
 have hb2 := hb.2
 induction d with
 | zero => intro k i xs _ h1; omega
 | succ d ih =>
  intro k i xs hi h1 h2
  have h0 := okB_drop hb i
  have hdl : (b.drop i).length = b.length - i := List.length_drop ..
  have hbl := blankN_le (b.drop i)
  have ho : off (b.drop i) = b.drop (i + blankN (b.drop i)) := by unfold off; rw [List.drop_drop]
  rw [show k + (d + 1) + 1 = (k + d + 1) + 1 from rfl,dossierref05_opening.L1_s,if_pos (by omega),if_pos (by omega),Int.toNat_natCast,blanks_lim h0.1 h0.2,Option.bind_some,openGo,ho]
  have hg0 : blankN (b.drop i) = 0 ∨ 0 < blankN (b.drop i) := by omega
  generalize hg : blankN (b.drop i) = g at hbl hg0
  have e1 : (i : Int) + (g : Int) = ((i + g : Nat) : Int) := by omega
  have hbg := byteB_drop hb.1 (i + g)
  have hgl : (b.drop (i + g)).length = b.length - (i + g) := List.length_drop ..
  rw [e1,wid ((i + g : Nat) : Int) (by omega),if_pos (by omega),if_pos (by omega),Int.toNat_natCast,beg_at hbg _ [62] 1 rfl rfl,Option.bind_some]
  dsimp only
  by_cases c1 : (b.drop (i + g)).take 1 = [62]
  · have := take_len c1
    rw [hgl] at this
    simp only [List.length_cons,List.length_nil] at this
    have e2 : ((i + g : Nat) : Int) + 1 = (b.length : Int) - (((b.drop (i + g)).drop 1).length : Int) := by rw [List.length_drop,hgl]; omega
    rw [if_pos (decide_eq_true c1),if_pos c1,wid _ (by omega),if_neg (fun q => q rfl),e2]
  rw [if_neg (by rw [decide_eq_true_eq]; exact c1),if_neg c1,beg_at hbg _ [47,62] 2 rfl rfl,Option.bind_some]
  by_cases c2 : (b.drop (i + g)).take 2 = [47,62]
  · have := take_len c2
    rw [hgl] at this
    simp only [List.length_cons,List.length_nil] at this
    have e2 : ((i + g : Nat) : Int) + 2 = (b.length : Int) - (((b.drop (i + g)).drop 2).length : Int) := by rw [List.length_drop,hgl]; omega
    rw [if_pos (decide_eq_true c2),if_pos c2,wid _ (by omega),if_neg (fun q => q rfl),e2]
  rw [if_neg (by rw [decide_eq_true_eq]; exact c2),if_neg c2]
  by_cases c3 : g = 0
  · rw [if_pos (by rw [c3]; rfl),if_pos c3]
    dsimp only
    rw [if_pos (show (11 : Int) ≠ 0 by decide)]
  have hox := okB_drop hb (i + g)
  obtain ⟨r1,r2⟩ := rattrW_err hox
  have hal := attrW_len (b.drop (i + g))
  rw [hgl] at hal
  rw [if_neg (by rw [beq_iff_eq]; omega),if_neg c3,rattrX_ok hox,Option.bind_some,r1]
  by_cases c4 : (attrW (b.drop (i + g))).2.2.2 = 0
  · rw [if_neg (by rw [c4]; decide),if_pos c4,r2 c4]
    dsimp only
    have hrest : (attrW (b.drop (i + g))).2.2.1 = b.drop (b.length - (attrW (b.drop (i + g))).2.2.1.length) := by
     obtain ⟨m,hm⟩ := attrW_drop (b.drop (i + g))
     rw [hm,List.drop_drop]
     by_cases hmm : i + g + m ≤ b.length
     · rw [List.length_drop]
       congr 1
       omega
     · rw [List.drop_of_length_le (by omega),List.length_nil,Nat.sub_zero,List.drop_length]
    generalize hR : (attrW (b.drop (i + g))).2.2.1 = R at hal hrest
    rw [if_pos (by simp only [List.length_cons,List.length_nil,most]; omega),hgl,wid ((g : Int) + (((b.length - (i + g) : Nat) : Int) - (R.length : Int))) (by omega),wid _ (by omega),
     show (i : Int) + ((g : Int) + (((b.length - (i + g) : Nat) : Int) - (R.length : Int))) = ((b.length - R.length : Nat) : Int) by omega]
    have h9 := ih k (b.length - R.length) (xs ++ [(ofBytes (attrW (b.drop (i + g))).1,ofBytes (attrW (b.drop (i + g))).2.1)]) (by omega) (by omega) (by rw [List.length_append]; simp only [List.length_cons,List.length_nil]; omega)
    rw [← hrest] at h9
    exact h9
  · rw [if_pos (bne_iff_ne.2 c4),if_neg c4]
    dsimp only
    rw [if_pos c4]
theorem dossierref05_opening.ok : AllOk specs_dossierref05_opening := okS (cx := cx_dossierref05_opening) rfl dossierref05_attribute.ok (by kernel_rfl) fun args cs n K r g => by
 unfold dossierref05_opening.spec at g
 dsimp only [lcSt] at g
 split at g
 · rename_i b
   obtain ⟨v,h,h2⟩ := bind2 g
   clear g
   refine okG h2 ?_
   clear h2
   refine ⟨0 + (b.length + 1) + 1,?_⟩
   rw [dossierref05_opening.top]
   unfold ropenX at h
   split at h
   · rename_i hs
     obtain rfl := Option.some.inj h
     obtain ⟨hs,h1⟩ := hs
     have hb2 := hs.2
     have hl1 := take_len h1
     simp only [List.length_cons,List.length_nil] at hl1
     have hu := okB_drop hs 1
     have hle := full_le hu.1
     rw [List.length_drop] at hle
     rw [if_pos (by omega),show Int.toNat 1 = 1 from rfl,rname_lim hu.1 hu.2,Option.bind_some]
     unfold openW
     dsimp only
     rw [if_pos h1]
     by_cases c : Xm.fullL (b.drop 1) = 0
     · rw [if_pos (by rw [beq_iff_eq]; omega),if_pos c]
       rfl
     · have e1 : (1 : Int) + (Xm.fullL (b.drop 1) : Int) = ((1 + Xm.fullL (b.drop 1) : Nat) : Int) := by omega
       rw [if_neg (by rw [beq_iff_eq]; omega),if_neg c,e1,wid _ (by omega),if_pos (by omega),if_pos (by omega),Int.toNat_natCast,List.drop_take,Nat.add_sub_cancel_left]
       refine (ropen_L _ b _ _ _ _ _ _ hs (b.length + 1) 0 (1 + Xm.fullL (b.drop 1)) [] (by omega) (by omega) (by simp only [List.length_nil]; omega)).trans ?_
       rw [List.drop_drop]
       generalize openGo (b.length + 1) (b.drop (1 + Xm.fullL (b.drop 1))) [] = o
       unfold ofTok
       dsimp only
       by_cases c2 : o.2.2.2 ≠ 0
       · rw [if_pos c2,if_pos c2]
         rfl
       · rw [if_neg c2,if_neg c2]
         rfl
   · cases h
 · cases g
theorem ropenX_ok {l : List Int} (h : okB l) (h1 : l.take 1 = [60]) : ropenX l = some (flatT (ofTok l (openW l))) := by unfold ropenX; rw [if_pos ⟨h,h1⟩]
theorem dossierref05_token.ok : AllOk specs_dossierref05_token := okS (cx := cx_dossierref05_token) rfl dossierref05_opening.ok (by kernel_rfl) fun args cs n K r g => by
 unfold dossierref05_token.spec at g
 dsimp only [lcSt] at g
 split at g
 · rename_i b
   obtain ⟨v,h,h2⟩ := bind2 g
   clear g
   refine okG h2 ?_
   clear h2
   refine ⟨0,?_⟩
   rw [dossierref05_token.top]
   unfold rtokX at h
   split at h
   · rename_i hs
     obtain rfl := Option.some.inj h
     obtain ⟨hs,hl0⟩ := hs
     have hb2 := hs.2
     rw [beg_at hs.1 _ [60,33,91,67,68,65,84,65,91] 9 rfl rfl,Option.bind_some]
     unfold tokW
     rw [if_neg hl0]
     by_cases c1 : b.take 9 = [60,33,91,67,68,65,84,65,91]
     · have hl9 := take_len c1
       simp only [List.length_cons,List.length_nil] at hl9
       have hu := okB_drop hs 9
       have hul : (b.drop 9).length = b.length - 9 := List.length_drop ..
       rw [if_pos (decide_eq_true c1),if_pos c1,if_pos (by omega),show Int.toNat 9 = 9 from rfl,find_to hu.1 _ [93,93,62] rfl (by decide) hu.2,Option.bind_some]
       unfold litW
       dsimp only
       rw [if_pos c1]
       obtain ⟨q1,q2⟩ := bIndex_lt (l := b.drop 9) (m := [93,93,62])
       rw [hul] at q2
       by_cases c : 0 ≤ bIndexW (b.drop 9) [93,93,62]
       · obtain ⟨k,hk⟩ : ∃ k : Nat,bIndexW (b.drop 9) [93,93,62] = k := ⟨(bIndexW (b.drop 9) [93,93,62]).toNat,by omega⟩
         rw [if_neg (by omega),hk] at q2
         simp only [List.length_cons,List.length_nil] at q2
         rw [hk,if_neg (by rw [decide_eq_true_eq]; omega),if_pos (show (0 : Int) ≤ (k : Int) by omega),wid (9 + (k : Int)) (by omega),if_pos (by omega),if_pos (by omega),show (9 + (k : Int)).toNat = 9 + k by omega,List.drop_take,Nat.add_sub_cancel_left,linesX_ok (okB_take hu k),Option.bind_some,Int.toNat_natCast]
         unfold ofTok
         dsimp only
         have e2 : IntKind.i64.wrap ((k : Int) + 12) = (b.length : Int) - (((b.drop 9).drop (k + 3)).length : Int) := by rw [wid _ (by omega),List.length_drop,hul]; omega
         rw [if_neg (fun q => q rfl),e2]
         rfl
       · rw [if_pos (decide_eq_true (by omega)),if_neg c]
         rfl
     rw [if_neg (by rw [decide_eq_true_eq]; exact c1),if_neg c1,beg_at hs.1 _ [60,33,68,79,67,84,89,80,69] 9 rfl rfl,Option.bind_some]
     by_cases c2 : b.take 9 = [60,33,68,79,67,84,89,80,69]
     · rw [if_pos (decide_eq_true c2),if_pos c2]
       rfl
     rw [if_neg (by rw [decide_eq_true_eq]; exact c2),if_neg c2,beg_at hs.1 _ [60,47] 2 rfl rfl,Option.bind_some]
     by_cases c3 : b.take 2 = [60,47]
     · have hl2 := take_len c3
       simp only [List.length_cons,List.length_nil] at hl2
       have hu := okB_drop hs 2
       have hul : (b.drop 2).length = b.length - 2 := List.length_drop ..
       have hle := full_le hu.1
       rw [hul] at hle
       rw [if_pos (decide_eq_true c3),if_pos c3,if_pos (by omega),show Int.toNat 2 = 2 from rfl,rname_lim hu.1 hu.2,Option.bind_some]
       unfold closeW
       dsimp only
       rw [if_pos c3,List.drop_drop]
       generalize Xm.fullL (b.drop 2) = t at hle
       have ht := okB_drop hs (2 + t)
       have htl : (b.drop (2 + t)).length = b.length - (2 + t) := List.length_drop ..
       have hbl := blankN_le (b.drop (2 + t))
       rw [htl] at hbl
       have e1 : (2 : Int) + (t : Int) = ((2 + t : Nat) : Int) := by omega
       rw [e1,wid ((2 + t : Nat) : Int) (by omega),if_pos (by omega),if_pos (by omega),Int.toNat_natCast,blanks_lim ht.1 ht.2,Option.bind_some]
       by_cases c : t = 0
       · rw [if_pos (by rw [beq_iff_eq]; omega),if_pos c]
         rfl
       have ho : off (b.drop (2 + t)) = b.drop (2 + t + blankN (b.drop (2 + t))) := by unfold off; rw [List.drop_drop]
       rw [if_neg (by rw [beq_iff_eq]; omega),if_neg c,ho]
       generalize blankN (b.drop (2 + t)) = g at hbl
       have e2 : IntKind.i64.wrap (IntKind.i64.wrap ((t : Int) + 2) + (g : Int)) = ((2 + t + g : Nat) : Int) := by rw [wid ((t : Int) + 2) (by omega),wid _ (by omega)]; omega
       rw [e2,if_pos (by omega),if_pos (by omega),Int.toNat_natCast,beg_at (byteB_drop hs.1 _) _ [62] 1 rfl rfl,Option.bind_some]
       by_cases c5 : (b.drop (2 + t + g)).take 1 = [62]
       · have hl3 := take_len c5
         rw [List.length_drop] at hl3
         simp only [List.length_cons,List.length_nil] at hl3
         rw [if_neg (by rw [false_or_b,decide_eq_true c5]; decide),if_pos c5,if_pos (by omega),if_pos (by omega),List.drop_take,Nat.add_sub_cancel_left]
         unfold ofTok
         dsimp only
         have e3 : IntKind.i64.wrap (((2 + t + g : Nat) : Int) + 1) = (b.length : Int) - (((b.drop (2 + t + g)).drop 1).length : Int) := by rw [wid _ (by omega),List.length_drop,List.length_drop]; omega
         rw [if_neg (fun q => q rfl),e3]
         rfl
       · rw [if_pos (by rw [false_or_b,decide_eq_false c5]; rfl),if_neg c5]
         rfl
     rw [if_neg (by rw [decide_eq_true_eq]; exact c3),if_neg c3,beg_at hs.1 _ [60] 1 rfl rfl,Option.bind_some]
     by_cases c4 : b.take 1 = [60]
     · rw [if_pos (decide_eq_true c4),if_pos c4,ropenX_ok hs c4,Option.bind_some]
     rw [if_neg (by rw [decide_eq_true_eq]; exact c4),if_neg c4,find_to hs.1 _ [60] rfl (by decide) hs.2,Option.bind_some]
     have hle := textN_le b
     have ht := okB_take hs (textN b)
     have fin : ∀ (m : Int),m = (textN b : Int) → ((lim fun k => Q.dossierref05_find.f k (List.take m.toNat b) (ByteArray.mk #[(93 : UInt8),(93 : UInt8),(62 : UInt8)])).bind fun v11 => (if decide (v11 ≥ (0 : Int)) = true then some (Res.ret (AVal.tup [AVal.agg [AVal.int IntKind.i64 (0 : Int),AVal.str (ByteArray.mk #[]),AVal.sl (Ty.str.pair Ty.str) [] Perm.no,AVal.bool false,AVal.str (ByteArray.mk #[])],AVal.int IntKind.i64 (0 : Int),AVal.int IntKind.i64 (11 : Int)]),lcRet ([]) ([]) ((0 : Nat))) else (if (0 : Int) ≤ m then (if m ≤ (b.length : Int) then ((resX (List.take m.toNat b) false).bind fun v12 => (if (v12.2.2 != (0 : Int)) = true then some (Res.ret (AVal.tup [AVal.agg [AVal.int IntKind.i64 (0 : Int),AVal.str (ByteArray.mk #[]),AVal.sl (Ty.str.pair Ty.str) [] Perm.no,AVal.bool false,AVal.str (ByteArray.mk #[])],AVal.int IntKind.i64 (0 : Int),AVal.int IntKind.i64 v12.2.2]),lcRet ([]) ([]) ((0 : Nat))) else some (Res.ret (AVal.tup [AVal.agg [AVal.int IntKind.i64 (3 : Int),AVal.str (ByteArray.mk #[]),AVal.sl (Ty.str.pair Ty.str) [] Perm.no,AVal.bool false,AVal.str v12.1],AVal.int IntKind.i64 m,AVal.int IntKind.i64 (0 : Int)]),lcRet ([]) ([]) ((0 : Nat))))) else none) else none))) =
      (fun v : Int × ByteArray × List (ByteArray × ByteArray) × Bool × ByteArray × Int × Int => (some (.ret (.tup [.agg [.int .i64 v.1,.str v.2.1,.sl (Ty.str.pair Ty.str) v.2.2.1 .no,.bool v.2.2.2.1,.str v.2.2.2.2.1],.int .i64 v.2.2.2.2.2.1,.int .i64 v.2.2.2.2.2.2]),lcRet [] [] 0) : Option (Rr U0))) (flatT (ofTok b (textW b))) := by
      rintro _ rfl
      rw [Int.toNat_natCast,find_to ht.1 _ [93,93,62] rfl (by decide) ht.2,Option.bind_some]
      have q1 := bIndex_ge (b.take (textN b)) [93,93,62]
      unfold textW
      by_cases c : bIndexW (b.take (textN b)) [93,93,62] = -1
      · rw [if_neg (by rw [decide_eq_true_eq]; omega),if_pos c,if_pos (by omega),if_pos (by omega),resX_ok ht,Option.bind_some]
        unfold ofTok
        dsimp only
        by_cases c5 : (resW (b.take (textN b)) false).2.2 = 0
        · have e3 : (textN b : Int) = (b.length : Int) - ((b.drop (textN b)).length : Int) := by rw [List.length_drop]; omega
          rw [if_neg (by rw [bne_iff_ne]; exact fun q => q c5),if_neg (fun q => q c5),← e3]
          rfl
        · rw [if_pos (bne_iff_ne.2 c5),if_pos c5]
          rfl
      · rw [if_pos (decide_eq_true (by omega)),if_neg c]
        rfl
     obtain ⟨q1,q2⟩ := bIndex_lt (l := b) (m := [60])
     by_cases c : bIndexW b [60] < 0
     · rw [if_pos (decide_eq_true c),if_pos (by omega),if_pos (by omega)]
       exact fin _ (by unfold textN; rw [if_pos c])
     · rw [if_neg (c := bIndexW b [60] = -1) (by omega)] at q2
       simp only [List.length_cons,List.length_nil] at q2
       rw [if_neg (by simpa using c),if_pos (by omega),if_pos (by omega)]
       exact fin _ (by unfold textN; rw [if_neg c]; omega)
   · cases h
 · cases g
theorem rtokX_ok {l : List Int} (h : okB l) (h1 : l.length ≠ 0) : rtokX l = some (flatT (ofTok l (tokW l))) := by unfold rtokX; rw [if_pos ⟨h,h1⟩]
theorem dossierref05_Next.ok : AllOk specs_dossierref05_Next := okS (cx := cx_dossierref05_Next) rfl dossierref05_token.ok (by kernel_rfl) fun args cs n K r g => by
 unfold dossierref05_Next.spec at g
 dsimp only [lcSt] at g
 split at g
 · rename_i b p
   obtain ⟨v,h,h2⟩ := bind2 g
   clear g
   refine okG h2 ?_
   clear h2
   refine ⟨0,?_⟩
   rw [dossierref05_Next.top]
   unfold rnextX nextX at h
   split at h
   · rename_i hs
     obtain rfl := Option.some.inj h
     have hb2 := hs.2
     unfold skipX
     rw [if_pos hs,Option.bind_some]
     unfold nextW
     dsimp only
     by_cases c : (skipW b p).2 = 0
     · obtain ⟨k0,k1,_⟩ := skipW_in c
       rw [if_neg (c := ((skipW b p).2 != 0) = true) (by rw [bne_iff_ne]; exact fun q => q c),if_neg (c := (skipW b p).2 ≠ 0) (fun q => q c)]
       generalize (skipW b p).1 = i at k0 k1
       obtain ⟨i,rfl⟩ : ∃ j : Nat,i = j := ⟨i.toNat,by omega⟩
       rw [Int.toNat_natCast]
       by_cases c0 : i = b.length
       · rw [if_pos (by rw [beq_iff_eq]; omega),List.drop_of_length_le (by omega)]
         have e : tokW [] = (noTok,[],0) := by unfold tokW; rw [if_pos (show ([] : List Int).length = 0 from rfl)]
         rw [e]
         dsimp only
         rw [if_neg (fun q => q rfl),c0]
         show _ = some (Res.ret (AVal.tup [_,AVal.int IntKind.i64 ((b.length : Int) - ((0 : Nat) : Int)),_]),_)
         rw [show (b.length : Int) - ((0 : Nat) : Int) = (b.length : Int) by omega]
         rfl
       · have hdl : (b.drop i).length = b.length - i := List.length_drop ..
         have hlen := tokW_len (b.drop i)
         rw [hdl] at hlen
         rw [if_neg (by rw [beq_iff_eq]; omega),if_pos k0,if_pos k1,rtokX_ok (okB_drop hs i) (by omega),Option.bind_some]
         unfold ofTok
         rw [hdl]
         generalize tokW (b.drop i) = t at hlen
         by_cases c2 : t.2.2 = 0
         · rw [if_neg (c := t.2.2 ≠ 0) (fun q => q c2),if_neg (c := t.2.2 ≠ 0) (fun q => q c2)]
           have e : IntKind.i64.wrap ((i : Int) + (((b.length - i : Nat) : Int) - (t.2.1.length : Int))) = (b.length : Int) - t.2.1.length := by rw [wid _ (by omega)]; omega
           show (if ((0 : Int) != 0) = true then _ else some (Res.ret (AVal.tup [_,AVal.int IntKind.i64 (IntKind.i64.wrap ((i : Int) + (((b.length - i : Nat) : Int) - (t.2.1.length : Int)))),_]),_)) = _
           rw [if_neg (by decide),e]
           rfl
         · rw [if_pos (c := t.2.2 ≠ 0) c2,if_pos (c := t.2.2 ≠ 0) c2]
           show (if (t.2.2 != 0) = true then _ else _) = _
           rw [if_pos (bne_iff_ne.2 c2)]
           rfl
     · rw [if_pos (bne_iff_ne.2 c),if_pos c]
       rfl
   · cases h
 · cases g
end Go.Proofs.YtccfmfifnbnlmaaGreatDoor.Ev
end
section
/- What is known of each function: its word; and the contexts in which it is reckoned. -/
-- prev dossierref05_Next
-- irreducible cloneX
set_option linter.unusedVariables false
namespace Go.Proofs.YtccfmfifnbnlmaaGreatDoor.Ev
open Go
def cloneX (b : List Int) : Option (List Int) := if b.length ≤ 8000000 then some b else none
noncomputable def cx_bytes_CloneN := cxOf specs_dossierref05_Next
noncomputable def bytes_CloneN.spec : Spec := fun args st K => match args,st.box,st.nt with
 | [.sl (.int .u8) b .nn],[],0 => (cloneX b).bind fun v => K (.ret (.sl (.int .u8) (v) .no)) (lcRet [] [] 0)
 | _,_,_ => none
noncomputable def specs_bytes_CloneN : SpecL := (11,false,bytes_CloneN.spec) :: specs_dossierref05_Next
noncomputable def cx_bytes_CloneZ := cxOf specs_bytes_CloneN
noncomputable def bytes_CloneZ.spec : Spec := fun args st K => match args,st.box,st.nt with
 | [.sl (.int .u8) [] .nil],[],0 => (cloneX []).bind fun v => K (.ret (.sl (.int .u8) (v) .no)) (lcRet [] [] 0)
 | _,_,_ => none
noncomputable def specs_bytes_CloneZ : SpecL := (11,false,bytes_CloneZ.spec) :: specs_bytes_CloneN
end Go.Proofs.YtccfmfifnbnlmaaGreatDoor.Ev
end
section
/- What each function comes to, one step of it at a time: the kernel's own reckoning. -/
set_option linter.unusedVariables false
set_option maxRecDepth 100000
namespace Go.Proofs.YtccfmfifnbnlmaaGreatDoor.Ev
open Go Go.RowKit
open Go.IntKind (i64 u8 i32 u64)
theorem bytes_CloneN.top (n : Nat) (b : List Int) : callX false (fnF cx_bytes_CloneN noCalls n 11) ([.sl (.int .u8) b Perm.nn]) (lcSt [] 0) out = if (([] : List Int).length + b.length) * 1 ≤ most then some (.ret (.sl (.int .u8) (([] : List Int) ++ b) .no),lcRet [] [] 0) else none := by kernel_rfl
theorem bytes_CloneZ.top (n : Nat) : callX false (fnF cx_bytes_CloneZ noCalls n 11) ([.sl (.int .u8) [] Perm.nil]) (lcSt [] 0) out = some (.ret (.sl (.int .u8) [] .no),lcRet [] [] 0) := by kernel_rfl
end Go.Proofs.YtccfmfifnbnlmaaGreatDoor.Ev
end
section
/- The evaluator's trees are the functions: a copy of bytes. -/
set_option linter.unusedVariables false
set_option linter.unusedSimpArgs false
namespace Go.Proofs.YtccfmfifnbnlmaaGreatDoor.Ev
open Go Go.RowKit Go.Proofs.YtccfmfifnbnlmaaGreatDoorW.PrintWords
theorem bytes_CloneN.ok : AllOk specs_bytes_CloneN := okS (cx := cx_bytes_CloneN) rfl dossierref05_Next.ok (by kernel_rfl) fun args cs n K r g => by
 unfold bytes_CloneN.spec at g
 dsimp only [lcSt] at g
 split at g
 · rename_i b
   obtain ⟨v,h,h2⟩ := bind2 g
   clear g
   refine okG h2 ?_
   clear h2
   refine ⟨0,?_⟩
   rw [bytes_CloneN.top]
   unfold cloneX at h
   split at h
   · rename_i hs
     obtain rfl := Option.some.inj h
     rw [if_pos (by simp only [List.length_nil,most]; omega)]
     rfl
   · cases h
 · cases g
theorem bytes_CloneZ.ok : AllOk specs_bytes_CloneZ := okS (cx := cx_bytes_CloneZ) rfl bytes_CloneN.ok (by kernel_rfl) fun args cs n K r g => by
 unfold bytes_CloneZ.spec at g
 dsimp only [lcSt] at g
 split at g
 · obtain ⟨v,h,h2⟩ := bind2 g
   clear g
   refine okG h2 ?_
   clear h2
   refine ⟨0,?_⟩
   rw [bytes_CloneZ.top]
   unfold cloneX at h
   split at h
   · obtain rfl := Option.some.inj h
     rfl
   · cases h
 · cases g
end Go.Proofs.YtccfmfifnbnlmaaGreatDoor.Ev
end
section
/- bytes.Clone as a sealed word: whether nil or not, the bytes. -/
set_option linter.unusedVariables false
namespace Go.Proofs.YtccfmfifnbnlmaaGreatDoor.Ev
open Go
def bcloneS : Spec := fun args st K => match args,st.box,st.nt with
 | [.sl (.int .u8) b _],[],0 => (cloneX b).bind fun v => K (.ret (.sl (.int .u8) v .no)) (lcRet [] [] 0)
 | _,_,_ => none
theorem bcloneS_ok : CallOkL Tryz.prog C0 11 bcloneS := by
 intro args cs n K r h S w0 g w vs ha hS
 unfold bcloneS at h
 split at h
 · rename_i b p h1 h2
   obtain rfl : cs = [] := h1
   obtain rfl : n = 0 := h2
   have hN := (bytes_CloneN.ok _ (List.mem_cons_self ..)).2
   have hZ := (bytes_CloneZ.ok _ (List.mem_cons_self ..)).2
   cases ha with
   | cons ha1 ha2 =>
    cases ha2
    cases ha1 with
    | sl0 _ => exact hZ [.sl (.int .u8) [] .nil] [] 0 K r h S w0 g w _ (.cons (.sl0 rfl) .nil) hS
    | sle _ => exact hN [.sl (.int .u8) [] .nn] [] 0 K r h S w0 g w _ (.cons (.sle rfl) .nil) hS
    | sl a1 a2 a3 a4 => exact hN [.sl (.int .u8) b .nn] [] 0 K r h S w0 g w _ (.cons (.sl a1 a2 a3 trivial) .nil) hS
 · cases h
noncomputable def specs_bcloneS : SpecL := (11,false,bcloneS) :: specs_bytes_CloneZ
theorem bcloneS.ok : AllOk specs_bcloneS := allOk_cons bytes_CloneZ.ok (fnOk_of (by kernel_rfl)) bcloneS_ok
end Go.Proofs.YtccfmfifnbnlmaaGreatDoor.Ev
end
section
/- What is known of each function: its word; and the contexts in which it is reckoned. -/
-- prev bcloneS
-- irreducible cloneX skipX nextX rnextX sameX awakeX lawX allX
set_option linter.unusedVariables false
namespace Go.Proofs.YtccfmfifnbnlmaaGreatDoor.Ev
open Go
instance : DecidableEq TokT := inferInstanceAs (DecidableEq (Int × ByteArray × List (ByteArray × ByteArray) × Bool × ByteArray))
/-- Of tokens that are the same. -/
def sameX (a b : TokT) : Option Bool := if a = b ∧ a.2.2.1.length ≤ 8000000 then some true else none
def awakeX : Option Bool := some true
def lawX (b : List Int) : Option Bool := if okB b then some true else none
def allX (b : List Int) : Option Bool := if byteB b = true then some true else none
noncomputable def cx_ref_Same := cxOf specs_bcloneS
noncomputable def ref_Same.spec : Spec := fun args st K => match args,st.box,st.nt with
 | [.agg [.int .i64 a0,.str a1,.sl (.pair .str .str) a2 .no,.bool a3,.str a4],.agg [.int .i64 b0,.str b1,.sl (.pair .str .str) b2 .no,.bool b3,.str b4]],[],0 => (sameX (a0,a1,a2,a3,a4) (b0,b1,b2,b3,b4)).bind fun v => K (.ret (.bool v)) (lcRet [] [] 0)
 | _,_,_ => none
noncomputable def specs_ref_Same : SpecL := (9,false,ref_Same.spec) :: specs_bcloneS
noncomputable def cx_law_awake := cxOf specs_ref_Same
noncomputable def law_awake.spec : Spec := fun args st K => match args,st.box,st.nt with
 | [],[],0 => (awakeX).bind fun v => K (.ret (.bool v)) (lcRet [] [] 0)
 | _,_,_ => none
noncomputable def specs_law_awake : SpecL := (10,false,law_awake.spec) :: specs_ref_Same
noncomputable def cx_law_Next := cxOf specs_law_awake
noncomputable def law_Next.spec : Spec := fun args st K => match args,st.box,st.nt with
 | [.sl (.int .u8) b .no,.int .i64 p],[],0 => (lawX b).bind fun v => K (.ret (.bool v)) (lcRet [] [] 0)
 | _,_,_ => none
noncomputable def specs_law_Next : SpecL := (4,false,law_Next.spec) :: specs_law_awake
noncomputable def cx_law_All := cxOf specs_law_Next
noncomputable def law_All.spec : Spec := fun args st K => match args,st.box,st.nt with
 | [.sl (.int .u8) b .no],[],0 => (allX b).bind fun v => K (.ret (.bool v)) (lcRet [] [] 0)
 | _,_,_ => none
noncomputable def specs_law_All : SpecL := (3,false,law_All.spec) :: specs_law_Next
end Go.Proofs.YtccfmfifnbnlmaaGreatDoor.Ev
end
section
/- What each function comes to, one step of it at a time: the kernel's own reckoning. -/
set_option linter.unusedVariables false
set_option maxRecDepth 100000
namespace Go.Proofs.YtccfmfifnbnlmaaGreatDoor.Ev
open Go Go.RowKit
open Go.IntKind (i64 u8 i32 u64)
noncomputable def ref_Same.L1 (n k0 : Nat) (a0 : Int) (a1 : ByteArray) (a2 : List (ByteArray × ByteArray)) (a3 : Bool) (a4 : ByteArray) (b0 : Int) (b1 : ByteArray) (b2 : List (ByteArray × ByteArray)) (b3 : Bool) (b4 : ByteArray) (j0 j1 j2 : Int) (j3 : ByteArray) (j4 : List (ByteArray × ByteArray)) (j5 : Bool) (j6 : ByteArray) (j7 : Int) (j8 : ByteArray) (j9 : List (ByteArray × ByteArray)) (j10 : Bool) (j11 : ByteArray) : Option (Rr U0) := loopF cx_ref_Same noCalls k0 (2) ([(2,false),(3,false),(43,false),(44,false)]) ((siteC (Tryz.f9.body.getD .skip) [1,1,0,1,0]).getD .skip) (siteK cx_ref_Same noCalls n [] (Tryz.f9.body.getD .skip) [1,1,0,1,0] (bodyK cx_ref_Same Tryz.f9 (lcSt [] 0) (callK false [] [] (lcSt [] 0) out))) (St.mk [(2,.ptr 0 0),(3,.ptr 1 0),(43,.int .i64 j0),(44,.int .i64 j1)] [[.int .i64 j2,.str j3,.sl (Ty.str.pair Ty.str) j4 .no,.bool j5,.str j6],[.int .i64 j7,.str j8,.sl (Ty.str.pair Ty.str) j9 .no,.bool j10,.str j11]] [] 0 0 0 0 0 9 [] 59)
theorem ref_Same.L1_s (n k0 : Nat) (a0 : Int) (a1 : ByteArray) (a2 : List (ByteArray × ByteArray)) (a3 : Bool) (a4 : ByteArray) (b0 : Int) (b1 : ByteArray) (b2 : List (ByteArray × ByteArray)) (b3 : Bool) (b4 : ByteArray) (j0 j1 j2 : Int) (j3 : ByteArray) (j4 : List (ByteArray × ByteArray)) (j5 : Bool) (j6 : ByteArray) (j7 : Int) (j8 : ByteArray) (j9 : List (ByteArray × ByteArray)) (j10 : Bool) (j11 : ByteArray) : ref_Same.L1 n (k0 + 1) a0 a1 a2 a3 a4 b0 b1 b2 b3 b4 j0 j1 j2 j3 j4 j5 j6 j7 j8 j9 j10 j11 = if decide (j1 < j0) = true then if 0 ≤ j1 then ((nth j4 j1.toNat).bind fun v2 => if 0 ≤ j1 then ((nth j9 j1.toNat).bind fun v3 => if (!(seq v2.1 v3.1 && (seq v2.2 v3.2 && true))) = true then some (.ret (.bool false),lcRet [] [] 0) else (ref_Same.L1 n k0 a0 a1 a2 a3 a4 b0 b1 b2 b3 b4 j0 (i64.wrap (j1 + 1)) j2 j3 j4 j5 j6 j7 j8 j9 j10 j11)) else none) else none else some (.ret (.bool true),lcRet [] [] 0) := by kernel_rfl
theorem ref_Same.top (n : Nat) (a0 : Int) (a1 : ByteArray) (a2 : List (ByteArray × ByteArray)) (a3 : Bool) (a4 : ByteArray) (b0 : Int) (b1 : ByteArray) (b2 : List (ByteArray × ByteArray)) (b3 : Bool) (b4 : ByteArray) : callX false (fnF cx_ref_Same noCalls n 9) ([.agg [.int .i64 a0,.str a1,.sl (Ty.str.pair Ty.str) a2 .no,.bool a3,.str a4],.agg [.int .i64 b0,.str b1,.sl (Ty.str.pair Ty.str) b2 .no,.bool b3,.str b4]]) (lcSt [] 0) out = if (if (if (if (if (a0 != b0) = true then true else !seq a1 b1) = true then true else !a3 == b3) = true then true else !seq a4 b4) = true then true else (↑a2.length : Int) != (↑b2.length : Int)) = true then some (.ret (.bool false),lcRet [] [] 0) else (ref_Same.L1 n n a0 a1 a2 a3 a4 b0 b1 b2 b3 b4 ((↑a2.length : Int)) 0 a0 a1 a2 a3 a4 b0 b1 b2 b3 b4) := by kernel_rfl
theorem law_awake.top (n : Nat) : callX false (fnF cx_law_awake noCalls n 10) [] (lcSt [] 0) out = ((nextX [(60 : Int),(97 : Int),(32 : Int),(98 : Int),(61 : Int),(39 : Int),(49 : Int),(39 : Int),(47 : Int),(62 : Int)] (0 : Int)).bind fun v0 => some (.ret (.bool (if (if (if (v0.2.2.2.2.2.2 == 0) = true then v0.2.2.2.2.2.1 == 10 else false) = true then v0.2.2.2.1 else false) = true then (↑v0.2.2.1.length : Int) == 1 else false)),lcRet [] [] 0)) := by kernel_rfl
theorem law_Next.top (n : Nat) (b : List Int) (p : Int) : callX false (fnF cx_law_Next noCalls n 4) ([.sl (.int .u8) b .no,.int .i64 p]) (lcSt [] 0) out = ((cloneX b).bind fun v0 => ((nextX v0 p).bind fun v1 => ((rnextX b p).bind fun v2 => ((skipX v0 p).bind fun v3 => ((skipX b p).bind fun v4 => ((sameX (v1.1,v1.2.1,v1.2.2.1,v1.2.2.2.1,v1.2.2.2.2.1) (v2.1,v2.2.1,v2.2.2.1,v2.2.2.2.1,v2.2.2.2.2.1)).bind fun v5 => if (if (if (if (if v5 = true then v1.2.2.2.2.2.1 == v2.2.2.2.2.2.1 else false) = true then v1.2.2.2.2.2.2 == v2.2.2.2.2.2.2 else false) = true then v3.1 == v4.1 else false) = true then v3.2 == v4.2 else false) = true then ((Q.bytes_Equal.f v0 b).bind fun v6 => if (if true = true then v6 else false) = true then ((awakeX).bind fun v7 => some (.ret (.bool (if true = true then v7 else false)),lcRet [] [] 0)) else some (.ret (.bool false),lcRet [] [] 0)) else some (.ret (.bool false),lcRet [] [] 0))))))) := by kernel_rfl
noncomputable def law_All.L0 (n k0 : Nat) (b : List Int) (j0 : List (Ty.den U0 (.int .u8))) (j1 : Int) : Option (Rr U0) := loopF cx_law_All noCalls k0 0 ([(0,false),(3,false)]) ((siteC (Tryz.f3.body.getD .skip) [1,1,1,0]).getD .skip) (siteK cx_law_All noCalls n [] (Tryz.f3.body.getD .skip) [1,1,1,0] (bodyK cx_law_All Tryz.f3 (lcSt [] 0) (callK false [] [] (lcSt [] 0) out))) (St.mk [(0,.sl (.int .u8) j0 .no),(3,.int .i64 j1)] [] [] 0 0 0 0 0 3 [] 52)
theorem law_All.L0_s (n k0 : Nat) (b : List Int) (j0 : List (Ty.den U0 (.int .u8))) (j1 : Int) : law_All.L0 n (k0 + 1) b j0 j1 = ((nextX j0 j1).bind fun v0 => ((rnextX j0 j1).bind fun v1 => ((sameX (v0.1,v0.2.1,v0.2.2.1,v0.2.2.2.1,v0.2.2.2.2.1) (v1.1,v1.2.1,v1.2.2.1,v1.2.2.2.1,v1.2.2.2.2.1)).bind fun v2 => if (if (if (!v2) = true then true else v0.2.2.2.2.2.1 != v1.2.2.2.2.2.1) = true then true else v0.2.2.2.2.2.2 != v1.2.2.2.2.2.2) = true then some (.ret (.bool false),lcRet [] [] 0) else if (if (v1.2.2.2.2.2.2 != 0) = true then true else v1.1 == 0) = true then ((awakeX).bind fun v3 => some (.ret (.bool v3),lcRet [] [] 0)) else (law_All.L0 n k0 b j0 v1.2.2.2.2.2.1)))) := by kernel_rfl
theorem law_All.top (n : Nat) (b : List Int) : callX false (fnF cx_law_All noCalls n 3) ([.sl (.int .u8) b .no]) (lcSt [] 0) out = if 0 ≤ if (4000 : Int) < (↑b.length : Int) then (4000 : Int) else (↑b.length : Int) then if (if (4000 : Int) < (↑b.length : Int) then (4000 : Int) else (↑b.length : Int)) ≤ (↑b.length : Int) then (law_All.L0 n n b (List.take (if (4000 : Int) < (↑b.length : Int) then (4000 : Int) else (↑b.length : Int)).toNat b) 0) else none else none := by kernel_rfl
end Go.Proofs.YtccfmfifnbnlmaaGreatDoor.Ev
end
section
/- The evaluator's trees are the functions: the laws. -/
set_option linter.unusedVariables false
set_option linter.unusedSimpArgs false
namespace Go.Proofs.YtccfmfifnbnlmaaGreatDoor.Ev
open Go Go.RowKit Go.Proofs.YtccfmfifnbnlmaaGreatDoorW.PrintWords
theorem openGo_attrs : ∀ (d : Nat) (l : List Int) (xs : List (ByteArray × ByteArray)),(openGo d l xs).1.length ≤ xs.length + l.length
 | 0,l,xs => Nat.le_add_right _ _
 | d + 1,l,xs => by
  have h1 := off_len l
  have h2 := attrW_len (off l)
  rw [openGo]
  split
  · exact Nat.le_add_right _ _
  split
  · exact Nat.le_add_right _ _
  split
  · exact Nat.le_add_right _ _
  · rename_i c3
    have h3 : (off l).length < l.length := by
     have := blankN_le l
     unfold off
     rw [List.length_drop]; omega
    dsimp only
    split
    · have := openGo_attrs d (attrW (off l)).2.2.1 (xs ++ [(ofBytes (attrW (off l)).1,ofBytes (attrW (off l)).2.1)])
      rw [List.length_append] at this
      simp only [List.length_cons,List.length_nil] at this
      omega
    · dsimp only
      rw [List.length_append]
      simp only [List.length_cons,List.length_nil]
      omega
theorem litW_attrs (l : List Int) : (litW l).1.2.2.1 = [] := by
 unfold litW
 dsimp only
 generalize (if l.take 9 = [60,33,91,67,68,65,84,65,91] then l.drop 9 else l) = u
 split <;> rfl
theorem closeW_attrs (l : List Int) : (closeW l).1.2.2.1 = [] := by
 unfold closeW
 dsimp only
 generalize (if l.take 2 = [60,47] then l.drop 2 else l) = u
 split
 · rfl
 · split <;> rfl
theorem textW_attrs (l : List Int) : (textW l).1.2.2.1 = [] := by
 unfold textW
 split <;> rfl
theorem tokW_attrs (l : List Int) : (tokW l).1.2.2.1.length ≤ l.length := by
 unfold tokW
 split
 · simp [noTok]
 split
 · rw [litW_attrs]; simp
 split
 · simp [noTok]
 split
 · rw [closeW_attrs]; simp
 split
 · have h1 := ite_len (c := l.take 1 = [60]) l 1
   unfold openW
   dsimp only
   generalize (if l.take 1 = [60] then l.drop 1 else l) = u at h1
   have h2 := openGo_attrs (l.length + 1) (u.drop (Xm.fullL u)) []
   rw [List.length_drop,List.length_nil] at h2
   split
   · simp
   · dsimp only; omega
 · rw [textW_attrs]; simp
theorem nextW_attrs (b : List Int) (p : Int) : (nextW b p).1.2.2.1.length ≤ b.length := by
 unfold nextW
 dsimp only
 split
 · simp [noTok]
 split
 · simp [noTok]
 · have := tokW_attrs (b.drop (skipW b p).1.toNat)
   rw [List.length_drop] at this
   dsimp only; omega
theorem nextX_ok {b : List Int} (h : okB b) (p : Int) : nextX b p = some (flatT (nextW b p)) := by unfold nextX; rw [if_pos h]
theorem skipX_ok {b : List Int} (h : okB b) (p : Int) : skipX b p = some (skipW b p) := by unfold skipX; rw [if_pos h]
theorem sameX_ok {b : List Int} (h : okB b) (p : Int) : sameX ((flatT (nextW b p)).1,(flatT (nextW b p)).2.1,(flatT (nextW b p)).2.2.1,(flatT (nextW b p)).2.2.2.1,(flatT (nextW b p)).2.2.2.2.1) ((flatT (nextW b p)).1,(flatT (nextW b p)).2.1,(flatT (nextW b p)).2.2.1,(flatT (nextW b p)).2.2.2.1,(flatT (nextW b p)).2.2.2.2.1) = some true := by
 unfold sameX
 rw [if_pos ⟨rfl,Nat.le_trans (nextW_attrs b p) h.2⟩]
theorem seq_self (x : ByteArray) : seq x x = true := by rw [seq_list]
theorem same_L (n : Nat) (a0 : Int) (a1 : ByteArray) (a2 : List (ByteArray × ByteArray)) (a3 : Bool) (a4 : ByteArray) (b0 : Int) (b1 : ByteArray) (b2 : List (ByteArray × ByteArray)) (b3 : Bool) (b4 : ByteArray) (hl : a2.length ≤ 8000000) : ∀ (d i k : Nat),i + d = a2.length →
 ref_Same.L1 n (k + d + 1) a0 a1 a2 a3 a4 b0 b1 b2 b3 b4 (a2.length : Int) (i : Int) a0 a1 a2 a3 a4 a0 a1 a2 a3 a4 = (some (.ret (.bool true),lcRet [] [] 0) : Option (Rr U0)) := by
 intro d
 induction d with
 | zero =>
  intro i k hi
  rw [show k + 0 + 1 = k + 1 from rfl,ref_Same.L1_s,if_neg (by rw [decide_eq_true_eq]; omega)]
 | succ d ih =>
  intro i k hi
  have hlt : i < a2.length := by omega
  rw [show k + (d + 1) + 1 = (k + d + 1) + 1 from rfl,ref_Same.L1_s,if_pos (by rw [decide_eq_true_eq]; omega),if_pos (by omega),Int.toNat_natCast,nth_get,List.getElem?_eq_getElem hlt,Option.bind_some,if_pos (by omega),Option.bind_some,seq_self,seq_self,if_neg (by decide),wid _ (by omega)]
  exact ih (i + 1) k (by omega)
theorem ref_Same.ok : AllOk specs_ref_Same := okS (cx := cx_ref_Same) rfl bcloneS.ok (by kernel_rfl) fun args cs n K r g => by
 unfold ref_Same.spec at g
 dsimp only [lcSt] at g
 split at g
 · rename_i a0 a1 a2 a3 a4 b0 b1 b2 b3 b4
   obtain ⟨v,h,h2⟩ := bind2 g
   clear g
   refine okG h2 ?_
   clear h2
   refine ⟨0 + a2.length + 1,?_⟩
   rw [ref_Same.top]
   unfold sameX at h
   split at h
   · rename_i hs
     obtain rfl := Option.some.inj h
     obtain ⟨h1,h2⟩ := hs
     obtain ⟨g0,h3⟩ := Prod.mk.inj h1
     obtain ⟨g1,h4⟩ := Prod.mk.inj h3
     obtain ⟨g2,h5⟩ := Prod.mk.inj h4
     obtain ⟨g3,g4⟩ := Prod.mk.inj h5
     clear h1 h3 h4 h5
     subst g0 g1 g2 g3 g4
     have e0 : (a0 != a0) = false := bne_self_eq_false ..
     have e3 : (!a3 == a3) = false := by cases a3 <;> rfl
     have e5 : ((a2.length : Int) != (a2.length : Int)) = false := bne_self_eq_false ..
     rw [e0,e3,e5,seq_self,seq_self,if_neg (by decide)]
     exact same_L (0 + a2.length + 1) a0 a1 a2 a3 a4 a0 a1 a2 a3 a4 h2 a2.length 0 0 (Nat.zero_add _)
   · cases h
 · cases g
theorem awake_next : nextX [60,97,32,98,61,39,49,39,47,62] 0 = some (1,⟨#[97]⟩,[(⟨#[98]⟩,⟨#[49]⟩)],true,⟨#[]⟩,10,0) := by kernel_rfl
theorem law_awake.ok : AllOk specs_law_awake := okS (cx := cx_law_awake) rfl ref_Same.ok (by kernel_rfl) fun args cs n K r g => by
 unfold law_awake.spec at g
 dsimp only [lcSt] at g
 split at g
 · obtain ⟨v,h,h2⟩ := bind2 g
   clear g
   refine okG h2 ?_
   clear h2
   refine ⟨0,?_⟩
   rw [law_awake.top,awake_next]
   obtain rfl := Option.some.inj h
   rfl
 · cases g
theorem law_Next.ok : AllOk specs_law_Next := okS (cx := cx_law_Next) rfl law_awake.ok (by kernel_rfl) fun args cs n K r g => by
 unfold law_Next.spec at g
 dsimp only [lcSt] at g
 split at g
 · rename_i b p
   obtain ⟨v,h,h2⟩ := bind2 g
   clear g
   refine okG h2 ?_
   clear h2
   refine ⟨0,?_⟩
   rw [law_Next.top]
   unfold lawX at h
   split at h
   · rename_i hs
     obtain rfl := Option.some.inj h
     have hc : cloneX b = some b := by unfold cloneX; rw [if_pos hs.2]
     have he : Q.bytes_Equal.f b b = some true := by unfold Q.bytes_Equal.f; rw [beq_self_eq_true]
     unfold rnextX
     rw [hc,Option.bind_some,nextX_ok hs,Option.bind_some,Option.bind_some,skipX_ok hs,Option.bind_some,Option.bind_some,show sameX _ _ = some true from sameX_ok hs p,Option.bind_some,beq_self_eq_true,beq_self_eq_true,beq_self_eq_true,beq_self_eq_true,if_pos (by decide),he]
     rfl
   · cases h
 · cases g
/-- What a sign-less list says of a search. -/
theorem index_zero {l : List Int} {y : Int} (hb : byteB l = true) (hy : 0 ≤ y ∧ y < 256) (h : bIndexW l [y] = 0) : l.take 1 = [y] := by
 cases l with
 | nil => rw [bIndex_nil (by simp)] at h; cases h
 | cons x t =>
  have hx := byteB_all hb x (List.mem_cons_self ..)
  have ht : byteB t = true := by unfold byteB at hb ⊢; rw [List.all_cons,Bool.and_eq_true] at hb; exact hb.2
  have hg := bIndex_ge t [y]
  rw [index_head hx hy ht] at h
  by_cases c : x = y
  · rw [c]; rfl
  · rw [if_neg c] at h
    split at h <;> omega
/-- A token that is none of an error takes bytes, unless there are none. -/
theorem tokW_less {l : List Int} (hb : okB l) (h : (tokW l).2.2 = 0) (h0 : l.length ≠ 0) : (tokW l).2.1.length < l.length ∧ (tokW l).1.1 ≠ 0 := by
 unfold tokW at h ⊢
 rw [if_neg h0] at h ⊢
 by_cases c1 : l.take 9 = [60,33,91,67,68,65,84,65,91]
 · rw [if_pos c1] at h ⊢
   unfold litW at h ⊢
   dsimp only at h ⊢
   rw [if_pos c1] at h ⊢
   have hl := take_len c1
   simp only [List.length_cons,List.length_nil] at hl
   split
   · dsimp only
     rw [List.length_drop,List.length_drop]
     exact ⟨by omega,by decide⟩
   · rename_i c
     rw [if_neg c] at h
     cases h
 rw [if_neg c1] at h ⊢
 by_cases c2 : l.take 9 = [60,33,68,79,67,84,89,80,69]
 · rw [if_pos c2] at h; cases h
 rw [if_neg c2] at h ⊢
 by_cases c3 : l.take 2 = [60,47]
 · rw [if_pos c3] at h ⊢
   unfold closeW at h ⊢
   dsimp only at h ⊢
   rw [if_pos c3] at h ⊢
   have hl := take_len c3
   simp only [List.length_cons,List.length_nil] at hl
   have h2 := off_len ((l.drop 2).drop (Xm.fullL (l.drop 2)))
   rw [List.length_drop,List.length_drop] at h2
   by_cases c : Xm.fullL (l.drop 2) = 0
   · rw [if_pos c] at h; cases h
   rw [if_neg c] at h ⊢
   split
   · dsimp only
     rw [List.length_drop]
     exact ⟨by omega,by decide⟩
   · rename_i c5
     rw [if_neg c5] at h; cases h
 rw [if_neg c3] at h ⊢
 by_cases c4 : l.take 1 = [60]
 · rw [if_pos c4] at h ⊢
   unfold openW at h ⊢
   dsimp only at h ⊢
   rw [if_pos c4] at h ⊢
   have hl := take_len c4
   simp only [List.length_cons,List.length_nil] at hl
   by_cases c : Xm.fullL (l.drop 1) = 0
   · rw [if_pos c] at h; cases h
   rw [if_neg c] at h ⊢
   have h2 := openGo_len (l.length + 1) ((l.drop 1).drop (Xm.fullL (l.drop 1))) []
   rw [List.length_drop,List.length_drop] at h2
   dsimp only
   exact ⟨by omega,by decide⟩
 rw [if_neg c4] at h ⊢
 have hn : 1 ≤ textN l := by
  obtain ⟨q1,q2⟩ := bIndex_lt (l := l) (m := [60])
  unfold textN
  split
  · omega
  · have : bIndexW l [60] ≠ 0 := fun q => c4 (index_zero hb.1 (by decide) q)
    omega
 unfold textW
 split <;> (dsimp only; rw [List.length_drop]; exact ⟨by omega,by decide⟩)
theorem tokW_nil : tokW [] = (noTok,[],0) := by unfold tokW; rw [if_pos (show ([] : List Int).length = 0 from rfl)]
/-- Where the next token is, and what it takes. -/
theorem nextW_goes {b : List Int} (hb : okB b) {p : Int} (h : (nextW b p).2.2 = 0) : p ≤ (nextW b p).2.1 ∧ (nextW b p).2.1 ≤ b.length ∧ 0 ≤ (nextW b p).2.1 ∧ ((nextW b p).1.1 ≠ 0 → p < (nextW b p).2.1) ∧ ((nextW b p).1.1 = 0 → (nextW b p).2.1 = b.length) := by
 unfold nextW at h ⊢
 dsimp only at h ⊢
 by_cases c : (skipW b p).2 = 0
 · rw [if_neg (fun q => q c)] at h ⊢
   obtain ⟨k0,k1,k2⟩ := skipW_in c
   by_cases c2 : (tokW (b.drop (skipW b p).1.toNat)).2.2 = 0
   · rw [if_neg (fun q => q c2)] at h ⊢
     dsimp only
     have hlen := tokW_len (b.drop (skipW b p).1.toNat)
     have hdl : (b.drop (skipW b p).1.toNat).length = b.length - (skipW b p).1.toNat := List.length_drop ..
     by_cases c3 : (b.drop (skipW b p).1.toNat).length = 0
     · rw [List.eq_nil_of_length_eq_zero c3,tokW_nil]
       dsimp only [noTok]
       rw [List.length_nil]
       refine ⟨by omega,by omega,by omega,fun q => absurd rfl q,fun _ => by omega⟩
     · obtain ⟨l1,l2⟩ := tokW_less (okB_drop hb _) c2 c3
       exact ⟨by omega,by omega,by omega,fun _ => by omega,fun q => absurd q l2⟩
   · rw [if_pos c2] at h
     exact absurd h c2
 · rw [if_pos c] at h
   exact absurd h c
theorem all_L0 (n : Nat) (b0 : List Int) (b : List Int) (hb : okB b) : ∀ (d k : Nat) (p : Int),0 ≤ p → p ≤ b.length → (b.length : Int) - p < d → law_All.L0 n (k + d) b0 b p = (some (.ret (.bool true),lcRet [] [] 0) : Option (Rr U0)) := by
 intro d
 induction d with
 | zero => intro k p h0 h1 h2; omega
 | succ d ih =>
  intro k p h0 h1 h2
  unfold rnextX at *
  rw [show k + (d + 1) = (k + d) + 1 from rfl,law_All.L0_s]
  unfold rnextX
  rw [nextX_ok hb,Option.bind_some,Option.bind_some,show sameX _ _ = some true from sameX_ok hb p,Option.bind_some,if_neg (by simp)]
  by_cases c : (nextW b p).2.2 ≠ 0 ∨ (nextW b p).1.1 = 0
  · rw [if_pos (by rw [ite_or,bne_iff_ne,beq_iff_eq]; exact c)]
    rfl
  · rw [if_neg (by rw [ite_or,bne_iff_ne,beq_iff_eq]; exact c)]
    have c1 : (nextW b p).2.2 = 0 := Classical.byContradiction fun q => c (.inl q)
    have c2 : (nextW b p).1.1 ≠ 0 := fun q => c (.inr q)
    obtain ⟨g1,g2,g3,g4,_⟩ := nextW_goes hb c1
    have := g4 c2
    exact ih k (nextW b p).2.1 g3 g2 (by omega)
theorem law_All.ok : AllOk specs_law_All := okS (cx := cx_law_All) rfl law_Next.ok (by kernel_rfl) fun args cs n K r g => by
 unfold law_All.spec at g
 dsimp only [lcSt] at g
 split at g
 · rename_i b
   obtain ⟨v,h,h2⟩ := bind2 g
   clear g
   refine okG h2 ?_
   clear h2
   refine ⟨0 + 4001,?_⟩
   rw [law_All.top]
   unfold allX at h
   split at h
   · rename_i hs
     obtain rfl := Option.some.inj h
     have e : (if (4000 : Int) < (b.length : Int) then (4000 : Int) else (b.length : Int)) = ((min 4000 b.length : Nat) : Int) := by split <;> omega
     have hm : okB (b.take (min 4000 b.length)) := ⟨byteB_take hs _,by rw [List.length_take]; omega⟩
     rw [e,if_pos (by omega),if_pos (by omega),Int.toNat_natCast]
     exact all_L0 _ b _ hm 4001 0 0 (by omega) (by omega) (by rw [List.length_take]; omega)
   · cases h
 · cases g
end Go.Proofs.YtccfmfifnbnlmaaGreatDoor.Ev
end
section
/- The laws of the XML reader, as calls from any memory. -/
set_option linter.unusedVariables false
namespace Go.Proofs.YtccfmfifnbnlmaaGreatDoor.Ev
open Go Go.RowKit Go.Proofs.YtccfmfifnbnlmaaGreatDoorW.PrintWords
theorem law_of {f : FuncId} {spec : Spec} {args : List (AVal U0)} {st' : St U0} {w : World} (hs : CallOkL Tryz.prog C0 f spec) (h : spec args (lcSt [] 0) out = some (.ret (.bool true),st')) (hA : Assumed w) (cs : List Value) (ha : RelVs C0 (g0 w) args cs) :
 Calls Tryz.prog f cs.toArray w fun e w' => e = .returned (.bool true) ∧ RowKit.Below w.heap.size w w' :=
 (hs args [] 0 out _ h _ w (g0 w) w cs ha (srel0 hA 0)).mono fun e w' ⟨res,st',g',h1,h2,h3,h4,h5⟩ => by
  refine ⟨?_,below_of' h3⟩
  obtain ⟨rfl,_⟩ := Prod.mk.inj (Option.some.inj h1)
  cases h5 with
  | ret hv => cases hv; rfl
end Go.Proofs.YtccfmfifnbnlmaaGreatDoor.Ev
end
section
/- sync.Once of one goroutine, over this program: the lock free, the two calls that doSlow defers. -/
set_option linter.unusedSimpArgs false
set_option linter.unusedVariables false
namespace Go.Proofs.YtccfmfifnbnlmaaGreatDoor.Hand
open Go.RowKit

theorem disable (w : World) : (callFunc 127 #[]).run Tryz.prog w = .ok (.value (.tuple #[])) w := run_call_mark0 Tryz.func127 (by kernel_rfl) (by kernel_rfl) (by kernel_rfl) .disable (by kernel_rfl) w
theorem enable (w : World) : (callFunc 129 #[]).run Tryz.prog w = .ok (.value (.tuple #[])) w := run_call_mark0 Tryz.func129 (by kernel_rfl) (by kernel_rfl) (by kernel_rfl) .enable (by kernel_rfl) w
theorem acquire (a : Addr) (w : World) : (callFunc 130 #[.pointer (some a)]).run Tryz.prog w = .ok (.value (.tuple #[])) w := run_call_marked Tryz.func130 (by kernel_rfl) (by kernel_rfl) (by kernel_rfl) .acquire (by kernel_rfl) a w
theorem releaseMerge (a : Addr) (w : World) : (callFunc 132 #[.pointer (some a)]).run Tryz.prog w = .ok (.value (.tuple #[])) w := run_call_marked Tryz.func132 (by kernel_rfl) (by kernel_rfl) (by kernel_rfl) .releaseMerge (by kernel_rfl) a w

theorem store_deferred (a : Addr) (x : Value) (u : FrameMode) (w : World) (hc : w.cell? a = some x) (hz : w.frozen? a = false) :
    CallsD Tryz.prog 104 #[.pointer (some a), .bool true] u w fun e u' w' => u' = u ∧ (e = .returned (.tuple #[]) ∧ w' = w.drew.setCell a (.int .u32 1)) := by
  have hc' : w.drew.cell? a = some x := by go_simp
  have hz' : w.drew.frozen? a = false := by go_simp
  have hst := run_call_store (P := Tryz.prog) Tryz.func116 (by kernel_rfl) (by kernel_rfl) (by kernel_rfl) (by kernel_rfl) (k := .u32) (y := 1) hc' hz'
  go_enter_d Tryz.func104, Tryz.ntmps104
  go_wp2
  go_region_calls
  all_goals (go_end0; exact ⟨rfl, rfl⟩)
set_option maxRecDepth 100000 in
set_option maxHeartbeats 1600000 in
theorem unlock_deferred (a : Addr) (u : FrameMode) (w : World) (hc : w.cell? a = some (.int .i32 1)) (hz : w.frozen? a = false) :
    CallsD Tryz.prog 103 #[.pointer (some a)] u w fun e u' w' => u' = u ∧ (e = .returned (.tuple #[]) ∧ w' = w.setCell a (.int .i32 0)) := by
  have hd := disable
  have he := enable
  have hr := releaseMerge
  have hadd := run_call_add (P := Tryz.prog) Tryz.func133 (by kernel_rfl) (by kernel_rfl) (by kernel_rfl) .i32 (by kernel_rfl) (y := -1) (s := 0) hc hz (by simp [go_sem]; rfl)
  have hcv := run_convert_to_unsafe (P := Tryz.prog) (src := 170) (dst := 174) Tryz.underlying170 Tryz.underlying174 (by kernel_rfl) hc
  go_enter_d Tryz.func103, Tryz.ntmps103
  go_wp2
  go_end0
  go_wp2
  go_end0
  exact ⟨rfl, rfl⟩
set_option maxRecDepth 100000 in
set_option maxHeartbeats 1600000 in
theorem lock_free (a : Addr) (w : World) (hc : w.cell? a = some (.int .i32 0)) (hz : w.frozen? a = false) :
    Calls Tryz.prog 102 #[.pointer (some a)] w fun e w' => e = .returned (.tuple #[]) ∧ w' = w.setCell a (.int .i32 1) := by
  have hd := disable
  have he := enable
  have ha := acquire
  have hcas := run_call_cas_hit (P := Tryz.prog) Tryz.func128 (by kernel_rfl) (by kernel_rfl) (by kernel_rfl) .i32 (by kernel_rfl) (y := 1) hc hz
  have hc' : (w.setCell a (.int .i32 1)).cell? a = some (.int .i32 1) := World.cell?_setCell_same w a _ hc
  have hcv := run_convert_to_unsafe (P := Tryz.prog) (src := 170) (dst := 174) Tryz.underlying170 Tryz.underlying174 (by kernel_rfl) hc'
  go_enter Tryz.func102, Tryz.ntmps102
  go_wp2
  first | go_end0 | (simp only [Exit.inBlock, Exit.then]; refine bodyPost_ret (results_none rfl _ _ _) rfl ?_) | refine bodyPost_ret (results_none rfl _ _ _) rfl ?_
  go_wp2
  go_end0
  exact ⟨rfl, rfl⟩
end Go.Proofs.YtccfmfifnbnlmaaGreatDoor.Hand
end
