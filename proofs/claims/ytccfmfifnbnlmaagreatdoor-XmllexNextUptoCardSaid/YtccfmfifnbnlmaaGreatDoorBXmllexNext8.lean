/- Several texts in one, in their order. -/
import Derived.Test.YtccfmfifnbnlmaaGreatDoorBXmllexNext5
import Derived.Test.YtccfmfifnbnlmaaGreatDoorBXmllexNext7
import Derived.KernelRfl
section
/- What the lists of functions share: words of functions, contexts, rounds. -/
set_option linter.unusedVariables false
namespace Go.Proofs.YtccfmfifnbnlmaaGreatDoor.Ev
open Go
abbrev W : Ty := .pair (.int .i64) (.pair .str (.int .i64))
abbrev Spec := List (AVal U0) → St U0 → (Res U0 → St U0 → Option (Rr U0)) → Option (Rr U0)
abbrev SpecL := List (FuncId × Bool × Spec)
def extL : List (FuncId × Bool × Spec) → FuncId → Option (Bool × Spec)
 | [],_ => none
 | s :: r,f => match Nat.beq s.1 f with
  | true => some s.2
  | false => extL r f
noncomputable def cxOf (l : List (FuncId × Bool × Spec)) : Cx U0 (Rr U0) := ⟨TT U0,FT,extL l,live0,C0,eqs0⟩
/-- Functions that call each other. -/
def recL : List (FuncId × Spec) → FuncId → Spec
 | [],_ => fun _ _ _ => none
 | s :: r,f => match Nat.beq s.1 f with
  | true => s.2
  | false => recL r f
open Classical in
/-- What a function with so many rounds at most comes to. -/
noncomputable def lim {α : Type} (X : Nat → Option α) : Option α := if h : ∃ k v,k ≤ 16000000 ∧ X k = some v then X h.choose else none
def specs_lib0 : List (FuncId × Bool × Spec) := [(96,false,indexByteS),(89,false,runeS),(41,false,bIndexS),(62,false,bIndexByteS),(107,false,bTrimS),(94,false,replS)]
end Go.Proofs.YtccfmfifnbnlmaaGreatDoor.Ev
end
section
/- How the evaluator's trees are the functions that were printed: what both proofs share. -/
set_option linter.unusedVariables false
namespace Go.Proofs.YtccfmfifnbnlmaaGreatDoor.Ev
open Go Go.RowKit Go.Proofs.YtccfmfifnbnlmaaGreatDoorW.PrintWords

theorem seq_list (x y : ByteArray) : (seq x y = true) = (x.toList = y.toList) := by
  rw [ByteArray.toList_eq, ByteArray.toList_eq]
  unfold seq
  simp
theorem seq_false (x y : ByteArray) : (seq x y = false) = ¬ (x.toList = y.toList) := by
  rw [← seq_list]
  cases seq x y <;> simp
theorem ba_list (l : List UInt8) : (ByteArray.mk ⟨l⟩).toList = l := by rw [ByteArray.toList_eq]
theorem ite_or (c : Prop) [Decidable c] (b : Bool) : ((if c then true else b) = true) = (c ∨ b = true) := by by_cases h : c <;> simp [h]
theorem ite_and (c : Prop) [Decidable c] (b : Bool) : ((if c then b else false) = true) = (c ∧ b = true) := by by_cases h : c <;> simp [h]
theorem wrap_64 (x : Int) : IntKind.i64.wrap x = wrap64 x := by
  unfold wrap64; exact IntKind.wrap_i64 x
theorem bt_eq (s : ByteArray) (i : Int) : Ev.bt s i = Go.Proofs.YtccfmfifnbnlmaaGreatDoorW.PrintWords.bt s i := rfl
theorem nth_bind {β : Type} (l : List Int) (i : Int) (f : Int → Option β) (h0 : 0 ≤ i) (h1 : i < l.length) : (nth l i.toNat).bind f = f (rd l i) := by
  rw [nth_get]
  unfold rd
  rw [List.getD_eq_getElem?_getD]
  have : i.toNat < l.length := by omega
  rw [List.getElem?_eq_getElem this]
  rfl

theorem toBytes_len (s : ByteArray) : (toBytes s).length = s.size := by
  unfold toBytes
  rw [List.length_map, Array.length_toList]
  rfl
theorem wrap_8 (x : Int) : IntKind.u8.wrap x = x % 256 := IntKind.wrap_u8 x
theorem wrap_u64_mod (x : Int) : IntKind.u64.wrap (x % 256) = x % 256 := by
  rw [IntKind.wrap_u64]; omega
theorem ofBytes_eq (l : List Int) : ofBytes l = strOfNums l := rfl
theorem false_or_b (b : Bool) : ((if false = true then true else b) = true) = (b = true) := by simp
theorem true_and_b (b : Bool) : ((if true = true then b else false) = true) = (b = true) := by simp
theorem shr_6 (r : Int) : r.fdiv ((2 : Int) ^ min (Int.toNat (6 : Int)) IntKind.i64.bits) = r / 64 := by
  rw [show ((2 : Int) ^ min (Int.toNat (6 : Int)) IntKind.i64.bits) = 64 from by decide]; exact Int.fdiv_eq_ediv_of_nonneg r (by decide)
theorem shr_12 (r : Int) : r.fdiv ((2 : Int) ^ min (Int.toNat (12 : Int)) IntKind.i64.bits) = r / 4096 := by
  rw [show ((2 : Int) ^ min (Int.toNat (12 : Int)) IntKind.i64.bits) = 4096 from by decide]; exact Int.fdiv_eq_ediv_of_nonneg r (by decide)
theorem shr_18 (r : Int) : r.fdiv ((2 : Int) ^ min (Int.toNat (18 : Int)) IntKind.i64.bits) = r / 262144 := by
  rw [show ((2 : Int) ^ min (Int.toNat (18 : Int)) IntKind.i64.bits) = 262144 from by decide]; exact Int.fdiv_eq_ediv_of_nonneg r (by decide)
theorem wrap64_mod (x : Int) : wrap64 (x % 256) = x % 256 := by unfold wrap64; omega
theorem nth_rd (l : List Int) (i : Int) (h0 : 0 ≤ i) (h1 : i < l.length) : nth l i.toNat = some (rd l i) := by
  have := nth_bind l i some h0 h1
  cases e : nth l i.toNat with
  | none => rw [e] at this; cases this
  | some x => rw [e] at this; exact this
theorem toNat0 : Int.toNat 0 = 0 := rfl
theorem toNat1 : Int.toNat 1 = 1 := rfl
theorem toNat2 : Int.toNat 2 = 2 := rfl
theorem nth_rd0 (l : List Int) (h1 : 0 < (l.length : Int)) : nth l 0 = some (rd l 0) := nth_rd l 0 (by omega) h1
theorem bindE {α β : Type} {o : Option α} {f : α → Option β} {v : β} (h : o.bind f = some v) : ∃ a, o = some a ∧ f a = some v := Option.bind_eq_some_iff.1 h
theorem lim_some {α : Type} {X : Nat → Option α} {v : α} (h : lim X = some v) : ∃ k, k ≤ 16000000 ∧ X k = some v := by
  unfold lim at h
  split at h
  · rename_i q
    obtain ⟨v', h1, h2⟩ := q.choose_spec
    exact ⟨_, h1, h⟩
  · cases h
theorem leO_le {α : Type} {X : Nat → Option α} (hm : ∀ k, LeO (X k) (X (k + 1))) {v : α} : ∀ {d k : Nat}, X k = some v → X (k + d) = some v
  | 0, _, h => h
  | d + 1, k, h => hm (k + d) _ (leO_le hm h)
theorem lim_of {α : Type} {X : Nat → Option α} (hm : ∀ k, LeO (X k) (X (k + 1))) {v : α} {k : Nat} (hk : k ≤ 16000000) (h : X k = some v) : lim X = some v := by
  unfold lim
  have q : ∃ k v, k ≤ 16000000 ∧ X k = some v := ⟨k, v, hk, h⟩
  rw [dif_pos q]
  obtain ⟨v', h1, h2⟩ := q.choose_spec
  generalize q.choose = k' at h1 h2
  have e1 := leO_le hm (d := k') h
  have e2 := leO_le hm (d := k) h2
  rw [Nat.add_comm, e1] at e2
  rw [h2, e2]

def AllOk (l : List (FuncId × Bool × Spec)) : Prop := ∀ x ∈ l, FnOk Tryz.prog x.1 ∧ CallOkL Tryz.prog C0 x.1 x.2.2
theorem extL_ok : ∀ {l : List (FuncId × Bool × Spec)}, AllOk l → ∀ f s, extL l f = some s → FnOk Tryz.prog f ∧ CallOkL Tryz.prog C0 f s.2
  | [], _, f, s, h => by cases h
  | x :: r, ha, f, s, h => by
    unfold extL at h
    cases e : Nat.beq x.1 f with
    | true =>
      rw [e] at h
      obtain rfl := Option.some.inj h
      rw [← Nat.eq_of_beq_eq_true e]
      exact ha x (List.mem_cons_self ..)
    | false =>
      rw [e] at h
      exact extL_ok (fun y hy => ha y (List.mem_cons_of_mem _ hy)) f s h

theorem funcs_find {f : FuncId} {fn : Func} (h : FT f = some fn) : Tryz.prog.funcs[f]? = some fn ∧ (fn.name == "runtime.NumGoroutine") = false := ft_ok ft_holds f fn h

theorem ok_ext (e : FuncId → Option (Bool × Spec)) : Ok Tryz.prog (⟨TT U0, FT, e, live0, C0, eqs0⟩ : Cx U0 (Rr U0)) where
  tt := tt_all tt_holds
  codec := codecOf_ok shapes
  eqs := eqs_ok eqs_holds
  ft := fun f fn h => funcs_find h
  mixed := by kernel_rfl

theorem cok_of {l : List (FuncId × Bool × Spec)} (h : AllOk l) : Calls.Ok Tryz.prog (cxOf l) noCalls := noCalls_ok fun f s hs => extL_ok h f s hs

theorem fnOk_of {f : FuncId} (h : ((FT f).bind (·.body)).isSome = true) : FnOk Tryz.prog f := by
  cases e : FT f with
  | none => rw [e] at h; cases h
  | some fn =>
    rw [e] at h
    obtain ⟨h1, h2⟩ := funcs_find e
    exact ⟨fn, h1, h2, h⟩

theorem lib_ok0 : AllOk specs_lib0 := by
  intro x hx
  unfold specs_lib0 at hx
  simp only [List.mem_cons, List.not_mem_nil, or_false] at hx
  rcases hx with rfl | rfl | rfl | rfl | rfl | rfl
  · exact ⟨fnOk_of (by kernel_rfl), indexByteS_ok⟩
  · exact ⟨fnOk_of (by kernel_rfl), runeS_ok⟩
  · exact ⟨fnOk_of (by kernel_rfl), bIndexS_ok⟩
  · exact ⟨fnOk_of (by kernel_rfl), bIndexByteS_ok⟩
  · exact ⟨fnOk_of (by kernel_rfl), bTrimS_ok⟩
  · exact ⟨fnOk_of (by kernel_rfl), replS_ok⟩

theorem allOk_cons {f : FuncId} {kp : Bool} {S : Spec} {l : List (FuncId × Bool × Spec)} (h : AllOk l) (h1 : FnOk Tryz.prog f) (h2 : CallOkL Tryz.prog C0 f S) : AllOk ((f, kp, S) :: l) := by
  intro x hx
  rcases List.mem_cons.1 hx with rfl | hx
  · exact ⟨h1, h2⟩
  · exact h x hx
theorem recL_ok : ∀ {l : List (FuncId × Spec)} {f : FuncId}, (∀ x ∈ l, FnOk Tryz.prog x.1 ∧ CallOkL Tryz.prog C0 x.1 x.2) → CallOkL Tryz.prog C0 f (recL l f) ∧ ∀ args st K r, recL l f args st K = some r → FnOk Tryz.prog f
  | [], f, _ => ⟨fun args cs n K r h => (by cases h), fun args st K r h => (by cases h)⟩
  | s :: l, f, hl => by
    have ih := recL_ok (l := l) (f := f) fun x hx => hl x (List.mem_cons_of_mem _ hx)
    have e0 : recL (s :: l) f = (match Nat.beq s.1 f with | true => s.2 | false => recL l f) := rfl
    cases e : Nat.beq s.1 f with
    | true =>
      rw [e] at e0
      have h1 := hl s (List.mem_cons_self ..)
      rw [Nat.eq_of_beq_eq_true e] at h1
      rw [e0]
      exact ⟨h1.2, fun _ _ _ _ _ => h1.1⟩
    | false =>
      rw [e] at e0
      rw [e0]
      exact ih
theorem rec_cok {l : List (FuncId × Spec)} {L : List (FuncId × Bool × Spec)} (h : AllOk L) (hl : ∀ x ∈ l, FnOk Tryz.prog x.1 ∧ CallOkL Tryz.prog C0 x.1 x.2) : Calls.Ok Tryz.prog (cxOf L) (recL l) :=
  ⟨fun f s hs => extL_ok h f s hs, fun f => (recL_ok hl).1, fun f args st K r h => (recL_ok hl).2 args st K r h⟩
/-! ### a function's proof in few words -/
theorem okG {F : Nat → Option (Rr U0)} {K : Res U0 → St U0 → Option (Rr U0)} {a : Res U0} {b : St U0} {r : Rr U0} (h2 : K a b = some r) (e : ∃ m, F m = some (a, b)) : ∃ m res st', F m = some (res, st') ∧ K res st' = some r := e.elim fun m h => ⟨m, a, b, h, h2⟩
theorem okR {L : List (FuncId × Bool × Spec)} {l : List (FuncId × Spec)} {R : FuncId → Spec} {cx : Cx U0 (Rr U0)} {f : FuncId} {s : Spec} (hc : cxOf L = cx) (hr : recL l = R) (p : AllOk L) (hl : ∀ x ∈ l, FnOk Tryz.prog x.1 ∧ CallOkL Tryz.prog C0 x.1 x.2)
    (h : ∀ args cs n K r, s args (lcSt cs n) K = some r → ∃ m res st', callX false (fnF cx R m f) args (lcSt cs n) out = some (res, st') ∧ K res st' = some r) : CallOkL Tryz.prog C0 f s := by
  subst hc hr
  exact sealed_of (kp := false) (ok_ext _) (rec_cok p hl) h
theorem okS {L : List (FuncId × Bool × Spec)} {cx : Cx U0 (Rr U0)} {f : FuncId} {s : Spec} (hc : cxOf L = cx) (p : AllOk L) (hf : ((FT f).bind (·.body)).isSome = true)
    (h : ∀ args cs n K r, s args (lcSt cs n) K = some r → ∃ m res st', callX false (fnF cx noCalls m f) args (lcSt cs n) out = some (res, st') ∧ K res st' = some r) : AllOk ((f, false, s) :: L) := by
  subst hc
  exact allOk_cons p (fnOk_of hf) (sealed_of (kp := false) (ok_ext _) (cok_of p) h)
theorem okSk {L : List (FuncId × Bool × Spec)} {cx : Cx U0 (Rr U0)} {f : FuncId} {s : Spec} (hc : cxOf L = cx) (p : AllOk L) (hf : ((FT f).bind (·.body)).isSome = true)
    (h : ∀ args cs n K r, s args (lcSt cs n) K = some r → ∃ m res st', callX true (fnF cx noCalls m f) args (lcSt cs n) out = some (res, st') ∧ K res st' = some r) : AllOk ((f, true, s) :: L) := by
  subst hc
  exact allOk_cons p (fnOk_of hf) (sealed_of (kp := true) (ok_ext _) (cok_of p) h)
end Go.Proofs.YtccfmfifnbnlmaaGreatDoor.Ev
end
section
/- slices.Clone, at each type; and the words that all lists begin with. -/
set_option linter.unusedVariables false
namespace Go.Proofs.YtccfmfifnbnlmaaGreatDoor.Ev
open Go Go.RowKit
set_option maxRecDepth 100000
def specs_clone : List (FuncId × Bool × Spec) := []
def specs_lib1 : List (FuncId × Bool × Spec) := specs_lib0
theorem lib_ok1 : AllOk specs_lib1 := lib_ok0
def specs_lib : List (FuncId × Bool × Spec) := specs_lib1 ++ specs_clone
theorem lib_ok : AllOk specs_lib := by
 intro x hx
 rcases List.mem_append.1 hx with hx | hx
 · exact lib_ok1 x hx
 · unfold specs_clone at hx
   cases hx
end Go.Proofs.YtccfmfifnbnlmaaGreatDoor.Ev
end
section
/- What is known of each function: its word; and the contexts in which it is reckoned. -/
-- prev lib
set_option linter.unusedVariables false
namespace Go.Proofs.YtccfmfifnbnlmaaGreatDoor.Ev
open Go
noncomputable def cx_chars_Decode := cxOf specs_lib
noncomputable def chars_Decode.spec : Spec := fun args st K => match args,st.box,st.nt with
 | [.sl (.int .u8) b .no],[],0 => (Q.chars_Decode.f b).bind fun v => K (.ret (.tup [.int .i64 v.1,.int .i64 v.2])) (lcRet [] [] 0)
 | _,_,_ => none
noncomputable def specs_chars_Decode : SpecL := (68,false,chars_Decode.spec) :: specs_lib
noncomputable def cx_chars_in := cxOf specs_chars_Decode
noncomputable def chars_in.spec : Spec := fun args st K => match args,st.box,st.nt with
 | [.int .i64 r,.sl (.pair (.int .i64) (.int .i64)) l .no],[],0 => (lim fun k => Q.chars_in.f k r (l.map fun p => ⟨p.1,p.2⟩)).bind fun v => K (.ret (.bool v)) (lcRet [] [] 0)
 | _,_,_ => none
noncomputable def specs_chars_in : SpecL := (90,false,chars_in.spec) :: specs_chars_Decode
noncomputable def cx_chars_ofXML := cxOf specs_chars_in
noncomputable def chars_ofXML.spec : Spec := fun args st K => match args,st.box,st.nt with
 | [.int .i64 r],[],0 => (lim fun k => Q.chars_ofXML.f k r).bind fun v => K (.ret (.bool v)) (lcRet [] [] 0)
 | _,_,_ => none
noncomputable def specs_chars_ofXML : SpecL := (113,false,chars_ofXML.spec) :: specs_chars_in
noncomputable def cx_chars_Wrong := cxOf specs_chars_ofXML
noncomputable def chars_Wrong.spec : Spec := fun args st K => match args,st.box,st.nt with
 | [.sl (.int .u8) b .no],[],0 => (lim fun k => Q.chars_Wrong.f k b).bind fun v => K (.ret (.int .i64 v)) (lcRet [] [] 0)
 | _,_,_ => none
noncomputable def specs_chars_Wrong : SpecL := (97,false,chars_Wrong.spec) :: specs_chars_ofXML
noncomputable def cx_dossierref01_Space := cxOf specs_chars_Wrong
noncomputable def dossierref01_Space.spec : Spec := fun args st K => match args,st.box,st.nt with
 | [.int .i64 r],[],0 => (Q.dossierref01_Space.f r).bind fun v => K (.ret (.bool v)) (lcRet [] [] 0)
 | _,_,_ => none
noncomputable def specs_dossierref01_Space : SpecL := (47,false,dossierref01_Space.spec) :: specs_chars_Wrong
noncomputable def cx_dossierref01_Encode := cxOf specs_dossierref01_Space
noncomputable def dossierref01_Encode.spec : Spec := fun args st K => match args,st.box,st.nt with
 | [.int .i64 r],[],0 => (lim fun k => Q.dossierref01_Encode.f k r).bind fun v => K (.ret (.sl (.int .u8) (v) .no)) (lcRet [] [] 0)
 | _,_,_ => none
noncomputable def specs_dossierref01_Encode : SpecL := (55,false,dossierref01_Encode.spec) :: specs_dossierref01_Space
noncomputable def cx_dossierref01_Decode := cxOf specs_dossierref01_Encode
noncomputable def dossierref01_Decode.spec : Spec := fun args st K => match args,st.box,st.nt with
 | [.sl (.int .u8) b .no],[],0 => (lim fun k => Q.dossierref01_Decode.f k b).bind fun v => K (.ret (.tup [.int .i64 v.1,.int .i64 v.2])) (lcRet [] [] 0)
 | _,_,_ => none
noncomputable def specs_dossierref01_Decode : SpecL := (44,false,dossierref01_Decode.spec) :: specs_dossierref01_Encode
noncomputable def cx_dossierref01_within := cxOf specs_dossierref01_Decode
noncomputable def dossierref01_within.spec : Spec := fun args st K => match args,st.box,st.nt with
 | [.int .i64 r,.sl (.int .i64) l .no],[],0 => (lim fun k => Q.dossierref01_within.f k r l).bind fun v => K (.ret (.bool v)) (lcRet [] [] 0)
 | _,_,_ => none
noncomputable def specs_dossierref01_within : SpecL := (71,false,dossierref01_within.spec) :: specs_dossierref01_Decode
noncomputable def cx_dossierref01_OfXML := cxOf specs_dossierref01_within
noncomputable def dossierref01_OfXML.spec : Spec := fun args st K => match args,st.box,st.nt with
 | [.int .i64 r],[],0 => (lim fun k => Q.dossierref01_OfXML.f k r).bind fun v => K (.ret (.bool v)) (lcRet [] [] 0)
 | _,_,_ => none
noncomputable def specs_dossierref01_OfXML : SpecL := (100,false,dossierref01_OfXML.spec) :: specs_dossierref01_within
noncomputable def cx_dossierref01_Text := cxOf specs_dossierref01_OfXML
noncomputable def dossierref01_Text.specR (k : Nat) : Spec := fun args st K => match args,st.box,st.nt with
 | [.int .i64 r],[],0 => (Q.dossierref01_Text.f k r).bind fun v => K (.ret (.str v)) (lcRet [] [] 0)
 | _,_,_ => none
noncomputable def dossierref01_Text.rec (k : Nat) := recL [(32,dossierref01_Text.specR k)]
noncomputable def dossierref01_Text.spec : Spec := fun args st K => match args,st.box,st.nt with
 | [.int .i64 r],[],0 => (lim fun k => Q.dossierref01_Text.f k r).bind fun v => K (.ret (.str v)) (lcRet [] [] 0)
 | _,_,_ => none
noncomputable def specs_dossierref01_Text : SpecL := (32,false,dossierref01_Text.spec) :: specs_dossierref01_OfXML
noncomputable def cx_utf8_ValidRune := cxOf specs_dossierref01_Text
noncomputable def utf8_ValidRune.spec : Spec := fun args st K => match args,st.box,st.nt with
 | [.int .i32 r],[],0 => (lim fun k => Q.utf8_ValidRune.f k r).bind fun v => K (.ret (.bool v)) (lcRet [] [] 0)
 | _,_,_ => none
noncomputable def specs_utf8_ValidRune : SpecL := (77,false,utf8_ValidRune.spec) :: specs_dossierref01_Text
noncomputable def cx_utf8_appendRuneNonASCII := cxOf specs_utf8_ValidRune
noncomputable def utf8_appendRuneNonASCII.spec : Spec := fun args st K => match args,st.box,st.nt with
 | [.sl (.int .u8) [] .exact,.int .i32 r],[],0 => (lim fun k => Q.utf8_appendRuneNonASCII.f k [] r).bind fun v => K (.ret (.sl (.int .u8) (v) (.tok 0))) (lcRet [] [0] 1)
 | _,_,_ => none
noncomputable def specs_utf8_appendRuneNonASCII : SpecL := (98,true,utf8_appendRuneNonASCII.spec) :: specs_utf8_ValidRune
noncomputable def cx_utf8_AppendRune := cxOf specs_utf8_appendRuneNonASCII
noncomputable def utf8_AppendRune.spec : Spec := fun args st K => match args,st.box,st.nt with
 | [.sl (.int .u8) [] .exact,.int .i32 r],[],0 => (lim fun k => Q.utf8_AppendRune.f k [] r).bind fun v => K (.ret (.sl (.int .u8) (v) (.tok 0))) (lcRet [] [0] 1)
 | _,_,_ => none
noncomputable def specs_utf8_AppendRune : SpecL := (78,true,utf8_AppendRune.spec) :: specs_utf8_appendRuneNonASCII
noncomputable def cx_chars_First := cxOf specs_utf8_AppendRune
noncomputable def chars_First.spec : Spec := fun args st K => match args,st.box,st.nt with
 | [.int .i64 r],[],0 => (lim fun k => Q.chars_First.f k r).bind fun v => K (.ret (.bool v)) (lcRet [] [] 0)
 | _,_,_ => none
noncomputable def specs_chars_First : SpecL := (69,false,chars_First.spec) :: specs_utf8_AppendRune
noncomputable def cx_chars_Later := cxOf specs_chars_First
noncomputable def chars_Later.spec : Spec := fun args st K => match args,st.box,st.nt with
 | [.int .i64 r],[],0 => (lim fun k => Q.chars_Later.f k r).bind fun v => K (.ret (.bool v)) (lcRet [] [] 0)
 | _,_,_ => none
noncomputable def specs_chars_Later : SpecL := (70,false,chars_Later.spec) :: specs_chars_First
noncomputable def cx_chars_Space := cxOf specs_chars_Later
noncomputable def chars_Space.spec : Spec := fun args st K => match args,st.box,st.nt with
 | [.int .i64 r],[],0 => (Q.chars_Space.f r).bind fun v => K (.ret (.bool v)) (lcRet [] [] 0)
 | _,_,_ => none
noncomputable def specs_chars_Space : SpecL := (43,false,chars_Space.spec) :: specs_chars_Later
noncomputable def cx_chars_Encode := cxOf specs_chars_Space
noncomputable def chars_Encode.spec : Spec := fun args st K => match args,st.box,st.nt with
 | [.int .i64 r],[],0 => (lim fun k => Q.chars_Encode.f k r).bind fun v => K (.ret (.sl (.int .u8) (v) .no)) (lcRet [] [] 0)
 | _,_,_ => none
noncomputable def specs_chars_Encode : SpecL := (53,false,chars_Encode.spec) :: specs_chars_Space
noncomputable def cx_xmllex_nameOf := cxOf specs_chars_Encode
noncomputable def xmllex_nameOf.spec : Spec := fun args st K => match args,st.box,st.nt with
 | [.sl (.int .u8) b .no],[],0 => (lim fun k => Q.xmllex_nameOf.f k b).bind fun v => K (.ret (.sl (.int .u8) (v) .no)) (lcRet [] [] 0)
 | _,_,_ => none
noncomputable def specs_xmllex_nameOf : SpecL := (42,false,xmllex_nameOf.spec) :: specs_chars_Encode
noncomputable def cx_dossierref01_First := cxOf specs_xmllex_nameOf
noncomputable def dossierref01_First.spec : Spec := fun args st K => match args,st.box,st.nt with
 | [.int .i64 r],[],0 => (lim fun k => Q.dossierref01_First.f k r).bind fun v => K (.ret (.bool v)) (lcRet [] [] 0)
 | _,_,_ => none
noncomputable def specs_dossierref01_First : SpecL := (45,false,dossierref01_First.spec) :: specs_xmllex_nameOf
noncomputable def cx_dossierref01_Later := cxOf specs_dossierref01_First
noncomputable def dossierref01_Later.spec : Spec := fun args st K => match args,st.box,st.nt with
 | [.int .i64 r],[],0 => (lim fun k => Q.dossierref01_Later.f k r).bind fun v => K (.ret (.bool v)) (lcRet [] [] 0)
 | _,_,_ => none
noncomputable def specs_dossierref01_Later : SpecL := (46,false,dossierref01_Later.spec) :: specs_dossierref01_First
noncomputable def cx_dossierref01_NameAt := cxOf specs_dossierref01_Later
noncomputable def dossierref01_NameAt.spec : Spec := fun args st K => match args,st.box,st.nt with
 | [.sl (.int .u8) b .no],[],0 => (lim fun k => Q.dossierref01_NameAt.f k b).bind fun v => K (.ret (.int .i64 v)) (lcRet [] [] 0)
 | _,_,_ => none
noncomputable def specs_dossierref01_NameAt : SpecL := (26,false,dossierref01_NameAt.spec) :: specs_dossierref01_Later
noncomputable def cx_dossierref05_begins := cxOf specs_dossierref01_NameAt
noncomputable def dossierref05_begins.spec : Spec := fun args st K => match args,st.box,st.nt with
 | [.sl (.int .u8) b .no,.str s],[],0 => (Q.dossierref05_begins.f b s).bind fun v => K (.ret (.bool v)) (lcRet [] [] 0)
 | _,_,_ => none
noncomputable def specs_dossierref05_begins : SpecL := (24,false,dossierref05_begins.spec) :: specs_dossierref01_NameAt
noncomputable def cx_dossierref05_find := cxOf specs_dossierref05_begins
noncomputable def dossierref05_find.spec : Spec := fun args st K => match args,st.box,st.nt with
 | [.sl (.int .u8) b .no,.str s],[],0 => (lim fun k => Q.dossierref05_find.f k b s).bind fun v => K (.ret (.int .i64 v)) (lcRet [] [] 0)
 | _,_,_ => none
noncomputable def specs_dossierref05_find : SpecL := (25,false,dossierref05_find.spec) :: specs_dossierref05_begins
noncomputable def cx_dossierref05_blanks := cxOf specs_dossierref05_find
noncomputable def dossierref05_blanks.spec : Spec := fun args st K => match args,st.box,st.nt with
 | [.sl (.int .u8) b .no],[],0 => (lim fun k => Q.dossierref05_blanks.f k b).bind fun v => K (.ret (.int .i64 v)) (lcRet [] [] 0)
 | _,_,_ => none
noncomputable def specs_dossierref05_blanks : SpecL := (27,false,dossierref05_blanks.spec) :: specs_dossierref05_find
noncomputable def cx_dossierref05_digit := cxOf specs_dossierref05_blanks
noncomputable def dossierref05_digit.spec : Spec := fun args st K => match args,st.box,st.nt with
 | [.int .u8 x,.int .i64 q],[],0 => (lim fun k => Q.dossierref05_digit.f k x q).bind fun v => K (.ret (.int .i64 v)) (lcRet [] [] 0)
 | _,_,_ => none
noncomputable def specs_dossierref05_digit : SpecL := (99,false,dossierref05_digit.spec) :: specs_dossierref05_blanks
noncomputable def cx_dossierref05_numbered := cxOf specs_dossierref05_digit
noncomputable def dossierref05_numbered.spec : Spec := fun args st K => match args,st.box,st.nt with
 | [.sl (.int .u8) b .no,.int .i64 q],[],0 => (lim fun k => Q.dossierref05_numbered.f k b q).bind fun v => K (.ret (.tup [.int .i64 v.1,.bool v.2])) (lcRet [] [] 0)
 | _,_,_ => none
noncomputable def specs_dossierref05_numbered : SpecL := (79,false,dossierref05_numbered.spec) :: specs_dossierref05_digit
noncomputable def cx_dossierref05_reference := cxOf specs_dossierref05_numbered
noncomputable def dossierref05_reference.spec : Spec := fun args st K => match args,st.box,st.nt with
 | [.sl (.int .u8) b .no],[],0 => (lim fun k => Q.dossierref05_reference.f k b).bind fun v => K (.ret (.tup [.int .i64 v.1,.bool v.2])) (lcRet [] [] 0)
 | _,_,_ => none
noncomputable def specs_dossierref05_reference : SpecL := (54,false,dossierref05_reference.spec) :: specs_dossierref05_numbered
noncomputable def cx_dossierref05_name := cxOf specs_dossierref05_reference
noncomputable def dossierref05_name.spec : Spec := fun args st K => match args,st.box,st.nt with
 | [.sl (.int .u8) b .no],[],0 => (lim fun k => Q.dossierref05_name.f k b).bind fun v => K (.ret (.int .i64 v)) (lcRet [] [] 0)
 | _,_,_ => none
noncomputable def specs_dossierref05_name : SpecL := (39,false,dossierref05_name.spec) :: specs_dossierref05_reference
end Go.Proofs.YtccfmfifnbnlmaaGreatDoor.Ev
end
section
/- What each function comes to, one step of it at a time: the kernel's own reckoning. -/
set_option linter.unusedVariables false
set_option maxRecDepth 100000
namespace Go.Proofs.YtccfmfifnbnlmaaGreatDoor.Ev
open Go Go.RowKit
open Go.IntKind (i64 u8 i32 u64)
theorem chars_Decode.top (n : Nat) (b : List Int) : callX false (fnF cx_chars_Decode noCalls n 68) ([.sl (.int .u8) b .no]) (lcSt [] 0) out = ((Q.utf8_DecodeRune.f b).bind fun v0 => if (if (v0.1 == 65533) = true then decide (v0.2 ≤ 1) else false) = true then some (.ret (.tup [.int .i64 0,.int .i64 0]),lcRet [] [] 0) else some (.ret (.tup [.int .i64 (i64.wrap v0.1),.int .i64 v0.2]),lcRet [] [] 0)) := by kernel_rfl
theorem dossierref01_OfXML.top (n : Nat) (r : Int) : callX false (fnF cx_dossierref01_OfXML noCalls n 100) ([.int .i64 r]) (lcSt [] 0) out = ((lim fun k => Q.dossierref01_within.f k r [(9 : Int),(10 : Int),(13 : Int),(13 : Int),(32 : Int),(55295 : Int),(57344 : Int),(65533 : Int),(65536 : Int),(1114111 : Int)]).bind fun v0 => some (.ret (.bool v0),lcRet [] [] 0)) := by kernel_rfl
noncomputable def chars_in.L0 (n k0 : Nat) (r : Int) (l : List (Int × Int)) (j0 : Int) (j1 : List (Int × Int)) (j2 j3 : Int) : Option (Rr U0) := loopF cx_chars_in noCalls k0 0 ([(0,false),(7,false),(8,false),(9,false)]) ((siteC (Tryz.f90.body.getD .skip) [1,0,1,0]).getD .skip) (siteK cx_chars_in noCalls n [] (Tryz.f90.body.getD .skip) [1,0,1,0] (bodyK cx_chars_in Tryz.f90 (lcSt [] 0) (callK false [] [] (lcSt [] 0) out))) (St.mk [(0,.int .i64 j0),(7,.sl ((Ty.int IntKind.i64).pair (.int .i64)) j1 .no),(8,.int .i64 j2),(9,.int .i64 j3)] [] [] 0 0 0 0 0 90 [] 24)
theorem chars_in.L0_s (n k0 : Nat) (r : Int) (l : List (Int × Int)) (j0 : Int) (j1 : List (Int × Int)) (j2 j3 : Int) : chars_in.L0 n (k0 + 1) r l j0 j1 j2 j3 = if decide (j3 < j2) = true then if 0 ≤ j3 then ((nth j1 j3.toNat).bind fun v0 => if (if decide (v0.1 ≤ j0) = true then decide (j0 ≤ v0.2) else false) = true then some (.ret (.bool true),lcRet [] [] 0) else (chars_in.L0 n k0 r l j0 j1 j2 (i64.wrap (j3 + 1)))) else none else some (.ret (.bool false),lcRet [] [] 0) := by kernel_rfl
theorem chars_in.top (n : Nat) (r : Int) (l : List (Int × Int)) : callX false (fnF cx_chars_in noCalls n 90) ([.int .i64 r,.sl ((Ty.int IntKind.i64).pair (.int .i64)) l .no]) (lcSt [] 0) out = (chars_in.L0 n n r l r l ((↑l.length : Int)) 0) := by kernel_rfl
theorem dossierref01_Text.top (n k : Nat) (r : Int) : callX false (fnF cx_dossierref01_Text (dossierref01_Text.rec k) n 32) ([.int .i64 r]) (lcSt [] 0) out = if decide (r < 0) = true then if decide (r > (-10 : Int)) = true then ((Q.dossierref01_Text.f k (i64.wrap ((0 : Int) - r))).bind fun v0 => if (ByteArray.mk #[45]).size + v0.size ≤ 9223372036854775807 then some (.ret (.str (ByteArray.mk #[45] ++ v0)),lcRet [] [] 0) else none) else ((Q.dossierref01_Text.f k (i64.wrap (r.tdiv (10 : Int)))).bind fun v1 => ((Q.dossierref01_Text.f k (i64.wrap ((0 : Int) - r.tmod (10 : Int)))).bind fun v2 => if v1.size + v2.size ≤ 9223372036854775807 then some (.ret (.str (v1 ++ v2)),lcRet [] [] 0) else none)) else if decide (r < 10) = true then if 0 ≤ r then if r ≤ i64.wrap (r + 1) then if i64.wrap (r + 1) ≤ (↑(ByteArray.mk #[48,49,50,51,52,53,54,55,56,57]).size : Int) then some (.ret (.str ((ByteArray.mk #[48,49,50,51,52,53,54,55,56,57]).extract r.toNat (i64.wrap (r + 1)).toNat)),lcRet [] [] 0) else none else none else none else ((Q.dossierref01_Text.f k (i64.wrap (r.tdiv (10 : Int)))).bind fun v3 => ((Q.dossierref01_Text.f k (r.tmod (10 : Int))).bind fun v4 => if v3.size + v4.size ≤ 9223372036854775807 then some (.ret (.str (v3 ++ v4)),lcRet [] [] 0) else none)) := by kernel_rfl
noncomputable def xmllex_nameOf.L0 (n k0 : Nat) (b j0 : List Int) (j1 : Int) : Option (Rr U0) := loopF cx_xmllex_nameOf noCalls k0 0 ([(0,false),(3,false)]) ((siteC (Tryz.f42.body.getD .skip) [1,1,0]).getD .skip) (siteK cx_xmllex_nameOf noCalls n [] (Tryz.f42.body.getD .skip) [1,1,0] (bodyK cx_xmllex_nameOf Tryz.f42 (lcSt [] 0) (callK false [] [] (lcSt [] 0) out))) (St.mk [(0,.sl (.int .u8) j0 .no),(3,.int .i64 j1)] [] [] 0 0 0 0 0 42 [] 35)
theorem xmllex_nameOf.L0_s (n k0 : Nat) (b j0 : List Int) (j1 : Int) : xmllex_nameOf.L0 n (k0 + 1) b j0 j1 = if 0 ≤ j1 then if j1 ≤ (↑j0.length : Int) then ((Q.chars_Decode.f (List.drop j1.toNat j0)).bind fun v0 => if (v0.2 == 0) = true then if 0 ≤ j1 then if j1 ≤ (↑j0.length : Int) then some (.ret (.sl (.int .u8) (List.take j1.toNat j0) .no),lcRet [] [] 0) else none else none else if (j1 == 0) = true then ((lim fun k => Q.chars_First.f k v0.1).bind fun v1 => if (if false = true then true else if true = true then !v1 else false) = true then if 0 ≤ j1 then if j1 ≤ (↑j0.length : Int) then some (.ret (.sl (.int .u8) (List.take j1.toNat j0) .no),lcRet [] [] 0) else none else none else ((lim fun k => Q.chars_Later.f k v0.1).bind fun v2 => if (if false = true then true else !v2) = true then if 0 ≤ j1 then if j1 ≤ (↑j0.length : Int) then some (.ret (.sl (.int .u8) (List.take j1.toNat j0) .no),lcRet [] [] 0) else none else none else (xmllex_nameOf.L0 n k0 b j0 (i64.wrap (j1 + v0.2))))) else ((lim fun k => Q.chars_Later.f k v0.1).bind fun v3 => if (if false = true then true else !v3) = true then if 0 ≤ j1 then if j1 ≤ (↑j0.length : Int) then some (.ret (.sl (.int .u8) (List.take j1.toNat j0) .no),lcRet [] [] 0) else none else none else (xmllex_nameOf.L0 n k0 b j0 (i64.wrap (j1 + v0.2))))) else none else none := by kernel_rfl
theorem xmllex_nameOf.top (n : Nat) (b : List Int) : callX false (fnF cx_xmllex_nameOf noCalls n 42) ([.sl (.int .u8) b .no]) (lcSt [] 0) out = (xmllex_nameOf.L0 n n b b 0) := by kernel_rfl
theorem chars_ofXML.top (n : Nat) (r : Int) : callX false (fnF cx_chars_ofXML noCalls n 113) ([.int .i64 r]) (lcSt [] 0) out = ((lim fun k => Q.chars_in.f k r (List.map (fun p => Q.S121.mk p.1 p.2) [((32 : Int),(55295 : Int)),((9 : Int),(10 : Int)),((13 : Int),(13 : Int)),((57344 : Int),(65533 : Int)),((65536 : Int),(1114111 : Int))])).bind fun v0 => some (.ret (.bool v0),lcRet [] [] 0)) := by kernel_rfl
theorem utf8_ValidRune.top (n : Nat) (r : Int) : callX false (fnF cx_utf8_ValidRune noCalls n 77) ([.int .i32 r]) (lcSt [] 0) out = if (if decide (0 ≤ r) = true then decide (r < 55296) else false) = true then some (.ret (.bool true),lcRet [] [] 0) else if (if decide ((57343 : Int) < r) = true then decide (r ≤ 1114111) else false) = true then some (.ret (.bool true),lcRet [] [] 0) else some (.ret (.bool false),lcRet [] [] 0) := by kernel_rfl
theorem dossierref01_First.top (n : Nat) (r : Int) : callX false (fnF cx_dossierref01_First noCalls n 45) ([.int .i64 r]) (lcSt [] 0) out = ((lim fun k => Q.dossierref01_within.f k r [(65 : Int),(90 : Int),(95 : Int),(95 : Int),(97 : Int),(122 : Int),(192 : Int),(214 : Int),(216 : Int),(246 : Int),(248 : Int),(767 : Int),(880 : Int),(893 : Int),(895 : Int),(8191 : Int),(8204 : Int),(8205 : Int),(8304 : Int),(8591 : Int),(11264 : Int),(12271 : Int),(12289 : Int),(55295 : Int),(63744 : Int),(64975 : Int),(65008 : Int),(65533 : Int),(65536 : Int),(983039 : Int)]).bind fun v0 => some (.ret (.bool v0),lcRet [] [] 0)) := by kernel_rfl
theorem dossierref05_reference.top (n : Nat) (b : List Int) : callX false (fnF cx_dossierref05_reference noCalls n 54) ([.sl (.int .u8) b .no]) (lcSt [] 0) out = if seq (ofBytes b) (ByteArray.mk #[108,116]) = true then some (.ret (.tup [.int .i64 60,.bool true]),lcRet [] [] 0) else if seq (ofBytes b) (ByteArray.mk #[103,116]) = true then some (.ret (.tup [.int .i64 62,.bool true]),lcRet [] [] 0) else if seq (ofBytes b) (ByteArray.mk #[97,109,112]) = true then some (.ret (.tup [.int .i64 38,.bool true]),lcRet [] [] 0) else if seq (ofBytes b) (ByteArray.mk #[97,112,111,115]) = true then some (.ret (.tup [.int .i64 39,.bool true]),lcRet [] [] 0) else if seq (ofBytes b) (ByteArray.mk #[113,117,111,116]) = true then some (.ret (.tup [.int .i64 34,.bool true]),lcRet [] [] 0) else ((Q.dossierref05_begins.f b (ByteArray.mk #[35,120])).bind fun v0 => if v0 = true then if (2 : Int) ≤ (↑b.length : Int) then ((lim fun k => Q.dossierref05_numbered.f k (List.drop (Int.toNat (2 : Int)) b) (16 : Int)).bind fun v1 => some (.ret (.tup [.int .i64 v1.1,.bool v1.2]),lcRet [] [] 0)) else none else ((Q.dossierref05_begins.f b (ByteArray.mk #[35])).bind fun v2 => if v2 = true then if (1 : Int) ≤ (↑b.length : Int) then ((lim fun k => Q.dossierref05_numbered.f k (List.drop (Int.toNat (1 : Int)) b) (10 : Int)).bind fun v3 => some (.ret (.tup [.int .i64 v3.1,.bool v3.2]),lcRet [] [] 0)) else none else some (.ret (.tup [.int .i64 0,.bool false]),lcRet [] [] 0))) := by kernel_rfl
noncomputable def chars_Wrong.L0 (n k0 : Nat) (b j0 : List Int) (j1 : Int) : Option (Rr U0) := loopF cx_chars_Wrong noCalls k0 0 ([(0,false),(3,false)]) ((siteC (Tryz.f97.body.getD .skip) [1,0,1,0]).getD .skip) (siteK cx_chars_Wrong noCalls n [] (Tryz.f97.body.getD .skip) [1,0,1,0] (bodyK cx_chars_Wrong Tryz.f97 (lcSt [] 0) (callK false [] [] (lcSt [] 0) out))) (St.mk [(0,.sl (.int .u8) j0 .no),(3,.int .i64 j1)] [] [] 0 0 0 0 0 97 [] 28)
theorem chars_Wrong.L0_s (n k0 : Nat) (b j0 : List Int) (j1 : Int) : chars_Wrong.L0 n (k0 + 1) b j0 j1 = if decide (j1 < (↑j0.length : Int)) = true then if 0 ≤ j1 then if j1 ≤ (↑j0.length : Int) then ((Q.chars_Decode.f (List.drop j1.toNat j0)).bind fun v0 => if (v0.2 == 0) = true then some (.ret (.int .i64 j1),lcRet [] [] 0) else ((lim fun k => Q.chars_ofXML.f k v0.1).bind fun v1 => if (if false = true then true else !v1) = true then some (.ret (.int .i64 j1),lcRet [] [] 0) else (chars_Wrong.L0 n k0 b j0 (i64.wrap (j1 + v0.2))))) else none else none else some (.ret (.int .i64 (-1 : Int)),lcRet [] [] 0) := by kernel_rfl
theorem chars_Wrong.top (n : Nat) (b : List Int) : callX false (fnF cx_chars_Wrong noCalls n 97) ([.sl (.int .u8) b .no]) (lcSt [] 0) out = (chars_Wrong.L0 n n b b 0) := by kernel_rfl
theorem dossierref01_Later.top (n : Nat) (r : Int) : callX false (fnF cx_dossierref01_Later noCalls n 46) ([.int .i64 r]) (lcSt [] 0) out = ((lim fun k => Q.dossierref01_First.f k r).bind fun v0 => if v0 = true then some (.ret (.bool true),lcRet [] [] 0) else ((lim fun k => Q.dossierref01_within.f k r [(45 : Int),(46 : Int),(48 : Int),(57 : Int),(183 : Int),(183 : Int),(768 : Int),(879 : Int),(8255 : Int),(8256 : Int)]).bind fun v1 => some (.ret (.bool (if false = true then true else v1)),lcRet [] [] 0))) := by kernel_rfl
theorem dossierref05_name.top (n : Nat) (b : List Int) : callX false (fnF cx_dossierref05_name noCalls n 39) ([.sl (.int .u8) b .no]) (lcSt [] 0) out = ((lim fun k => Q.dossierref01_NameAt.f k b).bind fun v0 => if (v0 == 0) = true then some (.ret (.int .i64 v0),lcRet [] [] 0) else if 0 ≤ v0 then if v0 ≤ (↑b.length : Int) then ((Q.dossierref05_begins.f (List.drop v0.toNat b) (ByteArray.mk #[58])).bind fun v1 => if (if false = true then true else !v1) = true then some (.ret (.int .i64 v0),lcRet [] [] 0) else if 0 ≤ i64.wrap (v0 + 1) then if i64.wrap (v0 + 1) ≤ (↑b.length : Int) then ((lim fun k => Q.dossierref01_NameAt.f k (List.drop (i64.wrap (v0 + 1)).toNat b)).bind fun v2 => if (v2 == 0) = true then some (.ret (.int .i64 v0),lcRet [] [] 0) else some (.ret (.int .i64 (i64.wrap (i64.wrap (v0 + 1) + v2))),lcRet [] [] 0)) else none else none) else none else none) := by kernel_rfl
theorem dossierref01_Space.top (n : Nat) (r : Int) : callX false (fnF cx_dossierref01_Space noCalls n 47) ([.int .i64 r]) (lcSt [] 0) out = some (.ret (.bool (if (if (if (r == 9) = true then true else r == 10) = true then true else r == 13) = true then true else r == 32)),lcRet [] [] 0) := by kernel_rfl
noncomputable def dossierref01_NameAt.L0 (n k0 : Nat) (b j0 : List Int) (j1 : Int) : Option (Rr U0) := loopF cx_dossierref01_NameAt noCalls k0 0 ([(0,false),(4,false)]) ((siteC (Tryz.f26.body.getD .skip) [1,1,1,0]).getD .skip) (siteK cx_dossierref01_NameAt noCalls n [] (Tryz.f26.body.getD .skip) [1,1,1,0] (bodyK cx_dossierref01_NameAt Tryz.f26 (lcSt [] 0) (callK false [] [] (lcSt [] 0) out))) (St.mk [(0,.sl (.int .u8) j0 .no),(4,.int .i64 j1)] [] [] 0 0 0 0 0 26 [] 37)
theorem dossierref01_NameAt.L0_s (n k0 : Nat) (b j0 : List Int) (j1 : Int) : dossierref01_NameAt.L0 n (k0 + 1) b j0 j1 = if 0 ≤ j1 then if j1 ≤ (↑j0.length : Int) then ((lim fun k => Q.dossierref01_Decode.f k (List.drop j1.toNat j0)).bind fun v2 => if (v2.2 == 0) = true then some (.ret (.int .i64 j1),lcRet [] [] 0) else ((lim fun k => Q.dossierref01_Later.f k v2.1).bind fun v3 => if (if false = true then true else !v3) = true then some (.ret (.int .i64 j1),lcRet [] [] 0) else (dossierref01_NameAt.L0 n k0 b j0 (i64.wrap (j1 + v2.2))))) else none else none := by kernel_rfl
theorem dossierref01_NameAt.top (n : Nat) (b : List Int) : callX false (fnF cx_dossierref01_NameAt noCalls n 26) ([.sl (.int .u8) b .no]) (lcSt [] 0) out = ((lim fun k => Q.dossierref01_Decode.f k b).bind fun v0 => if (v0.2 == 0) = true then some (.ret (.int .i64 0),lcRet [] [] 0) else ((lim fun k => Q.dossierref01_First.f k v0.1).bind fun v1 => if (if false = true then true else !v1) = true then some (.ret (.int .i64 0),lcRet [] [] 0) else (dossierref01_NameAt.L0 n n b b v0.2))) := by kernel_rfl
theorem dossierref01_Encode.top (n : Nat) (r : Int) : callX false (fnF cx_dossierref01_Encode noCalls n 55) ([.int .i64 r]) (lcSt [] 0) out = if (if (if decide (r < 0) = true then true else decide (r > 1114111)) = true then true else if decide (r ≥ 55296) = true then decide (r ≤ 57343) else false) = true then some (.ret (.sl (.int .u8) [] .no),lcRet [] [] 0) else if decide (r < 128) = true then some (.ret (.sl (.int .u8) [u8.wrap r] .no),lcRet [] [] 0) else if decide (r < 2048) = true then some (.ret (.sl (.int .u8) [u8.wrap (i64.wrap ((192 : Int) + r.fdiv ((2 : Int) ^ min (Int.toNat (6 : Int)) IntKind.i64.bits))),u8.wrap (i64.wrap ((128 : Int) + r.tmod (64 : Int)))] .no),lcRet [] [] 0) else if decide (r < 65536) = true then some (.ret (.sl (.int .u8) [u8.wrap (i64.wrap ((224 : Int) + r.fdiv ((2 : Int) ^ min (Int.toNat (12 : Int)) IntKind.i64.bits))),u8.wrap (i64.wrap ((128 : Int) + (r.fdiv ((2 : Int) ^ min (Int.toNat (6 : Int)) IntKind.i64.bits)).tmod (64 : Int))),u8.wrap (i64.wrap ((128 : Int) + r.tmod (64 : Int)))] .no),lcRet [] [] 0) else some (.ret (.sl (.int .u8) [u8.wrap (i64.wrap ((240 : Int) + r.fdiv ((2 : Int) ^ min (Int.toNat (18 : Int)) IntKind.i64.bits))),u8.wrap (i64.wrap ((128 : Int) + (r.fdiv ((2 : Int) ^ min (Int.toNat (12 : Int)) IntKind.i64.bits)).tmod (64 : Int))),u8.wrap (i64.wrap ((128 : Int) + (r.fdiv ((2 : Int) ^ min (Int.toNat (6 : Int)) IntKind.i64.bits)).tmod (64 : Int))),u8.wrap (i64.wrap ((128 : Int) + r.tmod (64 : Int)))] .no),lcRet [] [] 0) := by kernel_rfl
theorem chars_First.top (n : Nat) (r : Int) : callX false (fnF cx_chars_First noCalls n 69) ([.int .i64 r]) (lcSt [] 0) out = if decide (r < 128) = true then some (.ret (.bool (if (if decide (bits BinOp.or IntKind.i64 r (32 : Int) ≥ 97) = true then decide (bits BinOp.or IntKind.i64 r (32 : Int) ≤ 122) else false) = true then true else r == 95)),lcRet [] [] 0) else ((lim fun k => Q.chars_in.f k r (List.map (fun p => Q.S121.mk p.1 p.2) [((192 : Int),(214 : Int)),((216 : Int),(246 : Int)),((248 : Int),(767 : Int)),((880 : Int),(893 : Int)),((895 : Int),(8191 : Int)),((8204 : Int),(8205 : Int)),((8304 : Int),(8591 : Int)),((11264 : Int),(12271 : Int)),((12289 : Int),(55295 : Int)),((63744 : Int),(64975 : Int)),((65008 : Int),(65533 : Int)),((65536 : Int),(983039 : Int))])).bind fun v0 => some (.ret (.bool v0),lcRet [] [] 0)) := by kernel_rfl
theorem dossierref05_begins.top (n : Nat) (b : List Int) (s : ByteArray) : callX false (fnF cx_dossierref05_begins noCalls n 24) ([.sl (.int .u8) b .no,.str s]) (lcSt [] 0) out = if decide ((↑b.length : Int) ≥ (↑s.size : Int)) = true then if 0 ≤ (↑s.size : Int) then if (↑s.size : Int) ≤ (↑b.length : Int) then some (.ret (.bool (if true = true then seq (ofBytes (List.take (↑s.size : Int).toNat b)) s else false)),lcRet [] [] 0) else none else none else some (.ret (.bool false),lcRet [] [] 0) := by kernel_rfl
noncomputable def dossierref01_Decode.L0 (n k0 : Nat) (b j0 : List Int) (j1 j2 : Int) (j3 : List (Ty.den U0 (.int .u8))) (j4 j5 : Int) : Option (Rr U0) := loopF cx_dossierref01_Decode noCalls k0 0 ([(0,false),(4,false),(5,false),(51,false),(52,false),(53,false)]) ((siteC (Tryz.f44.body.getD .skip) [1,1,1,1,1,0,1,0]).getD .skip) (siteK cx_dossierref01_Decode noCalls n [] (Tryz.f44.body.getD .skip) [1,1,1,1,1,0,1,0] (bodyK cx_dossierref01_Decode Tryz.f44 (lcSt [] 0) (callK false [] [] (lcSt [] 0) out))) (St.mk [(0,.sl (.int .u8) j0 .no),(4,.int .i64 j1),(5,.int .i64 j2),(51,.sl (.int .u8) j3 .no),(52,.int .i64 j4),(53,.int .i64 j5)] [] [] 0 0 0 0 0 44 [] 80)
theorem dossierref01_Decode.L0_s (n k0 : Nat) (b j0 : List Int) (j1 j2 : Int) (j3 : List (Ty.den U0 (.int .u8))) (j4 j5 : Int) : dossierref01_Decode.L0 n (k0 + 1) b j0 j1 j2 j3 j4 j5 = if decide (j5 < j4) = true then if 0 ≤ j5 then ((nth j3 j5.toNat).bind fun v3 => if (if decide (v3 < 128) = true then true else decide (v3 > 191)) = true then some (.ret (.tup [.int .i64 0,.int .i64 0]),lcRet [] [] 0) else (dossierref01_Decode.L0 n k0 b j0 j1 (i64.wrap (i64.wrap (i64.wrap (j2 * (64 : Int)) + i64.wrap v3) - 128)) j3 j4 (i64.wrap (j5 + 1)))) else none else if 0 ≤ j1 then if j1 ≤ (↑j0.length : Int) then ((lim fun k => Q.dossierref01_Encode.f k j2).bind fun v4 => if (!seq (ofBytes v4) (ofBytes (List.take j1.toNat j0))) = true then some (.ret (.tup [.int .i64 0,.int .i64 0]),lcRet [] [] 0) else some (.ret (.tup [.int .i64 j2,.int .i64 j1]),lcRet [] [] 0)) else none else none := by kernel_rfl
theorem dossierref01_Decode.top (n : Nat) (b : List Int) : callX false (fnF cx_dossierref01_Decode noCalls n 44) ([.sl (.int .u8) b .no]) (lcSt [] 0) out = if ((↑b.length : Int) == 0) = true then some (.ret (.tup [.int .i64 0,.int .i64 0]),lcRet [] [] 0) else ((nth b (Int.toNat (0 : Int))).bind fun v0 => ((nth b (Int.toNat (0 : Int))).bind fun v1 => if decide (v1 ≥ 240) = true then ((nth b (Int.toNat (0 : Int))).bind fun v2 => if decide ((4 : Int) > (↑b.length : Int)) = true then some (.ret (.tup [.int .i64 0,.int .i64 0]),lcRet [] [] 0) else if (4 : Int) ≤ (↑b.length : Int) then (dossierref01_Decode.L0 n n b b 4 (i64.wrap (i64.wrap v2 - 240)) (List.drop (Int.toNat (1 : Int)) (List.take (Int.toNat (4 : Int)) b)) ((↑(List.drop (Int.toNat (1 : Int)) (List.take (Int.toNat (4 : Int)) b)).length : Int)) 0) else none) else ((nth b (Int.toNat (0 : Int))).bind fun v5 => if decide (v5 ≥ 224) = true then ((nth b (Int.toNat (0 : Int))).bind fun v6 => if decide ((3 : Int) > (↑b.length : Int)) = true then some (.ret (.tup [.int .i64 0,.int .i64 0]),lcRet [] [] 0) else if (3 : Int) ≤ (↑b.length : Int) then (dossierref01_Decode.L0 n n b b 3 (i64.wrap (i64.wrap v6 - 224)) (List.drop (Int.toNat (1 : Int)) (List.take (Int.toNat (3 : Int)) b)) ((↑(List.drop (Int.toNat (1 : Int)) (List.take (Int.toNat (3 : Int)) b)).length : Int)) 0) else none) else ((nth b (Int.toNat (0 : Int))).bind fun v7 => if decide (v7 ≥ 192) = true then ((nth b (Int.toNat (0 : Int))).bind fun v8 => if decide ((2 : Int) > (↑b.length : Int)) = true then some (.ret (.tup [.int .i64 0,.int .i64 0]),lcRet [] [] 0) else if (2 : Int) ≤ (↑b.length : Int) then (dossierref01_Decode.L0 n n b b 2 (i64.wrap (i64.wrap v8 - 192)) (List.drop (Int.toNat (1 : Int)) (List.take (Int.toNat (2 : Int)) b)) ((↑(List.drop (Int.toNat (1 : Int)) (List.take (Int.toNat (2 : Int)) b)).length : Int)) 0) else none) else if decide ((1 : Int) > (↑b.length : Int)) = true then some (.ret (.tup [.int .i64 0,.int .i64 0]),lcRet [] [] 0) else if (1 : Int) ≤ (↑b.length : Int) then (dossierref01_Decode.L0 n n b b 1 (i64.wrap v0) (List.drop (Int.toNat (1 : Int)) (List.take (Int.toNat (1 : Int)) b)) ((↑(List.drop (Int.toNat (1 : Int)) (List.take (Int.toNat (1 : Int)) b)).length : Int)) 0) else none)))) := by kernel_rfl
theorem chars_Later.top (n : Nat) (r : Int) : callX false (fnF cx_chars_Later noCalls n 70) ([.int .i64 r]) (lcSt [] 0) out = ((lim fun k => Q.chars_First.f k r).bind fun v0 => if (if v0 = true then true else if (r == 45) = true then true else if (r == 46) = true then true else r == 183) = true then some (.ret (.bool true),lcRet [] [] 0) else ((lim fun k => Q.chars_in.f k r (List.map (fun p => Q.S121.mk p.1 p.2) [((48 : Int),(57 : Int)),((768 : Int),(879 : Int)),((8255 : Int),(8256 : Int))])).bind fun v1 => some (.ret (.bool v1),lcRet [] [] 0))) := by kernel_rfl
noncomputable def dossierref05_find.L0 (n k0 : Nat) (b : List Int) (s : ByteArray) (j0 : List Int) (j1 : ByteArray) (j2 j3 : Int) : Option (Rr U0) := loopF cx_dossierref05_find noCalls k0 0 ([(0,false),(1,false),(7,false),(8,false)]) ((siteC (Tryz.f25.body.getD .skip) [1,0,1,0]).getD .skip) (siteK cx_dossierref05_find noCalls n [] (Tryz.f25.body.getD .skip) [1,0,1,0] (bodyK cx_dossierref05_find Tryz.f25 (lcSt [] 0) (callK false [] [] (lcSt [] 0) out))) (St.mk [(0,.sl (.int .u8) j0 .no),(1,.str j1),(7,.int .i64 j2),(8,.int .i64 j3)] [] [] 0 0 0 0 0 25 [] 18)
theorem dossierref05_find.L0_s (n k0 : Nat) (b : List Int) (s : ByteArray) (j0 : List Int) (j1 : ByteArray) (j2 j3 : Int) : dossierref05_find.L0 n (k0 + 1) b s j0 j1 j2 j3 = if decide (j3 < j2) = true then if 0 ≤ j3 then if j3 ≤ (↑j0.length : Int) then ((Q.dossierref05_begins.f (List.drop j3.toNat j0) j1).bind fun v0 => if v0 = true then some (.ret (.int .i64 j3),lcRet [] [] 0) else (dossierref05_find.L0 n k0 b s j0 j1 j2 (i64.wrap (j3 + 1)))) else none else none else some (.ret (.int .i64 (-1 : Int)),lcRet [] [] 0) := by kernel_rfl
theorem dossierref05_find.top (n : Nat) (b : List Int) (s : ByteArray) : callX false (fnF cx_dossierref05_find noCalls n 25) ([.sl (.int .u8) b .no,.str s]) (lcSt [] 0) out = (dossierref05_find.L0 n n b s b s ((↑b.length : Int)) 0) := by kernel_rfl
noncomputable def dossierref01_within.L0 (n k0 : Nat) (r : Int) (l : List Int) (j0 : Int) (j1 : List Int) (j2 : Int) : Option (Rr U0) := loopF cx_dossierref01_within noCalls k0 0 ([(0,false),(1,false),(5,false)]) ((siteC (Tryz.f71.body.getD .skip) [1,0,1,0]).getD .skip) (siteK cx_dossierref01_within noCalls n [] (Tryz.f71.body.getD .skip) [1,0,1,0] (bodyK cx_dossierref01_within Tryz.f71 (lcSt [] 0) (callK false [] [] (lcSt [] 0) out))) (St.mk [(0,.int .i64 j0),(1,.sl (.int .i64) j1 .no),(5,.int .i64 j2)] [] [] 0 0 0 0 0 71 [] 28)
theorem dossierref01_within.L0_s (n k0 : Nat) (r : Int) (l : List Int) (j0 : Int) (j1 : List Int) (j2 : Int) : dossierref01_within.L0 n (k0 + 1) r l j0 j1 j2 = if decide (i64.wrap (j2 + 1) < (↑j1.length : Int)) = true then if 0 ≤ j2 then ((nth j1 j2.toNat).bind fun v0 => if decide (j0 ≥ v0) = true then if 0 ≤ i64.wrap (j2 + 1) then ((nth j1 (i64.wrap (j2 + 1)).toNat).bind fun v1 => if (if true = true then decide (j0 ≤ v1) else false) = true then some (.ret (.bool true),lcRet [] [] 0) else (dossierref01_within.L0 n k0 r l j0 j1 (i64.wrap (j2 + 2)))) else none else (dossierref01_within.L0 n k0 r l j0 j1 (i64.wrap (j2 + 2)))) else none else some (.ret (.bool false),lcRet [] [] 0) := by kernel_rfl
theorem dossierref01_within.top (n : Nat) (r : Int) (l : List Int) : callX false (fnF cx_dossierref01_within noCalls n 71) ([.int .i64 r,.sl (.int .i64) l .no]) (lcSt [] 0) out = (dossierref01_within.L0 n n r l r l 0) := by kernel_rfl
theorem chars_Space.top (n : Nat) (r : Int) : callX false (fnF cx_chars_Space noCalls n 43) ([.int .i64 r]) (lcSt [] 0) out = if (if (r == 32) = true then true else if (r == 9) = true then true else if (r == 10) = true then true else r == 13) = true then some (.ret (.bool true),lcRet [] [] 0) else some (.ret (.bool false),lcRet [] [] 0) := by kernel_rfl
noncomputable def dossierref05_blanks.L0 (n k0 : Nat) (b j0 : List Int) (j1 : Int) : Option (Rr U0) := loopF cx_dossierref05_blanks noCalls k0 0 ([(0,false),(3,false)]) ((siteC (Tryz.f27.body.getD .skip) [1,1,0,0]).getD .skip) (siteK cx_dossierref05_blanks noCalls n [] (Tryz.f27.body.getD .skip) [1,1,0,0] (bodyK cx_dossierref05_blanks Tryz.f27 (lcSt [] 0) (callK false [] [] (lcSt [] 0) out))) (St.mk [(0,.sl (.int .u8) j0 .no),(3,.int .i64 j1)] [] [] 0 0 0 0 0 27 [] 19)
theorem dossierref05_blanks.L0_s (n k0 : Nat) (b j0 : List Int) (j1 : Int) : dossierref05_blanks.L0 n (k0 + 1) b j0 j1 = if decide (j1 < (↑j0.length : Int)) = true then if 0 ≤ j1 then ((nth j0 j1.toNat).bind fun v0 => ((Q.dossierref01_Space.f (i64.wrap v0)).bind fun v1 => if (if true = true then v1 else false) = true then (dossierref05_blanks.L0 n k0 b j0 (i64.wrap (j1 + 1))) else some (.ret (.int .i64 j1),lcRet [] [] 0))) else none else some (.ret (.int .i64 j1),lcRet [] [] 0) := by kernel_rfl
theorem dossierref05_blanks.top (n : Nat) (b : List Int) : callX false (fnF cx_dossierref05_blanks noCalls n 27) ([.sl (.int .u8) b .no]) (lcSt [] 0) out = (dossierref05_blanks.L0 n n b b 0) := by kernel_rfl
theorem utf8_appendRuneNonASCII.top (n : Nat) (r : Int) : callX true (fnF cx_utf8_appendRuneNonASCII noCalls n 98) ([.sl (.int .u8) [] Perm.exact,.int .i32 r]) (lcSt [] 0) out = if decide (IntKind.u32.wrap r ≤ 2047) = true then if (0 + [bits BinOp.or IntKind.u8 (192 : Int) (u8.wrap (r.fdiv ((2 : Int) ^ min (Int.toNat (6 : Int)) IntKind.i32.bits))),bits BinOp.or IntKind.u8 (128 : Int) (bits BinOp.and IntKind.u8 (u8.wrap r) (63 : Int))].length) * 1 ≤ most then some (.ret (.sl (.int .u8) [bits BinOp.or IntKind.u8 (192 : Int) (u8.wrap (r.fdiv ((2 : Int) ^ min (Int.toNat (6 : Int)) IntKind.i32.bits))),bits BinOp.or IntKind.u8 (128 : Int) (bits BinOp.and IntKind.u8 (u8.wrap r) (63 : Int))] (Perm.tok 0)),lcRet [] ([0]) 1) else none else if decide (IntKind.u32.wrap r < 55296) = true then if (0 + [bits BinOp.or IntKind.u8 (224 : Int) (u8.wrap (r.fdiv ((2 : Int) ^ min (Int.toNat (12 : Int)) IntKind.i32.bits))),bits BinOp.or IntKind.u8 (128 : Int) (bits BinOp.and IntKind.u8 (u8.wrap (r.fdiv ((2 : Int) ^ min (Int.toNat (6 : Int)) IntKind.i32.bits))) (63 : Int)),bits BinOp.or IntKind.u8 (128 : Int) (bits BinOp.and IntKind.u8 (u8.wrap r) (63 : Int))].length) * 1 ≤ most then some (.ret (.sl (.int .u8) [bits BinOp.or IntKind.u8 (224 : Int) (u8.wrap (r.fdiv ((2 : Int) ^ min (Int.toNat (12 : Int)) IntKind.i32.bits))),bits BinOp.or IntKind.u8 (128 : Int) (bits BinOp.and IntKind.u8 (u8.wrap (r.fdiv ((2 : Int) ^ min (Int.toNat (6 : Int)) IntKind.i32.bits))) (63 : Int)),bits BinOp.or IntKind.u8 (128 : Int) (bits BinOp.and IntKind.u8 (u8.wrap r) (63 : Int))] (Perm.tok 0)),lcRet [] ([0]) 1) else none else if (if decide ((57343 : Int) < IntKind.u32.wrap r) = true then decide (IntKind.u32.wrap r ≤ 65535) else false) = true then if (0 + [bits BinOp.or IntKind.u8 (224 : Int) (u8.wrap (r.fdiv ((2 : Int) ^ min (Int.toNat (12 : Int)) IntKind.i32.bits))),bits BinOp.or IntKind.u8 (128 : Int) (bits BinOp.and IntKind.u8 (u8.wrap (r.fdiv ((2 : Int) ^ min (Int.toNat (6 : Int)) IntKind.i32.bits))) (63 : Int)),bits BinOp.or IntKind.u8 (128 : Int) (bits BinOp.and IntKind.u8 (u8.wrap r) (63 : Int))].length) * 1 ≤ most then some (.ret (.sl (.int .u8) [bits BinOp.or IntKind.u8 (224 : Int) (u8.wrap (r.fdiv ((2 : Int) ^ min (Int.toNat (12 : Int)) IntKind.i32.bits))),bits BinOp.or IntKind.u8 (128 : Int) (bits BinOp.and IntKind.u8 (u8.wrap (r.fdiv ((2 : Int) ^ min (Int.toNat (6 : Int)) IntKind.i32.bits))) (63 : Int)),bits BinOp.or IntKind.u8 (128 : Int) (bits BinOp.and IntKind.u8 (u8.wrap r) (63 : Int))] (Perm.tok 0)),lcRet [] ([0]) 1) else none else if (if decide (IntKind.u32.wrap r > 65535) = true then decide (IntKind.u32.wrap r ≤ 1114111) else false) = true then if (0 + [bits BinOp.or IntKind.u8 (240 : Int) (u8.wrap (r.fdiv ((2 : Int) ^ min (Int.toNat (18 : Int)) IntKind.i32.bits))),bits BinOp.or IntKind.u8 (128 : Int) (bits BinOp.and IntKind.u8 (u8.wrap (r.fdiv ((2 : Int) ^ min (Int.toNat (12 : Int)) IntKind.i32.bits))) (63 : Int)),bits BinOp.or IntKind.u8 (128 : Int) (bits BinOp.and IntKind.u8 (u8.wrap (r.fdiv ((2 : Int) ^ min (Int.toNat (6 : Int)) IntKind.i32.bits))) (63 : Int)),bits BinOp.or IntKind.u8 (128 : Int) (bits BinOp.and IntKind.u8 (u8.wrap r) (63 : Int))].length) * 1 ≤ most then some (.ret (.sl (.int .u8) [bits BinOp.or IntKind.u8 (240 : Int) (u8.wrap (r.fdiv ((2 : Int) ^ min (Int.toNat (18 : Int)) IntKind.i32.bits))),bits BinOp.or IntKind.u8 (128 : Int) (bits BinOp.and IntKind.u8 (u8.wrap (r.fdiv ((2 : Int) ^ min (Int.toNat (12 : Int)) IntKind.i32.bits))) (63 : Int)),bits BinOp.or IntKind.u8 (128 : Int) (bits BinOp.and IntKind.u8 (u8.wrap (r.fdiv ((2 : Int) ^ min (Int.toNat (6 : Int)) IntKind.i32.bits))) (63 : Int)),bits BinOp.or IntKind.u8 (128 : Int) (bits BinOp.and IntKind.u8 (u8.wrap r) (63 : Int))] (Perm.tok 0)),lcRet [] ([0]) 1) else none else some (.ret (.sl (.int .u8) [(239 : Int),(191 : Int),(189 : Int)] (Perm.tok 0)),lcRet [] ([0]) 1) := by kernel_rfl
theorem utf8_AppendRune.top (n : Nat) (r : Int) : callX true (fnF cx_utf8_AppendRune noCalls n 78) ([.sl (.int .u8) [] Perm.exact,.int .i32 r]) (lcSt [] 0) out = if decide (IntKind.u32.wrap r ≤ 127) = true then if (0 + [u8.wrap r].length) * 1 ≤ most then some (.ret (.sl (.int .u8) [u8.wrap r] (Perm.tok 0)),lcRet [] ([0]) 1) else none else ((lim fun k => Q.utf8_appendRuneNonASCII.f k [] r).bind fun v0 => some (.ret (.sl (.int .u8) v0 (Perm.tok 0)),lcRet [] ([0]) 1)) := by kernel_rfl
theorem chars_Encode.top (n : Nat) (r : Int) : callX false (fnF cx_chars_Encode noCalls n 53) ([.int .i64 r]) (lcSt [] 0) out = if (if decide (r < 0) = true then true else decide (r > 1114111)) = true then some (.ret (.sl (.int .u8) [] .no),lcRet [] [] 0) else ((lim fun k => Q.utf8_ValidRune.f k (i32.wrap r)).bind fun v0 => if (if false = true then true else !v0) = true then some (.ret (.sl (.int .u8) [] .no),lcRet [] [] 0) else ((lim fun k => Q.utf8_AppendRune.f k [] (i32.wrap r)).bind fun v1 => some (.ret (.sl (.int .u8) v1 .no),lcRet [] [] 0))) := by kernel_rfl
theorem dossierref05_digit.top (n : Nat) (x q : Int) : callX false (fnF cx_dossierref05_digit noCalls n 99) ([.int .u8 x,.int .i64 q]) (lcSt [] 0) out = if (if decide (x ≥ 48) = true then decide (x ≤ 57) else false) = true then if decide (i64.wrap (u8.wrap (x - 48)) ≥ q) = true then some (.ret (.int .i64 (-1 : Int)),lcRet [] [] 0) else some (.ret (.int .i64 (i64.wrap (u8.wrap (x - 48)))),lcRet [] [] 0) else if (if decide (x ≥ 97) = true then decide (x ≤ 102) else false) = true then if decide (i64.wrap (i64.wrap (u8.wrap (x - 97)) + 10) ≥ q) = true then some (.ret (.int .i64 (-1 : Int)),lcRet [] [] 0) else some (.ret (.int .i64 (i64.wrap (i64.wrap (u8.wrap (x - 97)) + 10))),lcRet [] [] 0) else if (if decide (x ≥ 65) = true then decide (x ≤ 70) else false) = true then if decide (i64.wrap (i64.wrap (u8.wrap (x - 65)) + 10) ≥ q) = true then some (.ret (.int .i64 (-1 : Int)),lcRet [] [] 0) else some (.ret (.int .i64 (i64.wrap (i64.wrap (u8.wrap (x - 65)) + 10))),lcRet [] [] 0) else if decide ((-1 : Int) ≥ q) = true then some (.ret (.int .i64 (-1 : Int)),lcRet [] [] 0) else some (.ret (.int .i64 (-1 : Int)),lcRet [] [] 0) := by kernel_rfl
noncomputable def dossierref05_numbered.L0 (n k0 : Nat) (b : List Int) (q : Int) (j0 : List Int) (j1 j2 : Int) (j3 : List Int) (j4 j5 : Int) : Option (Rr U0) := loopF cx_dossierref05_numbered noCalls k0 0 ([(0,false),(1,false),(6,false),(10,false),(11,false),(12,false)]) ((siteC (Tryz.f79.body.getD .skip) [1,1,0,1,0]).getD .skip) (siteK cx_dossierref05_numbered noCalls n [] (Tryz.f79.body.getD .skip) [1,1,0,1,0] (bodyK cx_dossierref05_numbered Tryz.f79 (lcSt [] 0) (callK false [] [] (lcSt [] 0) out))) (St.mk [(0,.sl (.int .u8) j0 .no),(1,.int .i64 j1),(6,.int .i64 j2),(10,.sl (.int .u8) j3 .no),(11,.int .i64 j4),(12,.int .i64 j5)] [] [] 0 0 0 0 0 79 [] 39)
theorem dossierref05_numbered.L0_s (n k0 : Nat) (b : List Int) (q : Int) (j0 : List Int) (j1 j2 : Int) (j3 : List Int) (j4 j5 : Int) : dossierref05_numbered.L0 n (k0 + 1) b q j0 j1 j2 j3 j4 j5 = if decide (j5 < j4) = true then if 0 ≤ j5 then ((nth j3 j5.toNat).bind fun v0 => ((lim fun k => Q.dossierref05_digit.f k v0 j1).bind fun v1 => if (if decide (v1 < 0) = true then true else decide (j2 > 1073741824)) = true then some (.ret (.tup [.int .i64 0,.bool false]),lcRet [] [] 0) else (dossierref05_numbered.L0 n k0 b q j0 j1 (i64.wrap (i64.wrap (j2 * j1) + v1)) j3 j4 (i64.wrap (j5 + 1))))) else none else if decide ((↑j0.length : Int) > 0) = true then ((lim fun k => Q.dossierref01_OfXML.f k j2).bind fun v2 => some (.ret (.tup [.int .i64 j2,.bool (if true = true then v2 else false)]),lcRet [] [] 0)) else some (.ret (.tup [.int .i64 j2,.bool false]),lcRet [] [] 0) := by kernel_rfl
theorem dossierref05_numbered.top (n : Nat) (b : List Int) (q : Int) : callX false (fnF cx_dossierref05_numbered noCalls n 79) ([.sl (.int .u8) b .no,.int .i64 q]) (lcSt [] 0) out = (dossierref05_numbered.L0 n n b q b q 0 b ((↑b.length : Int)) 0) := by kernel_rfl
end Go.Proofs.YtccfmfifnbnlmaaGreatDoor.Ev
end
section
/- The evaluator's trees are the functions that were printed: characters, words. -/
set_option linter.unusedVariables false
set_option linter.unusedSimpArgs false
namespace Go.Proofs.YtccfmfifnbnlmaaGreatDoor.Ev
open Go Go.RowKit Go.Proofs.YtccfmfifnbnlmaaGreatDoorW.PrintWords
theorem chars_Decode.ok : AllOk specs_chars_Decode := okS (cx := cx_chars_Decode) rfl lib_ok (by kernel_rfl) fun args cs n K r g => by
 unfold chars_Decode.spec at g
 dsimp only [lcSt] at g
 split at g
 · rename_i b
   obtain ⟨v,h,h2⟩ := bind2 g
   clear g
   refine okG h2 ?_
   clear h2
   refine ⟨0,?_⟩
   rw [chars_Decode.top]
   unfold Q.chars_Decode.f at h
   simp only [ite_or,ite_and,seq_list,wrap_64,ba_list,decide_eq_true_eq,beq_iff_eq] at h ⊢
   grind [→ bindE]
 · cases g
theorem chars_in.l_ev (n : Nat) (r : Int) (l0 : List (Int × Int)) : ∀ (k m : Nat) (x : Int) (l : List (Int × Int)) (c i : Int) (v : Bool),k ≤ m → Q.chars_in.l0 k x (l.map fun p => ⟨p.1,p.2⟩) c i = some v → chars_in.L0 n m r l0 x l c i = some (.ret (.bool v),lcRet [] [] 0) := by
 intro k
 induction k with
 | zero => intro m x l c i v _ h; simp [Q.chars_in.l0] at h
 | succ k ih =>
  intro m x l c i v hk h
  obtain ⟨m,rfl⟩ : ∃ m',m = m' + 1 := ⟨m - 1,by omega⟩
  rw [Q.chars_in.l0] at h
  rw [chars_in.L0_s]
  have hg : ∀ (i : Int),0 ≤ i → i < l.length → nth l i.toNat = some (l.getD i.toNat (0,0)) ∧ (Q.rd_T121 (l.map fun p => ⟨p.1,p.2⟩) i) = ⟨(l.getD i.toNat (0,0)).1,(l.getD i.toNat (0,0)).2⟩ := by
   intro i h0 h1
   have hlt : i.toNat < l.length := by omega
   rw [nth_get,List.getElem?_eq_getElem hlt]
   unfold Q.rd_T121
   rw [List.getD_eq_getElem?_getD,List.getD_eq_getElem?_getD,List.getElem?_map,List.getElem?_eq_getElem hlt]
   exact ⟨rfl,rfl⟩
  have hlen : (l.map fun p => (⟨p.1,p.2⟩ : Q.S121)).length = l.length := List.length_map _
  rw [hlen] at h
  simp only [ite_or,ite_and,seq_list,wrap_64,ba_list,decide_eq_true_eq,beq_iff_eq] at h ⊢
  grind [→ bindE]
theorem chars_in.ok : AllOk specs_chars_in := okS (cx := cx_chars_in) rfl chars_Decode.ok (by kernel_rfl) fun args cs n K r g => by
 unfold chars_in.spec at g
 dsimp only [lcSt] at g
 split at g
 · rename_i r l
   obtain ⟨v,h1,h2⟩ := bind2 g
   obtain ⟨k,hk,h⟩ := lim_some h1
   clear h1
   clear g
   refine okG h2 ?_
   clear h2
   refine ⟨k,?_⟩
   rw [chars_in.top]
   unfold Q.chars_in.f at h
   rw [List.length_map] at h
   exact chars_in.l_ev k r l k k r l _ 0 v (Nat.le_refl _) h
 · cases g
theorem chars_ofXML.ok : AllOk specs_chars_ofXML := okS (cx := cx_chars_ofXML) rfl chars_in.ok (by kernel_rfl) fun args cs n K r g => by
 unfold chars_ofXML.spec at g
 dsimp only [lcSt] at g
 split at g
 · rename_i r
   obtain ⟨v,h1,h2⟩ := bind2 g
   obtain ⟨k,hk,h⟩ := lim_some h1
   clear h1
   clear g
   refine okG h2 ?_
   clear h2
   refine ⟨0,?_⟩
   rw [chars_ofXML.top]
   unfold Q.chars_ofXML.f at h
   obtain ⟨b,h1,h2⟩ := bind2 h
   obtain rfl := Option.some.inj h2
   have := lim_of (X := fun k => Q.chars_in.f k r [⟨32,55295⟩,⟨9,10⟩,⟨13,13⟩,⟨57344,65533⟩,⟨65536,1114111⟩]) (fun k => Q.chars_in.mono r _ k) hk h1
   simp only [List.map] 
   rw [this]
   rfl
 · cases g
theorem chars_Wrong.l_ev (n : Nat) (b : List Int) : ∀ (k m : Nat) (l : List Int) (i : Int) (v : Int),k ≤ 16000000 → k ≤ m → Q.chars_Wrong.l0 k l i = some v → chars_Wrong.L0 n m b l i = some (.ret (.int .i64 v),lcRet [] [] 0) := by
 intro k
 induction k with
 | zero => intro m l i v _ _ h; simp [Q.chars_Wrong.l0] at h
 | succ k ih =>
  intro m l i v hk0 hk h
  obtain ⟨m,rfl⟩ : ∃ m',m = m' + 1 := ⟨m - 1,by omega⟩
  rw [Q.chars_Wrong.l0] at h
  rw [chars_Wrong.L0_s]
  have hx : ∀ r v,Q.chars_ofXML.f k r = some v → lim (fun k => Q.chars_ofXML.f k r) = some v := fun r v h => lim_of (fun k => Q.chars_ofXML.mono r k) (by omega) h
  simp only [ite_or,ite_and,seq_list,wrap_64,ba_list,decide_eq_true_eq,beq_iff_eq] at h ⊢
  grind [→ bindE]
theorem chars_Wrong.ok : AllOk specs_chars_Wrong := okS (cx := cx_chars_Wrong) rfl chars_ofXML.ok (by kernel_rfl) fun args cs n K r g => by
 unfold chars_Wrong.spec at g
 dsimp only [lcSt] at g
 split at g
 · rename_i b
   obtain ⟨v,h1,h2⟩ := bind2 g
   obtain ⟨k,hk,h⟩ := lim_some h1
   clear h1
   clear g
   refine okG h2 ?_
   clear h2
   refine ⟨k,?_⟩
   rw [chars_Wrong.top]
   exact chars_Wrong.l_ev k b k k b 0 v hk (Nat.le_refl _) h
 · cases g
theorem dossierref01_Space.ok : AllOk specs_dossierref01_Space := okS (cx := cx_dossierref01_Space) rfl chars_Wrong.ok (by kernel_rfl) fun args cs n K r g => by
 unfold dossierref01_Space.spec at g
 dsimp only [lcSt] at g
 split at g
 · rename_i r
   obtain ⟨v,h,h2⟩ := bind2 g
   clear g
   refine okG h2 ?_
   clear h2
   refine ⟨0,?_⟩
   rw [dossierref01_Space.top]
   unfold Q.dossierref01_Space.f at h
   simp only [ite_or,ite_and,false_or_b,true_and_b,seq_list,seq_false,wrap_64,wrap_8,wrap_u64_mod,ba_list,decide_eq_true_eq,beq_iff_eq,Bool.not_eq_true',Int.zero_sub,toBytes_len,bt_eq,shr_6,shr_12,shr_18,wrap64_mod,toNat0,toNat1,toNat2,most,List.length_cons,List.length_nil,ofBytes_eq] at h ⊢
   grind [→ bindE]
 · cases g
theorem dossierref01_Encode.ok : AllOk specs_dossierref01_Encode := okS (cx := cx_dossierref01_Encode) rfl dossierref01_Space.ok (by kernel_rfl) fun args cs n K r g => by
 unfold dossierref01_Encode.spec at g
 dsimp only [lcSt] at g
 split at g
 · rename_i r
   obtain ⟨v,h1,h2⟩ := bind2 g
   obtain ⟨k,hk,h⟩ := lim_some h1
   clear h1
   clear g
   refine okG h2 ?_
   clear h2
   refine ⟨0,?_⟩
   rw [dossierref01_Encode.top]
   unfold Q.dossierref01_Encode.f at h
   rcases k with _ | k <;> simp only [Q.dossierref01_Encode.j0] at h <;> simp only [ite_or,ite_and,false_or_b,true_and_b,seq_list,seq_false,wrap_64,wrap_8,wrap_u64_mod,ba_list,decide_eq_true_eq,beq_iff_eq,Bool.not_eq_true',Int.zero_sub,toBytes_len,bt_eq,shr_6,shr_12,shr_18,wrap64_mod,toNat0,toNat1,toNat2,most,List.length_cons,List.length_nil,ofBytes_eq] at h ⊢ <;> grind
 · cases g
theorem dossierref01_Decode.l_ev (n : Nat) (b0 : List Int) : ∀ (k m : Nat) (b : List Int) (x4 x5 : Int) (l : List Int) (c i : Int) (v : Int × Int),k ≤ 16000000 → k ≤ m → Q.dossierref01_Decode.l0 k b x4 x5 l c i = some v → dossierref01_Decode.L0 n m b0 b x4 x5 l c i = some (.ret (.tup [.int .i64 v.1,.int .i64 v.2]),lcRet [] [] 0) := by
 intro k
 induction k with
 | zero => intro m b x4 x5 l c i v _ _ h; simp [Q.dossierref01_Decode.l0] at h
 | succ k ih =>
  intro m b x4 x5 l c i v hk0 hk h
  obtain ⟨m,rfl⟩ : ∃ m',m = m' + 1 := ⟨m - 1,by omega⟩
  rw [Q.dossierref01_Decode.l0] at h
  rw [dossierref01_Decode.L0_s]
  have hx : ∀ t v,Q.dossierref01_Encode.f k t = some v → lim (fun k => Q.dossierref01_Encode.f k t) = some v := fun t v h => lim_of (fun k => Q.dossierref01_Encode.mono t k) (by omega) h
  have hn := nth_rd l i
  simp only [ite_or,ite_and,false_or_b,true_and_b,seq_list,seq_false,wrap_64,wrap_8,wrap_u64_mod,ba_list,decide_eq_true_eq,beq_iff_eq,Bool.not_eq_true',Int.zero_sub,toBytes_len,bt_eq,shr_6,shr_12,shr_18,wrap64_mod,toNat0,toNat1,toNat2,most,List.length_cons,List.length_nil,ofBytes_eq] at h ⊢
  grind [→ bindE]
theorem dossierref01_Decode.ok : AllOk specs_dossierref01_Decode := okS (cx := cx_dossierref01_Decode) rfl dossierref01_Encode.ok (by kernel_rfl) fun args cs n K r g => by
 unfold dossierref01_Decode.spec at g
 dsimp only [lcSt] at g
 split at g
 · rename_i b
   obtain ⟨v,h1,h2⟩ := bind2 g
   obtain ⟨k,hk,h⟩ := lim_some h1
   clear h1
   clear g
   refine okG h2 ?_
   clear h2
   refine ⟨k,?_⟩
   rw [dossierref01_Decode.top]
   unfold Q.dossierref01_Decode.f at h
   have key := dossierref01_Decode.l_ev k b
   have hn := nth_rd0 b
   rcases k with _ | k <;> simp only [Q.dossierref01_Decode.j0] at h <;> simp only [ite_or,ite_and,false_or_b,true_and_b,seq_list,seq_false,wrap_64,wrap_8,wrap_u64_mod,ba_list,decide_eq_true_eq,beq_iff_eq,Bool.not_eq_true',Int.zero_sub,toBytes_len,bt_eq,shr_6,shr_12,shr_18,wrap64_mod,toNat0,toNat1,toNat2,most,List.length_cons,List.length_nil,ofBytes_eq] at h ⊢ <;> grind [→ bindE]
 · cases g
theorem dossierref01_within.l_ev (n : Nat) (r0 : Int) (l0 : List Int) : ∀ (k m : Nat) (r : Int) (l : List Int) (i : Int) (v : Bool),k ≤ m → Q.dossierref01_within.l0 k r l i = some v → dossierref01_within.L0 n m r0 l0 r l i = some (.ret (.bool v),lcRet [] [] 0) := by
 intro k
 induction k with
 | zero => intro m r l i v _ h; simp [Q.dossierref01_within.l0] at h
 | succ k ih =>
  intro m r l i v hk h
  obtain ⟨m,rfl⟩ : ∃ m',m = m' + 1 := ⟨m - 1,by omega⟩
  rw [Q.dossierref01_within.l0] at h
  rw [dossierref01_within.L0_s]
  have hn := nth_rd l i
  have hn1 := nth_rd l (wrap64 (i + 1))
  simp only [ite_or,ite_and,false_or_b,true_and_b,seq_list,seq_false,wrap_64,wrap_8,wrap_u64_mod,ba_list,decide_eq_true_eq,beq_iff_eq,Bool.not_eq_true',Int.zero_sub,toBytes_len,bt_eq,shr_6,shr_12,shr_18,wrap64_mod,toNat0,toNat1,toNat2,most,List.length_cons,List.length_nil,ofBytes_eq] at h ⊢
  grind [→ bindE]
theorem dossierref01_within.ok : AllOk specs_dossierref01_within := okS (cx := cx_dossierref01_within) rfl dossierref01_Decode.ok (by kernel_rfl) fun args cs n K r g => by
 unfold dossierref01_within.spec at g
 dsimp only [lcSt] at g
 split at g
 · rename_i r l
   obtain ⟨v,h1,h2⟩ := bind2 g
   obtain ⟨k,hk,h⟩ := lim_some h1
   clear h1
   clear g
   refine okG h2 ?_
   clear h2
   refine ⟨k,?_⟩
   rw [dossierref01_within.top]
   exact dossierref01_within.l_ev k r l k k r l 0 v (Nat.le_refl _) h
 · cases g
theorem dossierref01_OfXML.ok : AllOk specs_dossierref01_OfXML := okS (cx := cx_dossierref01_OfXML) rfl dossierref01_within.ok (by kernel_rfl) fun args cs n K r g => by
 unfold dossierref01_OfXML.spec at g
 dsimp only [lcSt] at g
 split at g
 · rename_i r
   obtain ⟨v,h1,h2⟩ := bind2 g
   obtain ⟨k,hk,h⟩ := lim_some h1
   clear h1
   clear g
   refine okG h2 ?_
   clear h2
   refine ⟨0,?_⟩
   rw [dossierref01_OfXML.top]
   unfold Q.dossierref01_OfXML.f at h
   obtain ⟨b,h1,h2⟩ := bind2 h
   obtain rfl := Option.some.inj h2
   have := lim_of (fun k => Q.dossierref01_within.mono r _ k) hk h1
   rw [this]
   rfl
 · cases g
theorem dossierref01_Text.step (k : Nat) (h0 : CallOkL Tryz.prog C0 32 (dossierref01_Text.specR k)) : CallOkL Tryz.prog C0 32 (dossierref01_Text.specR (k + 1)) := okR (cx := cx_dossierref01_Text) (R := dossierref01_Text.rec k) rfl rfl dossierref01_OfXML.ok (fun x hx => by
 obtain rfl := List.mem_singleton.1 hx
 exact ⟨fnOk_of (by kernel_rfl),h0⟩) fun args cs n K r g => by
 unfold dossierref01_Text.specR at g
 dsimp only [lcSt] at g
 split at g
 · rename_i r
   obtain ⟨v,h,h2⟩ := bind2 g
   clear g
   refine okG h2 ?_
   clear h2
   refine ⟨0,?_⟩
   rw [dossierref01_Text.top]
   rw [Q.dossierref01_Text.f] at h
   have hs : (ByteArray.mk #[(45 : UInt8)]).size = 1 := rfl
   have hd : ((ByteArray.mk #[48,49,50,51,52,53,54,55,56,57]).size : Int) = 10 := rfl
   simp only [hs,hd] at h ⊢
   simp only [ite_or,ite_and,false_or_b,true_and_b,seq_list,seq_false,wrap_64,wrap_8,wrap_u64_mod,ba_list,decide_eq_true_eq,beq_iff_eq,Bool.not_eq_true',Int.zero_sub,toBytes_len,bt_eq,shr_6,shr_12,shr_18,wrap64_mod,toNat0,toNat1,toNat2,most,List.length_cons,List.length_nil,ofBytes_eq] at h ⊢
   grind [→ bindE]
 · cases g
theorem dossierref01_Text.zero : CallOkL Tryz.prog C0 32 (dossierref01_Text.specR 0) := fun args cs n K r h => by
 unfold dossierref01_Text.specR at h
 dsimp only [lcSt] at h
 split at h
 · obtain ⟨v,h1,h2⟩ := bind2 h
   exact absurd h1 (by first | (simp [Q.dossierref01_Text.f]; done) | (unfold Q.dossierref01_Text.f; simp))
 · cases h
theorem dossierref01_Text.recOk : ∀ k,CallOkL Tryz.prog C0 32 (dossierref01_Text.specR k)
 | 0 => dossierref01_Text.zero
 | k + 1 => dossierref01_Text.step k (dossierref01_Text.recOk k)
theorem dossierref01_Text.ok : AllOk specs_dossierref01_Text := allOk_cons dossierref01_OfXML.ok (fnOk_of (by kernel_rfl)) fun args cs n K r h => by
 unfold dossierref01_Text.spec at h
 dsimp only [lcSt] at h
 split at h
 · obtain ⟨v,h1,h2⟩ := bind2 h
   obtain ⟨k,hk,h3⟩ := lim_some h1
   refine dossierref01_Text.recOk k _ _ _ K r ?_
   unfold dossierref01_Text.specR
   dsimp only [lcSt]
   show Option.bind _ _ = some r
   rw [h3]
   exact h2
 · cases h
theorem bits_go (op : BinOp) (k : IntKind) (x y : Int) : Ev.bits op k x y = Go.bits op k x y := by cases op <;> rfl
theorem shr32 (r c : Int) (d : Int) (h : (2 : Int) ^ min (Int.toNat c) IntKind.i32.bits = d) (hd : 0 ≤ d) : r.fdiv ((2 : Int) ^ min (Int.toNat c) IntKind.i32.bits) = r / d := by rw [h]; exact Int.fdiv_eq_ediv_of_nonneg r hd
theorem shr32_6 (r : Int) : r.fdiv ((2 : Int) ^ min (Int.toNat (6 : Int)) IntKind.i32.bits) = r / 64 := shr32 r 6 64 (by decide) (by decide)
theorem shr32_12 (r : Int) : r.fdiv ((2 : Int) ^ min (Int.toNat (12 : Int)) IntKind.i32.bits) = r / 4096 := shr32 r 12 4096 (by decide) (by decide)
theorem shr32_18 (r : Int) : r.fdiv ((2 : Int) ^ min (Int.toNat (18 : Int)) IntKind.i32.bits) = r / 262144 := shr32 r 18 262144 (by decide) (by decide)
theorem utf8_ValidRune.ok : AllOk specs_utf8_ValidRune := okS (cx := cx_utf8_ValidRune) rfl dossierref01_Text.ok (by kernel_rfl) fun args cs n K r g => by
 unfold utf8_ValidRune.spec at g
 dsimp only [lcSt] at g
 split at g
 · rename_i r
   obtain ⟨v,h1,h2⟩ := bind2 g
   obtain ⟨k,hk,h⟩ := lim_some h1
   clear h1
   clear g
   refine okG h2 ?_
   clear h2
   refine ⟨0,?_⟩
   rw [utf8_ValidRune.top]
   unfold Q.utf8_ValidRune.f at h
   rcases k with _ | k <;> simp only [Q.utf8_ValidRune.j0] at h <;> simp only [ite_or,ite_and,false_or_b,true_and_b,seq_list,seq_false,wrap_64,wrap_8,wrap_u64_mod,ba_list,decide_eq_true_eq,beq_iff_eq,Bool.not_eq_true',Int.zero_sub,toBytes_len,bt_eq,shr_6,shr_12,shr_18,wrap64_mod,toNat0,toNat1,toNat2,most,List.length_cons,List.length_nil,ofBytes_eq] at h ⊢ <;> grind
 · cases g
theorem utf8_appendRuneNonASCII.ok : AllOk specs_utf8_appendRuneNonASCII := okSk (cx := cx_utf8_appendRuneNonASCII) rfl utf8_ValidRune.ok (by kernel_rfl) fun args cs n K r g => by
 unfold utf8_appendRuneNonASCII.spec at g
 dsimp only [lcSt] at g
 split at g
 · rename_i r
   obtain ⟨v,h1,h2⟩ := bind2 g
   obtain ⟨k,hk,h⟩ := lim_some h1
   clear h1
   clear g
   refine okG h2 ?_
   clear h2
   refine ⟨0,?_⟩
   rw [utf8_appendRuneNonASCII.top]
   unfold Q.utf8_appendRuneNonASCII.f at h
   simp only [bits_go,shr32_6,shr32_12,shr32_18,IntKind.wrap_u32]
   rcases k with _ | k <;> simp only [Q.utf8_appendRuneNonASCII.j0,Option.bind_some,List.length_cons,List.length_nil,List.nil_append] at h <;> simp only [ite_or,ite_and,false_or_b,true_and_b,seq_list,seq_false,wrap_64,wrap_8,wrap_u64_mod,ba_list,decide_eq_true_eq,beq_iff_eq,Bool.not_eq_true',Int.zero_sub,toBytes_len,bt_eq,shr_6,shr_12,shr_18,wrap64_mod,toNat0,toNat1,toNat2,most,List.length_cons,List.length_nil,ofBytes_eq] at h ⊢ <;> grind
 · cases g
theorem utf8_AppendRune.ok : AllOk specs_utf8_AppendRune := okSk (cx := cx_utf8_AppendRune) rfl utf8_appendRuneNonASCII.ok (by kernel_rfl) fun args cs n K r g => by
 unfold utf8_AppendRune.spec at g
 dsimp only [lcSt] at g
 split at g
 · rename_i r
   obtain ⟨v,h1,h2⟩ := bind2 g
   obtain ⟨k,hk,h⟩ := lim_some h1
   clear h1
   clear g
   refine okG h2 ?_
   clear h2
   refine ⟨0,?_⟩
   rw [utf8_AppendRune.top]
   unfold Q.utf8_AppendRune.f at h
   simp only [IntKind.wrap_u32]
   have hx : ∀ r v,Q.utf8_appendRuneNonASCII.f k [] r = some v → lim (fun k => Q.utf8_appendRuneNonASCII.f k [] r) = some v := fun r v h => lim_of (fun k => Q.utf8_appendRuneNonASCII.mono [] r k) hk h
   simp only [ite_or,ite_and,false_or_b,true_and_b,seq_list,seq_false,wrap_64,wrap_8,wrap_u64_mod,ba_list,decide_eq_true_eq,beq_iff_eq,Bool.not_eq_true',Int.zero_sub,toBytes_len,bt_eq,shr_6,shr_12,shr_18,wrap64_mod,toNat0,toNat1,toNat2,most,List.length_cons,List.length_nil,ofBytes_eq] at h ⊢
   grind [→ bindE]
 · cases g
theorem chars_First.ok : AllOk specs_chars_First := okS (cx := cx_chars_First) rfl utf8_AppendRune.ok (by kernel_rfl) fun args cs n K r g => by
 unfold chars_First.spec at g
 dsimp only [lcSt] at g
 split at g
 · rename_i r
   obtain ⟨v,h1,h2⟩ := bind2 g
   obtain ⟨k,hk,h⟩ := lim_some h1
   clear h1
   clear g
   refine okG h2 ?_
   clear h2
   refine ⟨0,?_⟩
   rw [chars_First.top]
   unfold Q.chars_First.f at h
   simp only [bits_go]
   have hx : ∀ l v,Q.chars_in.f k r l = some v → lim (fun k => Q.chars_in.f k r l) = some v := fun l v h => lim_of (fun k => Q.chars_in.mono r l k) hk h
   simp only [List.map]
   simp only [ite_or,ite_and,false_or_b,true_and_b,seq_list,seq_false,wrap_64,wrap_8,wrap_u64_mod,ba_list,decide_eq_true_eq,beq_iff_eq,Bool.not_eq_true',Int.zero_sub,toBytes_len,bt_eq,shr_6,shr_12,shr_18,wrap64_mod,toNat0,toNat1,toNat2,most,List.length_cons,List.length_nil,ofBytes_eq] at h ⊢
   grind [→ bindE]
 · cases g
theorem chars_Later.ok : AllOk specs_chars_Later := okS (cx := cx_chars_Later) rfl chars_First.ok (by kernel_rfl) fun args cs n K r g => by
 unfold chars_Later.spec at g
 dsimp only [lcSt] at g
 split at g
 · rename_i r
   obtain ⟨v,h1,h2⟩ := bind2 g
   obtain ⟨k,hk,h⟩ := lim_some h1
   clear h1
   clear g
   refine okG h2 ?_
   clear h2
   refine ⟨0,?_⟩
   rw [chars_Later.top]
   unfold Q.chars_Later.f at h
   have hx : ∀ l v,Q.chars_in.f k r l = some v → lim (fun k => Q.chars_in.f k r l) = some v := fun l v h => lim_of (fun k => Q.chars_in.mono r l k) hk h
   have hy : ∀ v,Q.chars_First.f k r = some v → lim (fun k => Q.chars_First.f k r) = some v := fun v h => lim_of (fun k => Q.chars_First.mono r k) hk h
   simp only [List.map]
   simp only [ite_or,ite_and,false_or_b,true_and_b,seq_list,seq_false,wrap_64,wrap_8,wrap_u64_mod,ba_list,decide_eq_true_eq,beq_iff_eq,Bool.not_eq_true',Int.zero_sub,toBytes_len,bt_eq,shr_6,shr_12,shr_18,wrap64_mod,toNat0,toNat1,toNat2,most,List.length_cons,List.length_nil,ofBytes_eq] at h ⊢
   grind [→ bindE]
 · cases g
theorem chars_Space.ok : AllOk specs_chars_Space := okS (cx := cx_chars_Space) rfl chars_Later.ok (by kernel_rfl) fun args cs n K r g => by
 unfold chars_Space.spec at g
 dsimp only [lcSt] at g
 split at g
 · rename_i r
   obtain ⟨v,h,h2⟩ := bind2 g
   clear g
   refine okG h2 ?_
   clear h2
   refine ⟨0,?_⟩
   rw [chars_Space.top]
   unfold Q.chars_Space.f at h
   simp only [ite_or,ite_and,false_or_b,true_and_b,seq_list,seq_false,wrap_64,wrap_8,wrap_u64_mod,ba_list,decide_eq_true_eq,beq_iff_eq,Bool.not_eq_true',Int.zero_sub,toBytes_len,bt_eq,shr_6,shr_12,shr_18,wrap64_mod,toNat0,toNat1,toNat2,most,List.length_cons,List.length_nil,ofBytes_eq] at h ⊢
   grind
 · cases g
theorem chars_Encode.ok : AllOk specs_chars_Encode := okS (cx := cx_chars_Encode) rfl chars_Space.ok (by kernel_rfl) fun args cs n K r g => by
 unfold chars_Encode.spec at g
 dsimp only [lcSt] at g
 split at g
 · rename_i r
   obtain ⟨v,h1,h2⟩ := bind2 g
   obtain ⟨k,hk,h⟩ := lim_some h1
   clear h1
   clear g
   refine okG h2 ?_
   clear h2
   refine ⟨0,?_⟩
   rw [chars_Encode.top]
   unfold Q.chars_Encode.f at h
   have hw : ∀ x,IntKind.i32.wrap x = wrap32 x := fun x => by unfold wrap32; exact IntKind.wrap_i32 x
   have hx : ∀ r v,Q.utf8_ValidRune.f k r = some v → lim (fun k => Q.utf8_ValidRune.f k r) = some v := fun r v h => lim_of (fun k => Q.utf8_ValidRune.mono r k) hk h
   have hy : ∀ r v,Q.utf8_AppendRune.f k [] r = some v → lim (fun k => Q.utf8_AppendRune.f k [] r) = some v := fun r v h => lim_of (fun k => Q.utf8_AppendRune.mono [] r k) hk h
   rw [hw]
   simp only [ite_or,ite_and,false_or_b,true_and_b,seq_list,seq_false,wrap_64,wrap_8,wrap_u64_mod,ba_list,decide_eq_true_eq,beq_iff_eq,Bool.not_eq_true',Int.zero_sub,toBytes_len,bt_eq,shr_6,shr_12,shr_18,wrap64_mod,toNat0,toNat1,toNat2,most,List.length_cons,List.length_nil,ofBytes_eq] at h ⊢
   grind [→ bindE]
 · cases g
theorem xmllex_nameOf.l_ev (n : Nat) (b0 : List Int) : ∀ (k m : Nat) (b : List Int) (i : Int) (v : List Int),k ≤ 16000000 → k ≤ m → Q.xmllex_nameOf.l0 k b i = some v → xmllex_nameOf.L0 n m b0 b i = some (.ret (.sl (.int .u8) v .no),lcRet [] [] 0) := by
 intro k
 induction k with
 | zero => intro m b i v _ _ h; simp [Q.xmllex_nameOf.l0] at h
 | succ k ih =>
  intro m b i v hk0 hk h
  obtain ⟨m,rfl⟩ : ∃ m',m = m' + 1 := ⟨m - 1,by omega⟩
  rw [Q.xmllex_nameOf.l0] at h
  rw [xmllex_nameOf.L0_s]
  have hx : ∀ t v,Q.chars_First.f k t = some v → lim (fun k => Q.chars_First.f k t) = some v := fun t v h => lim_of (fun k => Q.chars_First.mono t k) (by omega) h
  have hy : ∀ t v,Q.chars_Later.f k t = some v → lim (fun k => Q.chars_Later.f k t) = some v := fun t v h => lim_of (fun k => Q.chars_Later.mono t k) (by omega) h
  simp only [ite_or,ite_and,false_or_b,true_and_b,seq_list,seq_false,wrap_64,wrap_8,wrap_u64_mod,ba_list,decide_eq_true_eq,beq_iff_eq,Bool.not_eq_true',Int.zero_sub,toBytes_len,bt_eq,shr_6,shr_12,shr_18,wrap64_mod,toNat0,toNat1,toNat2,most,List.length_cons,List.length_nil,ofBytes_eq] at h ⊢
  grind [→ bindE]
theorem xmllex_nameOf.ok : AllOk specs_xmllex_nameOf := okS (cx := cx_xmllex_nameOf) rfl chars_Encode.ok (by kernel_rfl) fun args cs n K r g => by
 unfold xmllex_nameOf.spec at g
 dsimp only [lcSt] at g
 split at g
 · rename_i b
   obtain ⟨v,h1,h2⟩ := bind2 g
   obtain ⟨k,hk,h⟩ := lim_some h1
   clear h1
   clear g
   refine okG h2 ?_
   clear h2
   refine ⟨k,?_⟩
   rw [xmllex_nameOf.top]
   exact xmllex_nameOf.l_ev k b k k b 0 v hk (Nat.le_refl _) h
 · cases g
theorem dossierref01_First.ok : AllOk specs_dossierref01_First := okS (cx := cx_dossierref01_First) rfl xmllex_nameOf.ok (by kernel_rfl) fun args cs n K r g => by
 unfold dossierref01_First.spec at g
 dsimp only [lcSt] at g
 split at g
 · rename_i r
   obtain ⟨v,h1,h2⟩ := bind2 g
   obtain ⟨k,hk,h⟩ := lim_some h1
   clear h1
   clear g
   refine okG h2 ?_
   clear h2
   refine ⟨0,?_⟩
   rw [dossierref01_First.top]
   unfold Q.dossierref01_First.f at h
   have hx : ∀ l v,Q.dossierref01_within.f k r l = some v → lim (fun k => Q.dossierref01_within.f k r l) = some v := fun l v h => lim_of (fun k => Q.dossierref01_within.mono r l k) hk h
   try simp only [ite_or,ite_and,false_or_b,true_and_b,seq_list,seq_false,wrap_64,wrap_8,wrap_u64_mod,ba_list,decide_eq_true_eq,beq_iff_eq,Bool.not_eq_true',Int.zero_sub,toBytes_len,bt_eq,shr_6,shr_12,shr_18,wrap64_mod,toNat0,toNat1,toNat2,most,List.length_cons,List.length_nil,ofBytes_eq] at h ⊢
   grind [→ bindE]
 · cases g
theorem dossierref01_Later.ok : AllOk specs_dossierref01_Later := okS (cx := cx_dossierref01_Later) rfl dossierref01_First.ok (by kernel_rfl) fun args cs n K r g => by
 unfold dossierref01_Later.spec at g
 dsimp only [lcSt] at g
 split at g
 · rename_i r
   obtain ⟨v,h1,h2⟩ := bind2 g
   obtain ⟨k,hk,h⟩ := lim_some h1
   clear h1
   clear g
   refine okG h2 ?_
   clear h2
   refine ⟨0,?_⟩
   rw [dossierref01_Later.top]
   unfold Q.dossierref01_Later.f at h
   have hx : ∀ l v,Q.dossierref01_within.f k r l = some v → lim (fun k => Q.dossierref01_within.f k r l) = some v := fun l v h => lim_of (fun k => Q.dossierref01_within.mono r l k) hk h
   have hy : ∀ v,Q.dossierref01_First.f k r = some v → lim (fun k => Q.dossierref01_First.f k r) = some v := fun v h => lim_of (fun k => Q.dossierref01_First.mono r k) hk h
   try simp only [ite_or,ite_and,false_or_b,true_and_b,seq_list,seq_false,wrap_64,wrap_8,wrap_u64_mod,ba_list,decide_eq_true_eq,beq_iff_eq,Bool.not_eq_true',Int.zero_sub,toBytes_len,bt_eq,shr_6,shr_12,shr_18,wrap64_mod,toNat0,toNat1,toNat2,most,List.length_cons,List.length_nil,ofBytes_eq] at h ⊢
   grind [→ bindE]
 · cases g
theorem dossierref01_NameAt.l_ev (n : Nat) (b0 : List Int) : ∀ (k m : Nat) (b : List Int) (i : Int) (v : Int),k ≤ 16000000 → k ≤ m → Q.dossierref01_NameAt.l0 k b i = some v → dossierref01_NameAt.L0 n m b0 b i = some (.ret (.int .i64 v),lcRet [] [] 0) := by
 intro k
 induction k with
 | zero => intro m b i v _ _ h; simp [Q.dossierref01_NameAt.l0] at h
 | succ k ih =>
  intro m b i v hk0 hk h
  obtain ⟨m,rfl⟩ : ∃ m',m = m' + 1 := ⟨m - 1,by omega⟩
  rw [Q.dossierref01_NameAt.l0] at h
  rw [dossierref01_NameAt.L0_s]
  have hx : ∀ t v,Q.dossierref01_Decode.f k t = some v → lim (fun k => Q.dossierref01_Decode.f k t) = some v := fun t v h => lim_of (fun k => Q.dossierref01_Decode.mono t k) (by omega) h
  have hy : ∀ t v,Q.dossierref01_Later.f k t = some v → lim (fun k => Q.dossierref01_Later.f k t) = some v := fun t v h => lim_of (fun k => Q.dossierref01_Later.mono t k) (by omega) h
  simp only [ite_or,ite_and,false_or_b,true_and_b,seq_list,seq_false,wrap_64,wrap_8,wrap_u64_mod,ba_list,decide_eq_true_eq,beq_iff_eq,Bool.not_eq_true',Int.zero_sub,toBytes_len,bt_eq,shr_6,shr_12,shr_18,wrap64_mod,toNat0,toNat1,toNat2,most,List.length_cons,List.length_nil,ofBytes_eq] at h ⊢
  grind [→ bindE]
theorem dossierref01_NameAt.ok : AllOk specs_dossierref01_NameAt := okS (cx := cx_dossierref01_NameAt) rfl dossierref01_Later.ok (by kernel_rfl) fun args cs n K r g => by
 unfold dossierref01_NameAt.spec at g
 dsimp only [lcSt] at g
 split at g
 · rename_i b
   obtain ⟨v,h1,h2⟩ := bind2 g
   obtain ⟨k,hk,h⟩ := lim_some h1
   clear h1
   clear g
   refine okG h2 ?_
   clear h2
   refine ⟨k,?_⟩
   rw [dossierref01_NameAt.top]
   unfold Q.dossierref01_NameAt.f at h
   have key := dossierref01_NameAt.l_ev k b
   have hx : ∀ t v,Q.dossierref01_Decode.f k t = some v → lim (fun k => Q.dossierref01_Decode.f k t) = some v := fun t v h => lim_of (fun k => Q.dossierref01_Decode.mono t k) (by omega) h
   have hy : ∀ t v,Q.dossierref01_First.f k t = some v → lim (fun k => Q.dossierref01_First.f k t) = some v := fun t v h => lim_of (fun k => Q.dossierref01_First.mono t k) (by omega) h
   rcases k with _ | k <;> simp only [Q.dossierref01_NameAt.j0] at h <;> simp only [ite_or,ite_and,false_or_b,true_and_b,seq_list,seq_false,wrap_64,wrap_8,wrap_u64_mod,ba_list,decide_eq_true_eq,beq_iff_eq,Bool.not_eq_true',Int.zero_sub,toBytes_len,bt_eq,shr_6,shr_12,shr_18,wrap64_mod,toNat0,toNat1,toNat2,most,List.length_cons,List.length_nil,ofBytes_eq] at h ⊢ <;> grind [→ bindE]
 · cases g
theorem dossierref05_begins.ok : AllOk specs_dossierref05_begins := okS (cx := cx_dossierref05_begins) rfl dossierref01_NameAt.ok (by kernel_rfl) fun args cs n K r g => by
 unfold dossierref05_begins.spec at g
 dsimp only [lcSt] at g
 split at g
 · rename_i b s
   obtain ⟨v,h,h2⟩ := bind2 g
   clear g
   refine okG h2 ?_
   clear h2
   refine ⟨0,?_⟩
   rw [dossierref05_begins.top]
   unfold Q.dossierref05_begins.f at h
   have hs : ∀ x y : ByteArray,seq x y = (x.toList == y.toList) := fun x y => by rw [Bool.eq_iff_iff,seq_list,beq_iff_eq]
   simp only [hs]
   simp only [ite_or,ite_and,false_or_b,true_and_b,seq_list,seq_false,wrap_64,wrap_8,wrap_u64_mod,ba_list,decide_eq_true_eq,beq_iff_eq,Bool.not_eq_true',Int.zero_sub,toBytes_len,bt_eq,shr_6,shr_12,shr_18,wrap64_mod,toNat0,toNat1,toNat2,most,List.length_cons,List.length_nil,ofBytes_eq] at h ⊢
   grind
 · cases g
theorem dossierref05_find.l_ev (n : Nat) (b0 : List Int) (s0 : ByteArray) : ∀ (k m : Nat) (b : List Int) (s : ByteArray) (c i : Int) (v : Int),k ≤ m → Q.dossierref05_find.l0 k b s c i = some v → dossierref05_find.L0 n m b0 s0 b s c i = some (.ret (.int .i64 v),lcRet [] [] 0) := by
 intro k
 induction k with
 | zero => intro m b s c i v _ h; simp [Q.dossierref05_find.l0] at h
 | succ k ih =>
  intro m b s c i v hk h
  obtain ⟨m,rfl⟩ : ∃ m',m = m' + 1 := ⟨m - 1,by omega⟩
  rw [Q.dossierref05_find.l0] at h
  rw [dossierref05_find.L0_s]
  simp only [ite_or,ite_and,false_or_b,true_and_b,seq_list,seq_false,wrap_64,wrap_8,wrap_u64_mod,ba_list,decide_eq_true_eq,beq_iff_eq,Bool.not_eq_true',Int.zero_sub,toBytes_len,bt_eq,shr_6,shr_12,shr_18,wrap64_mod,toNat0,toNat1,toNat2,most,List.length_cons,List.length_nil,ofBytes_eq] at h ⊢
  grind [→ bindE]
theorem dossierref05_find.ok : AllOk specs_dossierref05_find := okS (cx := cx_dossierref05_find) rfl dossierref05_begins.ok (by kernel_rfl) fun args cs n K r g => by
 unfold dossierref05_find.spec at g
 dsimp only [lcSt] at g
 split at g
 · rename_i b s
   obtain ⟨v,h1,h2⟩ := bind2 g
   obtain ⟨k,hk,h⟩ := lim_some h1
   clear h1
   clear g
   refine okG h2 ?_
   clear h2
   refine ⟨k,?_⟩
   rw [dossierref05_find.top]
   exact dossierref05_find.l_ev k b s k k b s _ 0 v (Nat.le_refl _) h
 · cases g
theorem dossierref05_blanks.l_ev (n : Nat) (b0 : List Int) : ∀ (k m : Nat) (b : List Int) (i : Int) (v : Int),k ≤ m → Q.dossierref05_blanks.l0 k b i = some v → dossierref05_blanks.L0 n m b0 b i = some (.ret (.int .i64 v),lcRet [] [] 0) := by
 intro k
 induction k with
 | zero => intro m b i v _ h; simp [Q.dossierref05_blanks.l0] at h
 | succ k ih =>
  intro m b i v hk h
  obtain ⟨m,rfl⟩ : ∃ m',m = m' + 1 := ⟨m - 1,by omega⟩
  rw [Q.dossierref05_blanks.l0] at h
  rw [dossierref05_blanks.L0_s]
  have hn := nth_rd b i
  simp only [ite_or,ite_and,false_or_b,true_and_b,seq_list,seq_false,wrap_64,wrap_8,wrap_u64_mod,ba_list,decide_eq_true_eq,beq_iff_eq,Bool.not_eq_true',Int.zero_sub,toBytes_len,bt_eq,shr_6,shr_12,shr_18,wrap64_mod,toNat0,toNat1,toNat2,most,List.length_cons,List.length_nil,ofBytes_eq] at h ⊢
  grind [→ bindE]
theorem dossierref05_blanks.ok : AllOk specs_dossierref05_blanks := okS (cx := cx_dossierref05_blanks) rfl dossierref05_find.ok (by kernel_rfl) fun args cs n K r g => by
 unfold dossierref05_blanks.spec at g
 dsimp only [lcSt] at g
 split at g
 · rename_i b
   obtain ⟨v,h1,h2⟩ := bind2 g
   obtain ⟨k,hk,h⟩ := lim_some h1
   clear h1
   clear g
   refine okG h2 ?_
   clear h2
   refine ⟨k,?_⟩
   rw [dossierref05_blanks.top]
   exact dossierref05_blanks.l_ev k b k k b 0 v (Nat.le_refl _) h
 · cases g
theorem dossierref05_digit.ok : AllOk specs_dossierref05_digit := okS (cx := cx_dossierref05_digit) rfl dossierref05_blanks.ok (by kernel_rfl) fun args cs n K r g => by
 unfold dossierref05_digit.spec at g
 dsimp only [lcSt] at g
 split at g
 · rename_i x q
   obtain ⟨v,h1,h2⟩ := bind2 g
   obtain ⟨k,hk,h⟩ := lim_some h1
   clear h1
   clear g
   refine okG h2 ?_
   clear h2
   refine ⟨0,?_⟩
   rw [dossierref05_digit.top]
   unfold Q.dossierref05_digit.f at h
   have hw : ∀ x : Int,wrap64 (x % 256 + 10) = x % 256 + 10 := fun x => by unfold wrap64; omega
   rcases k with _ | _ | _ | k <;> simp only [Q.dossierref05_digit.j0,Q.dossierref05_digit.j1,Q.dossierref05_digit.j2] at h <;> simp only [ite_or,ite_and,false_or_b,true_and_b,seq_list,seq_false,wrap_64,wrap_8,wrap_u64_mod,ba_list,decide_eq_true_eq,beq_iff_eq,Bool.not_eq_true',Int.zero_sub,toBytes_len,bt_eq,shr_6,shr_12,shr_18,wrap64_mod,toNat0,toNat1,toNat2,most,List.length_cons,List.length_nil,ofBytes_eq] at h ⊢ <;> simp only [hw] at h ⊢ <;> grind
 · cases g
theorem dossierref05_numbered.l_ev (n : Nat) (b0 : List Int) (q0 : Int) : ∀ (k m : Nat) (b : List Int) (q a : Int) (l : List Int) (c i : Int) (v : Int × Bool),k ≤ 16000000 → k ≤ m → Q.dossierref05_numbered.l0 k b q a l c i = some v → dossierref05_numbered.L0 n m b0 q0 b q a l c i = some (.ret (.tup [.int .i64 v.1,.bool v.2]),lcRet [] [] 0) := by
 intro k
 induction k with
 | zero => intro m b q a l c i v _ _ h; simp [Q.dossierref05_numbered.l0] at h
 | succ k ih =>
  intro m b q a l c i v hk0 hk h
  obtain ⟨m,rfl⟩ : ∃ m',m = m' + 1 := ⟨m - 1,by omega⟩
  rw [Q.dossierref05_numbered.l0] at h
  rw [dossierref05_numbered.L0_s]
  have hx : ∀ t q v,Q.dossierref05_digit.f k t q = some v → lim (fun k => Q.dossierref05_digit.f k t q) = some v := fun t q v h => lim_of (fun k => Q.dossierref05_digit.mono t q k) (by omega) h
  have hy : ∀ t v,Q.dossierref01_OfXML.f k t = some v → lim (fun k => Q.dossierref01_OfXML.f k t) = some v := fun t v h => lim_of (fun k => Q.dossierref01_OfXML.mono t k) (by omega) h
  have hn := nth_rd l i
  simp only [ite_or,ite_and,false_or_b,true_and_b,seq_list,seq_false,wrap_64,wrap_8,wrap_u64_mod,ba_list,decide_eq_true_eq,beq_iff_eq,Bool.not_eq_true',Int.zero_sub,toBytes_len,bt_eq,shr_6,shr_12,shr_18,wrap64_mod,toNat0,toNat1,toNat2,most,List.length_cons,List.length_nil,ofBytes_eq] at h ⊢
  grind [→ bindE]
theorem dossierref05_numbered.ok : AllOk specs_dossierref05_numbered := okS (cx := cx_dossierref05_numbered) rfl dossierref05_digit.ok (by kernel_rfl) fun args cs n K r g => by
 unfold dossierref05_numbered.spec at g
 dsimp only [lcSt] at g
 split at g
 · rename_i b q
   obtain ⟨v,h1,h2⟩ := bind2 g
   obtain ⟨k,hk,h⟩ := lim_some h1
   clear h1
   clear g
   refine okG h2 ?_
   clear h2
   refine ⟨k,?_⟩
   rw [dossierref05_numbered.top]
   exact dossierref05_numbered.l_ev k b q k k b q 0 b _ 0 v hk (Nat.le_refl _) h
 · cases g
theorem dossierref05_reference.ok : AllOk specs_dossierref05_reference := okS (cx := cx_dossierref05_reference) rfl dossierref05_numbered.ok (by kernel_rfl) fun args cs n K r g => by
 unfold dossierref05_reference.spec at g
 dsimp only [lcSt] at g
 split at g
 · rename_i b
   obtain ⟨v,h1,h2⟩ := bind2 g
   obtain ⟨k,hk,h⟩ := lim_some h1
   clear h1
   clear g
   refine okG h2 ?_
   clear h2
   refine ⟨0,?_⟩
   rw [dossierref05_reference.top]
   unfold Q.dossierref05_reference.f at h
   have hx : ∀ l q v,Q.dossierref05_numbered.f k l q = some v → lim (fun k => Q.dossierref05_numbered.f k l q) = some v := fun l q v h => lim_of (fun k => Q.dossierref05_numbered.mono l q k) hk h
   simp only [ite_or,ite_and,false_or_b,true_and_b,seq_list,seq_false,wrap_64,wrap_8,wrap_u64_mod,ba_list,decide_eq_true_eq,beq_iff_eq,Bool.not_eq_true',Int.zero_sub,toBytes_len,bt_eq,shr_6,shr_12,shr_18,wrap64_mod,toNat0,toNat1,toNat2,most,List.length_cons,List.length_nil,ofBytes_eq] at h ⊢
   grind [→ bindE]
 · cases g
theorem dossierref05_name.ok : AllOk specs_dossierref05_name := okS (cx := cx_dossierref05_name) rfl dossierref05_reference.ok (by kernel_rfl) fun args cs n K r g => by
 unfold dossierref05_name.spec at g
 dsimp only [lcSt] at g
 split at g
 · rename_i b
   obtain ⟨v,h1,h2⟩ := bind2 g
   obtain ⟨k,hk,h⟩ := lim_some h1
   clear h1
   clear g
   refine okG h2 ?_
   clear h2
   refine ⟨0,?_⟩
   rw [dossierref05_name.top]
   unfold Q.dossierref05_name.f at h
   have hx : ∀ l v,Q.dossierref01_NameAt.f k l = some v → lim (fun k => Q.dossierref01_NameAt.f k l) = some v := fun l v h => lim_of (fun k => Q.dossierref01_NameAt.mono l k) hk h
   rcases k with _ | k <;> simp only [Q.dossierref05_name.j0] at h
   · simp only [ite_or,ite_and,false_or_b,true_and_b,seq_list,seq_false,wrap_64,wrap_8,wrap_u64_mod,ba_list,decide_eq_true_eq,beq_iff_eq,Bool.not_eq_true',Int.zero_sub,toBytes_len,bt_eq,shr_6,shr_12,shr_18,wrap64_mod,toNat0,toNat1,toNat2,most,List.length_cons,List.length_nil,ofBytes_eq] at h ⊢
     grind [→ bindE]
   have hy : ∀ l v,Q.dossierref01_NameAt.f k l = some v → lim (fun k => Q.dossierref01_NameAt.f k l) = some v := fun l v h => lim_of (fun k => Q.dossierref01_NameAt.mono l k) (by omega) h
   simp only [ite_or,ite_and,false_or_b,true_and_b,seq_list,seq_false,wrap_64,wrap_8,wrap_u64_mod,ba_list,decide_eq_true_eq,beq_iff_eq,Bool.not_eq_true',Int.zero_sub,toBytes_len,bt_eq,shr_6,shr_12,shr_18,wrap64_mod,toNat0,toNat1,toNat2,most,List.length_cons,List.length_nil,ofBytes_eq] at h ⊢
   grind [→ bindE]
 · cases g
end Go.Proofs.YtccfmfifnbnlmaaGreatDoor.Ev
end
