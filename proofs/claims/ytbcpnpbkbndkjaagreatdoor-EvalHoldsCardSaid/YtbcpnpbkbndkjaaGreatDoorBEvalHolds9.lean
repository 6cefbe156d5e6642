/- Several texts in one, in their order. -/
import Derived.Test.YtbcpnpbkbndkjaaGreatDoorBEvalHolds6
import Derived.Test.YtbcpnpbkbndkjaaGreatDoorBEvalHolds8
import Derived.KernelRfl
section
/- The evaluator's trees are the functions on lists of words. -/
set_option linter.unusedVariables false
set_option linter.unusedSimpArgs false
namespace Go.Proofs.YtbcpnpbkbndkjaaGreatDoor.Ev
open Go Go.RowKit Go.Proofs.YtbcpnpbkbndkjaaGreatDoorW.PrintWords
theorem wrS (i : Int) (h : 0 ≤ i) (h' : i ≤ 1000000) : IntKind.i64.wrap (i + 1) = i + 1 := by rw [wrap_64]; unfold wrap64; omega
theorem idxP_bd (s : ByteArray) : ∀ (l : List ByteArray) (i : Int),0 ≤ i → idxP s l i = -1 ∨ (i ≤ idxP s l i ∧ idxP s l i < i + l.length)
 | [],i,h => .inl (by simp [idxP])
 | x :: r,i,h => by
  unfold idxP
  split
  · right; simp only [List.length_cons]; omega
  · rcases idxP_bd s r (i + 1) (by omega) with h1 | h1
    · exact .inl h1
    · right; simp only [List.length_cons]; omega
theorem seq_comm (x y : ByteArray) : seq x y = seq y x := by
 rw [Bool.eq_iff_iff,seq_list,seq_list]
 exact eq_comm
theorem bind_ite {α β : Type} (c : Prop) [Decidable c] (a b : Option α) (f : α → Option β) : (if c then a else b).bind f = if c then a.bind f else b.bind f := by split <;> rfl
theorem ttt (b : Bool) : (if true = true then b else false) = b := rfl
theorem nth_at {α : Type} {l : List α} {i : Nat} (h : i < l.length) : nth l i = some l[i] := by rw [nth_get,List.getElem?_eq_getElem h]
theorem wrL (i : Int) (h : 0 ≤ i) (h' : i ≤ 1000000) : IntKind.i64.wrap i = i := by rw [wrap_64]; unfold wrap64; omega
theorem value_Int.ok : AllOk specs_value_Int := okS (cx := cx_value_Int) rfl dossierref08_Words.ok (by kernel_rfl) fun args cs n K r g => by
 unfold value_Int.spec at g
 dsimp only [lcSt] at g
 split at g
 · rename_i z
   obtain ⟨v,h,h2⟩ := bind2 g
   clear g
   refine okG h2 ?_
   clear h2
   obtain rfl := Option.some.inj h
   exact ⟨0,value_Int.top 0 z⟩
 · cases g
theorem value_Text.ok : AllOk specs_value_Text := okS (cx := cx_value_Text) rfl value_Int.ok (by kernel_rfl) fun args cs n K r g => by
 unfold value_Text.spec at g
 dsimp only [lcSt] at g
 split at g
 · rename_i t
   obtain ⟨v,h,h2⟩ := bind2 g
   clear g
   refine okG h2 ?_
   clear h2
   obtain rfl := Option.some.inj h
   exact ⟨0,value_Text.top 0 t⟩
 · cases g
theorem value_Bool.ok : AllOk specs_value_Bool := okS (cx := cx_value_Bool) rfl value_Text.ok (by kernel_rfl) fun args cs n K r g => by
 unfold value_Bool.spec at g
 dsimp only [lcSt] at g
 split at g
 · rename_i b
   obtain ⟨v,h,h2⟩ := bind2 g
   clear g
   refine okG h2 ?_
   clear h2
   obtain rfl := Option.some.inj h
   exact ⟨0,value_Bool.top 0 b⟩
 · cases g
theorem dossierref07_Int.ok : AllOk specs_dossierref07_Int := okS (cx := cx_dossierref07_Int) rfl value_Bool.ok (by kernel_rfl) fun args cs n K r g => by
 unfold dossierref07_Int.spec at g
 dsimp only [lcSt] at g
 split at g
 · rename_i z
   obtain ⟨v,h,h2⟩ := bind2 g
   clear g
   refine okG h2 ?_
   clear h2
   obtain rfl := Option.some.inj h
   exact ⟨0,dossierref07_Int.top 0 z⟩
 · cases g
theorem dossierref07_Text.ok : AllOk specs_dossierref07_Text := okS (cx := cx_dossierref07_Text) rfl dossierref07_Int.ok (by kernel_rfl) fun args cs n K r g => by
 unfold dossierref07_Text.spec at g
 dsimp only [lcSt] at g
 split at g
 · rename_i t
   obtain ⟨v,h,h2⟩ := bind2 g
   clear g
   refine okG h2 ?_
   clear h2
   obtain rfl := Option.some.inj h
   exact ⟨0,dossierref07_Text.top 0 t⟩
 · cases g
theorem dossierref07_Bool.ok : AllOk specs_dossierref07_Bool := okS (cx := cx_dossierref07_Bool) rfl dossierref07_Text.ok (by kernel_rfl) fun args cs n K r g => by
 unfold dossierref07_Bool.spec at g
 dsimp only [lcSt] at g
 split at g
 · rename_i b
   obtain ⟨v,h,h2⟩ := bind2 g
   clear g
   refine okG h2 ?_
   clear h2
   obtain rfl := Option.some.inj h
   exact ⟨0,dossierref07_Bool.top 0 b⟩
 · cases g
theorem expr_Keyword.ok : AllOk specs_expr_Keyword := okS (cx := cx_expr_Keyword) rfl dossierref07_Bool.ok (by kernel_rfl) fun args cs n K r g => by
 unfold expr_Keyword.spec at g
 dsimp only [lcSt] at g
 split at g
 · rename_i s
   obtain ⟨v,h,h2⟩ := bind2 g
   clear g
   refine okG h2 ?_
   clear h2
   obtain rfl := Option.some.inj h
   refine ⟨0,?_⟩
   rw [expr_Keyword.top]
   unfold kwP
   repeat (first | rw [Bool.or_eq_true] | split | rfl)
   all_goals grind
 · cases g
theorem ref_Keyword.ok : AllOk specs_ref_Keyword := okS (cx := cx_ref_Keyword) rfl expr_Keyword.ok (by kernel_rfl) fun args cs n K r g => by
 unfold ref_Keyword.spec at g
 dsimp only [lcSt] at g
 split at g
 · rename_i s
   obtain ⟨v,h,h2⟩ := bind2 g
   clear g
   refine okG h2 ?_
   clear h2
   obtain rfl := Option.some.inj h
   refine ⟨8,?_⟩
   rw [ref_Keyword.top]
   unfold kwP
   simp [ref_Keyword.L0_s,wrL,nth]
   grind
 · cases g
theorem expr_names.ok : AllOk specs_expr_names := okS (cx := cx_expr_names) rfl ref_Keyword.ok (by kernel_rfl) fun args cs n K r g => by
 unfold expr_names.spec at g
 dsimp only [lcSt] at g
 split at g
 · obtain ⟨v,h,h2⟩ := bind2 g
   clear g
   refine okG h2 ?_
   clear h2
   exact ⟨0,expr_names.top 0⟩
 · cases g
theorem slices_Index.l_ev (n : Nat) (a0 : List ByteArray) (s0 s : ByteArray) (a : List ByteArray) (ha : a.length ≤ 1000) : ∀ (k m : Nat) (i : Int),0 ≤ i → k + i = a.length → k + 1 ≤ m → slices_Index.L0 n m a0 s0 a s a.length i = some (.ret (.int .i64 (idxP s (a.drop i.toNat) i)),lcRet [] [] 0) := by
 intro k
 induction k with
 | zero =>
  intro m i h0 h1 h2
  obtain ⟨m,rfl⟩ : ∃ m',m = m' + 1 := ⟨m - 1,by omega⟩
  rw [slices_Index.L0_s,List.drop_eq_nil_of_le (by omega)]
  rw [if_neg (by simp; omega)]
  simp [idxP]
 | succ k ih =>
  intro m i h0 h1 h2
  obtain ⟨m,rfl⟩ : ∃ m',m = m' + 1 := ⟨m - 1,by omega⟩
  have hlt : i.toNat < a.length := by omega
  rw [slices_Index.L0_s,if_pos (by simp; omega),if_pos h0,nth_at hlt,List.drop_eq_getElem_cons hlt,idxP]
  have e := ih m (i + 1) (by omega) (by omega) (by omega)
  rw [show (i + 1).toNat = i.toNat + 1 from by omega] at e
  rw [wrS i h0 (by omega),e]
  simp only [Option.bind_some]
  split <;> rfl
theorem slices_Index.ok : AllOk specs_slices_Index := okS (cx := cx_slices_Index) rfl expr_names.ok (by kernel_rfl) fun args cs n K r g => by
 unfold slices_Index.spec at g
 dsimp only [lcSt] at g
 split at g
 · rename_i a s
   obtain ⟨v,h,h2⟩ := bind2 g
   clear g
   refine okG h2 ?_
   clear h2
   refine ⟨a.length + 1,?_⟩
   rw [slices_Index.top]
   split at h
   · rename_i ha
     obtain rfl := Option.some.inj h
     exact slices_Index.l_ev _ a s s a ha a.length _ 0 (by omega) (by omega) (Nat.le_refl _)
   · cases h
 · cases g
theorem expr_State.ok : AllOk specs_expr_State := okS (cx := cx_expr_State) rfl slices_Index.ok (by kernel_rfl) fun args cs n K r g => by
 unfold expr_State.spec at g
 dsimp only [lcSt] at g
 split at g
 · rename_i s
   obtain ⟨v,h,h2⟩ := bind2 g
   clear g
   refine okG h2 ?_
   clear h2
   obtain rfl := Option.some.inj h
   refine ⟨0,?_⟩
   rw [expr_State.top]
   unfold stP
   have hb := idxP_bd s namesL 0 (by omega)
   rw [show namesL.length = 8 from rfl] at hb
   rw [← namesL,show IntKind.i64.wrap (idxP s namesL 0 + 1) = idxP s namesL 0 + 1 from wrL _ (by omega) (by omega)]
   have e : decide (idxP s namesL 0 ≥ 0) = decide (1 ≤ idxP s namesL 0 + 1) := by
    congr 1
    apply propext
    omega
   rw [← e]
 · cases g
theorem expr_StateName.ok : AllOk specs_expr_StateName := okS (cx := cx_expr_StateName) rfl expr_State.ok (by kernel_rfl) fun args cs n K r g => by
 unfold expr_StateName.spec at g
 dsimp only [lcSt] at g
 split at g
 · rename_i z
   obtain ⟨v,h,h2⟩ := bind2 g
   clear g
   refine okG h2 ?_
   clear h2
   obtain rfl := Option.some.inj h
   refine ⟨0,?_⟩
   rw [expr_StateName.top]
   unfold nmP
   simp only [ite_or,decide_eq_true_eq]
   by_cases h1 : z < 1
   · rw [if_pos (.inl h1),if_pos h1]
   by_cases h2 : 8 < z
   · rw [if_pos (.inr h2),if_neg h1,if_pos h2]
   rw [if_neg (by omega),if_neg h1,if_neg h2,show IntKind.i64.wrap (z - 1) = z - 1 from wrL _ (by omega) (by omega)]
   have : z = 1 ∨ z = 2 ∨ z = 3 ∨ z = 4 ∨ z = 5 ∨ z = 6 ∨ z = 7 ∨ z = 8 := by omega
   rcases this with rfl | rfl | rfl | rfl | rfl | rfl | rfl | rfl <;> rfl
 · cases g
theorem ref_states.ok : AllOk specs_ref_states := okS (cx := cx_ref_states) rfl expr_StateName.ok (by kernel_rfl) fun args cs n K r g => by
 unfold ref_states.spec at g
 dsimp only [lcSt] at g
 split at g
 · obtain ⟨v,h,h2⟩ := bind2 g
   clear g
   refine okG h2 ?_
   clear h2
   obtain rfl := Option.some.inj h
   exact ⟨0,ref_states.top 0⟩
 · cases g
theorem ref_State.ok : AllOk specs_ref_State := okS (cx := cx_ref_State) rfl ref_states.ok (by kernel_rfl) fun args cs n K r g => by
 unfold ref_State.spec at g
 dsimp only [lcSt] at g
 split at g
 · rename_i s
   obtain ⟨v,h,h2⟩ := bind2 g
   clear g
   refine okG h2 ?_
   clear h2
   obtain rfl := Option.some.inj h
   refine ⟨10,?_⟩
   rw [ref_State.top]
   unfold stP
   have hc : ∀ l : List UInt8,seq ⟨⟨l⟩⟩ s = seq s ⟨⟨l⟩⟩ := fun l => seq_comm _ _
   simp [ref_State.L0_s,wrL,nth,namesL,idxP,hc]
   grind
 · cases g
theorem expr_must.ok : AllOk specs_expr_must := okS (cx := cx_expr_must) rfl ref_State.ok (by kernel_rfl) fun args cs n K r g => by
 unfold expr_must.spec at g
 dsimp only [lcSt] at g
 split at g
 · rename_i b
   obtain ⟨v,h,h2⟩ := bind2 g
   clear g
   refine okP h2 ?_
   clear h2
   obtain rfl := Option.some.inj h
   refine ⟨0,?_⟩
   rw [expr_must.top]
   cases b <;> rfl
 · cases g
theorem expr_next.ok : AllOk specs_expr_next := okS (cx := cx_expr_next) rfl expr_must.ok (by kernel_rfl) fun args cs n K r g => by
 unfold expr_next.spec at g
 dsimp only [lcSt] at g
 split at g
 · rename_i l
   obtain ⟨v,h,h2⟩ := bind2 g
   clear g
   refine okG h2 ?_
   clear h2
   refine ⟨0,?_⟩
   rw [expr_next.top]
   show _ = Option.bind (some v) (fun v : Int × ByteArray × Int => (some (.ret (.agg [.int .i64 v.1,.str v.2.1,.int .i64 v.2.2]),lcRet [[.sl W l .no]] [] 0) : Option (Rr U0)))
   rw [← h]
   rfl
 · cases g
theorem expr_skip.ok : AllOk specs_expr_skip := okS (cx := cx_expr_skip) rfl expr_next.ok (by kernel_rfl) fun args cs n K r g => by
 unfold expr_skip.spec at g
 dsimp only [lcSt] at g
 split at g
 · rename_i l
   obtain ⟨v,h,h2⟩ := bind2 g
   clear g
   refine okG h2 ?_
   clear h2
   refine ⟨0,?_⟩
   rw [expr_skip.top]
   show _ = Option.bind (some v) (fun v : Int × ByteArray × Int × List (W.den U0) => (some (.ret (.agg [.int .i64 v.1,.str v.2.1,.int .i64 v.2.2.1]),lcRet [[.sl W (v.2.2.2) .no]] [] 0) : Option (Rr U0)))
   rw [← h]
   cases l with
   | nil => rfl
   | cons w r =>
    simp [nth]
    omega
 · cases g
theorem expr_at.ok : AllOk specs_expr_at := okS (cx := cx_expr_at) rfl expr_skip.ok (by kernel_rfl) fun args cs n K r g => by
 unfold expr_at.spec at g
 dsimp only [lcSt] at g
 split at g
 · rename_i s l
   obtain ⟨v,h,h2⟩ := bind2 g
   clear g
   refine okG h2 ?_
   clear h2
   refine ⟨0,?_⟩
   rw [expr_at.top]
   show _ = Option.bind (some v) (fun v : Bool => (some (.ret (.bool v),lcRet [[.sl W l .no]] [] 0) : Option (Rr U0)))
   rw [← h]
   unfold atP
   rw [Option.bind_assoc]
   congr 1
   funext w
   unfold isW
   rw [Option.bind_some]
   by_cases h1 : seq w.2.1 s = true <;> by_cases h2 : w.1 = 4 <;> by_cases h3 : w.1 = 1 <;> simp [h1,h2,h3]
 · cases g
theorem expr_take.ok : AllOk specs_expr_take := okS (cx := cx_expr_take) rfl expr_at.ok (by kernel_rfl) fun args cs n K r g => by
 unfold expr_take.spec at g
 dsimp only [lcSt] at g
 split at g
 · rename_i s l
   obtain ⟨v,h,h2⟩ := bind2 g
   clear g
   refine okG h2 ?_
   clear h2
   refine ⟨0,?_⟩
   rw [expr_take.top]
   show _ = Option.bind (some v) (fun v : Bool × List (W.den U0) => (some (.ret (.bool v.1),lcRet [[.sl W (v.2) .no]] [] 0) : Option (Rr U0)))
   rw [← h]
   unfold takeP atP
   cases nth l 0 with
   | none => rfl
   | some w => by_cases h1 : isW s w = true <;> simp [h1]
 · cases g
theorem expr_name.ok : AllOk specs_expr_name := okS (cx := cx_expr_name) rfl expr_take.ok (by kernel_rfl) fun args cs n K r g => by
 unfold expr_name.spec at g
 dsimp only [lcSt] at g
 split at g
 · rename_i l
   obtain ⟨v,h,h2⟩ := bind2 g
   clear g
   refine okP h2 ?_
   clear h2
   refine ⟨0,?_⟩
   rw [expr_name.top]
   show _ = Option.bind (some v) (fun v : Bool × ByteArray × List (W.den U0) => ((if v.1 = true then some (.ret (.str v.2.1),lcRet [[.sl W (v.2.2) .no]] [] 0) else some (.pan (.iface 57 (.agg [])),lcRet [[.sl W (v.2.2) .no]] [] 0)) : Option (Rr U0)))
   rw [← h]
   unfold nameP
   cases nth l 0 with
   | none => rfl
   | some w => by_cases h1 : w.1 = 1 <;> by_cases h2 : kwP w.2.1 = true <;> simp [h1,h2]
 · cases g
theorem expr_path.l1 (n : Nat) (l0 : List Wd) : ∀ (k m : Nat) (x : List ByteArray) (l : List Wd),k ≤ m → ∀ v,moreP k x l = some v → expr_path.L1 n m l0 x l = (if v.1 = true then (Q.strings_Join.f v.2.1 (⟨#[46]⟩ : ByteArray)).bind fun t => some (.ret (.str t),lcRet [[.sl W v.2.2 .no]] [] 0) else some (.pan (.iface 57 (.agg [])),lcRet [[.sl W v.2.2 .no]] [] 0)) := by
 intro k
 induction k with
 | zero => intro m x l _ v h; simp [moreP] at h
 | succ k ih =>
  intro m x l hk v h
  obtain ⟨m,rfl⟩ : ∃ m',m = m' + 1 := ⟨m - 1,by omega⟩
  rw [moreP] at h
  rw [expr_path.L1_s]
  obtain ⟨a,h1,h2⟩ := bind2 h
  rw [h1,Option.bind_some]
  by_cases ha : a.1 = true
  · rw [if_pos ha] at h2 ⊢
    obtain ⟨b,h3,h4⟩ := bind2 h2
    rw [h3,Option.bind_some]
    by_cases hb : b.1 = true
    · rw [if_pos hb] at h4 ⊢
      by_cases hc : (x.length + [b.2.1].length) * 16 ≤ most
      · rw [if_pos hc] at h4 ⊢
        exact ih m _ _ (by omega) v h4
      · rw [if_neg hc] at h4; cases h4
    · rw [if_neg hb] at h4 ⊢
      obtain rfl := Option.some.inj h4
      rfl
  · rw [if_neg ha] at h2 ⊢
    obtain rfl := Option.some.inj h2
    rfl
theorem expr_path.l0 (n m : Nat) (l0 : List Wd) (x : List ByteArray) (l : List Wd) : expr_path.L1 n (m + 1) l0 x l = expr_path.L1 n (m + 1) l0 x l := rfl
theorem expr_path.ok : AllOk specs_expr_path := okS (cx := cx_expr_path) rfl expr_name.ok (by kernel_rfl) fun args cs n K r g => by
 unfold expr_path.spec at g
 dsimp only [lcSt] at g
 split at g
 · rename_i l
   obtain ⟨v,h,h2⟩ := bind2 g
   clear g
   refine okP h2 ?_
   clear h2
   refine ⟨l.length + 1,?_⟩
   rw [expr_path.top]
   show _ = Option.bind (some v) (fun v : Bool × ByteArray × List (W.den U0) => ((if v.1 = true then some (.ret (.str v.2.1),lcRet [[.sl W (v.2.2) .no]] [] 0) else some (.pan (.iface 57 (.agg [])),lcRet [[.sl W (v.2.2) .no]] [] 0)) : Option (Rr U0)))
   rw [← h]
   unfold pathQ pathP at h ⊢
   obtain ⟨b,h1,h2⟩ := bind2 h
   rw [h1,Option.bind_some,Option.bind_some]
   by_cases hb : b.1 = true
   · rw [if_pos hb] at h2
     rw [if_pos hb,if_pos hb]
     obtain ⟨c,h3,h4⟩ := bind2 h2
     rw [expr_path.l0,expr_path.l1 _ _ _ _ _ _ (Nat.le_refl _) c h3,h3,Option.bind_some]
     by_cases hc : c.1 = true
     · rw [if_pos hc,if_pos hc,Option.bind_assoc]
       rfl
     · rw [if_neg hc,if_neg hc]
       rfl
   · rw [if_neg hb,if_neg hb]
     rfl
 · cases g
theorem expr_operators.ok : AllOk specs_expr_operators := okS (cx := cx_expr_operators) rfl expr_path.ok (by kernel_rfl) fun args cs n K r g => by
 unfold expr_operators.spec at g
 dsimp only [lcSt] at g
 split at g
 · obtain ⟨v,h,h2⟩ := bind2 g
   clear g
   refine okG h2 ?_
   clear h2
   exact ⟨0,expr_operators.top 0⟩
 · cases g
theorem op_step (own : Int) (o : Int × Int × ByteArray) (r : List (Int × Int × ByteArray)) (l : List Wd) (F : Int × Bool × List Wd → Option (Rr U0)) : (if (o.2.1 == own) = true then (takeP o.2.2 l).bind fun v0 => (if v0.1 = true then F (o.1,true,v0.2) else (opP own r v0.2).bind F) else (opP own r l).bind F) = (opP own (o :: r) l).bind F := by
 rw [opP]
 simp only [beq_iff_eq,bind_ite,Option.bind_assoc,Option.bind_some]
noncomputable abbrev opA (n m : Nat) (own0 own : Int) (l0 l : List Wd) (j : Int) := expr_operator.L1 n m own0 l0 own 7 6 (⟨#[42]⟩ : ByteArray) 8 6 (⟨#[47]⟩ : ByteArray) 9 6 (⟨#[37]⟩ : ByteArray) 10 5 (⟨#[43]⟩ : ByteArray) 11 5 (⟨#[45]⟩ : ByteArray) 12 4 (⟨#[60]⟩ : ByteArray) 13 4 (⟨#[60,61]⟩ : ByteArray) 14 4 (⟨#[62]⟩ : ByteArray) 15 4 (⟨#[62,61]⟩ : ByteArray) 16 4 (⟨#[61]⟩ : ByteArray) 17 4 (⟨#[33,61]⟩ : ByteArray) 18 2 (⟨#[97,110,100]⟩ : ByteArray) 19 1 (⟨#[111,114]⟩ : ByteArray) j l
noncomputable abbrev opZ (own : Int) (k : Nat) (l : List Wd) : Option (Rr U0) := (opP own (opsL.drop k) l).bind (fun v : Int × Bool × List (W.den U0) => (some (.ret (.tup [.int .i64 v.1,.bool v.2.1]),lcRet [[.sl W (v.2.2) .no]] [] 0) : Option (Rr U0)))
theorem opw (x y : Int) (h : x + 1 = y ∧ 0 ≤ x ∧ x ≤ 1000) : IntKind.i64.wrap (x + 1) = y := by obtain ⟨rfl,h⟩ := h; exact wrL _ (by omega) (by omega)
theorem expr_operator.h13 (n : Nat) (own0 own : Int) (l0 : List Wd) (m : Nat) (l : List Wd) : opA n (m + 1) own0 own l0 l 13 = opZ own 13 l := by
 rw [opA,expr_operator.L1_s,if_neg (by decide)]
 rfl
theorem expr_operator.h12 (n : Nat) (own0 own : Int) (l0 : List Wd) (m : Nat) (l : List Wd) : opA n (m + 2) own0 own l0 l 12 = opZ own 12 l := by
 rw [opA,expr_operator.L1_s,if_pos (by decide)]
 repeat rw [if_neg (by decide)]
 rw [if_pos (by decide),opw 12 13 (by decide)]
 simp only [expr_operator.h13,if_true]
 exact op_step own (19,1,(⟨#[111,114]⟩ : ByteArray)) (opsL.drop 13) l (fun v : Int × Bool × List (W.den U0) => (some (.ret (.tup [.int .i64 v.1,.bool v.2.1]),lcRet [[.sl W (v.2.2) .no]] [] 0) : Option (Rr U0)))
theorem expr_operator.h11 (n : Nat) (own0 own : Int) (l0 : List Wd) (m : Nat) (l : List Wd) : opA n (m + 3) own0 own l0 l 11 = opZ own 11 l := by
 rw [opA,expr_operator.L1_s,if_pos (by decide)]
 repeat rw [if_neg (by decide)]
 rw [if_pos (by decide),opw 11 12 (by decide)]
 simp only [expr_operator.h12,if_true]
 exact op_step own (18,2,(⟨#[97,110,100]⟩ : ByteArray)) (opsL.drop 12) l (fun v : Int × Bool × List (W.den U0) => (some (.ret (.tup [.int .i64 v.1,.bool v.2.1]),lcRet [[.sl W (v.2.2) .no]] [] 0) : Option (Rr U0)))
theorem expr_operator.h10 (n : Nat) (own0 own : Int) (l0 : List Wd) (m : Nat) (l : List Wd) : opA n (m + 4) own0 own l0 l 10 = opZ own 10 l := by
 rw [opA,expr_operator.L1_s,if_pos (by decide)]
 repeat rw [if_neg (by decide)]
 rw [if_pos (by decide),opw 10 11 (by decide)]
 simp only [expr_operator.h11,if_true]
 exact op_step own (17,4,(⟨#[33,61]⟩ : ByteArray)) (opsL.drop 11) l (fun v : Int × Bool × List (W.den U0) => (some (.ret (.tup [.int .i64 v.1,.bool v.2.1]),lcRet [[.sl W (v.2.2) .no]] [] 0) : Option (Rr U0)))
theorem expr_operator.h9 (n : Nat) (own0 own : Int) (l0 : List Wd) (m : Nat) (l : List Wd) : opA n (m + 5) own0 own l0 l 9 = opZ own 9 l := by
 rw [opA,expr_operator.L1_s,if_pos (by decide)]
 repeat rw [if_neg (by decide)]
 rw [if_pos (by decide),opw 9 10 (by decide)]
 simp only [expr_operator.h10,if_true]
 exact op_step own (16,4,(⟨#[61]⟩ : ByteArray)) (opsL.drop 10) l (fun v : Int × Bool × List (W.den U0) => (some (.ret (.tup [.int .i64 v.1,.bool v.2.1]),lcRet [[.sl W (v.2.2) .no]] [] 0) : Option (Rr U0)))
theorem expr_operator.h8 (n : Nat) (own0 own : Int) (l0 : List Wd) (m : Nat) (l : List Wd) : opA n (m + 6) own0 own l0 l 8 = opZ own 8 l := by
 rw [opA,expr_operator.L1_s,if_pos (by decide)]
 repeat rw [if_neg (by decide)]
 rw [if_pos (by decide),opw 8 9 (by decide)]
 simp only [expr_operator.h9,if_true]
 exact op_step own (15,4,(⟨#[62,61]⟩ : ByteArray)) (opsL.drop 9) l (fun v : Int × Bool × List (W.den U0) => (some (.ret (.tup [.int .i64 v.1,.bool v.2.1]),lcRet [[.sl W (v.2.2) .no]] [] 0) : Option (Rr U0)))
theorem expr_operator.h7 (n : Nat) (own0 own : Int) (l0 : List Wd) (m : Nat) (l : List Wd) : opA n (m + 7) own0 own l0 l 7 = opZ own 7 l := by
 rw [opA,expr_operator.L1_s,if_pos (by decide)]
 repeat rw [if_neg (by decide)]
 rw [if_pos (by decide),opw 7 8 (by decide)]
 simp only [expr_operator.h8,if_true]
 exact op_step own (14,4,(⟨#[62]⟩ : ByteArray)) (opsL.drop 8) l (fun v : Int × Bool × List (W.den U0) => (some (.ret (.tup [.int .i64 v.1,.bool v.2.1]),lcRet [[.sl W (v.2.2) .no]] [] 0) : Option (Rr U0)))
theorem expr_operator.h6 (n : Nat) (own0 own : Int) (l0 : List Wd) (m : Nat) (l : List Wd) : opA n (m + 8) own0 own l0 l 6 = opZ own 6 l := by
 rw [opA,expr_operator.L1_s,if_pos (by decide)]
 repeat rw [if_neg (by decide)]
 rw [if_pos (by decide),opw 6 7 (by decide)]
 simp only [expr_operator.h7,if_true]
 exact op_step own (13,4,(⟨#[60,61]⟩ : ByteArray)) (opsL.drop 7) l (fun v : Int × Bool × List (W.den U0) => (some (.ret (.tup [.int .i64 v.1,.bool v.2.1]),lcRet [[.sl W (v.2.2) .no]] [] 0) : Option (Rr U0)))
theorem expr_operator.h5 (n : Nat) (own0 own : Int) (l0 : List Wd) (m : Nat) (l : List Wd) : opA n (m + 9) own0 own l0 l 5 = opZ own 5 l := by
 rw [opA,expr_operator.L1_s,if_pos (by decide)]
 repeat rw [if_neg (by decide)]
 rw [if_pos (by decide),opw 5 6 (by decide)]
 simp only [expr_operator.h6,if_true]
 exact op_step own (12,4,(⟨#[60]⟩ : ByteArray)) (opsL.drop 6) l (fun v : Int × Bool × List (W.den U0) => (some (.ret (.tup [.int .i64 v.1,.bool v.2.1]),lcRet [[.sl W (v.2.2) .no]] [] 0) : Option (Rr U0)))
theorem expr_operator.h4 (n : Nat) (own0 own : Int) (l0 : List Wd) (m : Nat) (l : List Wd) : opA n (m + 10) own0 own l0 l 4 = opZ own 4 l := by
 rw [opA,expr_operator.L1_s,if_pos (by decide)]
 repeat rw [if_neg (by decide)]
 rw [if_pos (by decide),opw 4 5 (by decide)]
 simp only [expr_operator.h5,if_true]
 exact op_step own (11,5,(⟨#[45]⟩ : ByteArray)) (opsL.drop 5) l (fun v : Int × Bool × List (W.den U0) => (some (.ret (.tup [.int .i64 v.1,.bool v.2.1]),lcRet [[.sl W (v.2.2) .no]] [] 0) : Option (Rr U0)))
theorem expr_operator.h3 (n : Nat) (own0 own : Int) (l0 : List Wd) (m : Nat) (l : List Wd) : opA n (m + 11) own0 own l0 l 3 = opZ own 3 l := by
 rw [opA,expr_operator.L1_s,if_pos (by decide)]
 repeat rw [if_neg (by decide)]
 rw [if_pos (by decide),opw 3 4 (by decide)]
 simp only [expr_operator.h4,if_true]
 exact op_step own (10,5,(⟨#[43]⟩ : ByteArray)) (opsL.drop 4) l (fun v : Int × Bool × List (W.den U0) => (some (.ret (.tup [.int .i64 v.1,.bool v.2.1]),lcRet [[.sl W (v.2.2) .no]] [] 0) : Option (Rr U0)))
theorem expr_operator.h2 (n : Nat) (own0 own : Int) (l0 : List Wd) (m : Nat) (l : List Wd) : opA n (m + 12) own0 own l0 l 2 = opZ own 2 l := by
 rw [opA,expr_operator.L1_s,if_pos (by decide)]
 repeat rw [if_neg (by decide)]
 rw [if_pos (by decide),opw 2 3 (by decide)]
 simp only [expr_operator.h3,if_true]
 exact op_step own (9,6,(⟨#[37]⟩ : ByteArray)) (opsL.drop 3) l (fun v : Int × Bool × List (W.den U0) => (some (.ret (.tup [.int .i64 v.1,.bool v.2.1]),lcRet [[.sl W (v.2.2) .no]] [] 0) : Option (Rr U0)))
theorem expr_operator.h1 (n : Nat) (own0 own : Int) (l0 : List Wd) (m : Nat) (l : List Wd) : opA n (m + 13) own0 own l0 l 1 = opZ own 1 l := by
 rw [opA,expr_operator.L1_s,if_pos (by decide)]
 repeat rw [if_neg (by decide)]
 rw [if_pos (by decide),opw 1 2 (by decide)]
 simp only [expr_operator.h2,if_true]
 exact op_step own (8,6,(⟨#[47]⟩ : ByteArray)) (opsL.drop 2) l (fun v : Int × Bool × List (W.den U0) => (some (.ret (.tup [.int .i64 v.1,.bool v.2.1]),lcRet [[.sl W (v.2.2) .no]] [] 0) : Option (Rr U0)))
theorem expr_operator.h0 (n : Nat) (own0 own : Int) (l0 : List Wd) (m : Nat) (l : List Wd) : opA n (m + 14) own0 own l0 l 0 = opZ own 0 l := by
 rw [opA,expr_operator.L1_s,if_pos (by decide)]
 repeat rw [if_neg (by decide)]
 rw [if_pos (by decide),opw 0 1 (by decide)]
 simp only [expr_operator.h1,if_true]
 exact op_step own (7,6,(⟨#[42]⟩ : ByteArray)) (opsL.drop 1) l (fun v : Int × Bool × List (W.den U0) => (some (.ret (.tup [.int .i64 v.1,.bool v.2.1]),lcRet [[.sl W (v.2.2) .no]] [] 0) : Option (Rr U0)))
theorem expr_operator.ok : AllOk specs_expr_operator := okS (cx := cx_expr_operator) rfl expr_operators.ok (by kernel_rfl) fun args cs n K r g => by
 unfold expr_operator.spec at g
 dsimp only [lcSt] at g
 split at g
 · rename_i own l
   obtain ⟨v,h,h2⟩ := bind2 g
   clear g
   refine okG h2 ?_
   clear h2
   refine ⟨14,?_⟩
   rw [expr_operator.top]
   show _ = Option.bind (some v) (fun v : Int × Bool × List (W.den U0) => (some (.ret (.tup [.int .i64 v.1,.bool v.2.1]),lcRet [[.sl W (v.2.2) .no]] [] 0) : Option (Rr U0)))
   rw [← h]
   exact expr_operator.h0 14 own own l 0 l
 · cases g
theorem expr_part.step (k : Nat) (h0 : CallOkL Tryz.prog C0 23 (expr_expression.specR k)) : CallOkL Tryz.prog C0 39 (expr_part.specR k) := okR (cx := cx_expr_part) (R := expr_part.rec k) rfl rfl expr_operator.ok (fun x hx => by
 obtain rfl := List.mem_singleton.1 hx
 exact ⟨fnOk_of (by kernel_rfl),h0⟩) fun args cs n K r g => by
 unfold expr_part.specR at g
 dsimp only [lcSt] at g
 split at g
 · rename_i l
   obtain ⟨v,h,h2⟩ := bind2 g
   clear g
   refine okP h2 ?_
   clear h2
   refine ⟨0,?_⟩
   rw [expr_part.top]
   show _ = Option.bind (some v) (fun v : Bool × Node × List (W.den U0) => ((if v.1 = true then some (.ret (.agg (C0.flat 0 (v.2.1))),lcRet [[.sl W (v.2.2) .no]] [] 0) else some (.pan (.iface 57 (.agg [])),lcRet [[.sl W (v.2.2) .no]] [] 0)) : Option (Rr U0)))
   rw [← h]
   unfold partK partP thenP mustP
   cases l with
   | nil => rfl
   | cons w r =>
    simp only [nth,Option.bind_some,beq_iff_eq,ttt,bind_ite,Option.bind_assoc,decide_eq_true_eq,List.drop_succ_cons,List.drop_zero,Bool.false_eq_true,if_true,if_false]
    rfl
 · cases g
theorem nd_x (n : Node) : Node.mk (n.x.1,(n.x.2.1.1,n.x.2.1.2.1,n.x.2.1.2.2.1,n.x.2.1.2.2.2),n.x.2.2.1,n.x.2.2.2.1,n.x.2.2.2.2) = n := by cases n; rfl
theorem expr_expression.l1 (n k : Nat) (own0 own : Int) (l0 : List Wd) (r2 r3 r4 : Int) (r5 : Bool) (r6 r7 : ByteArray) (r8 : Int) (r9 : List Node) : ∀ (j m : Nat) (t : Node) (l : List Wd) (v : Bool × Node × List Wd),j ≤ m → loopP (exprP k) own j t l = some v →
 expr_expression.L1 n m k own0 l0 own l r2 r3 r4 r5 r6 r7 r8 r9 t.x.1 t.x.2.1.1 t.x.2.1.2.1 t.x.2.1.2.2.1 t.x.2.1.2.2.2 t.x.2.2.1 t.x.2.2.2.1 t.x.2.2.2.2 = (fun v : Bool × Node × List (W.den U0) => ((if v.1 = true then some (.ret (.agg (C0.flat 0 (v.2.1))),lcRet [[.sl W (v.2.2) .no]] [] 0) else some (.pan (.iface 57 (.agg [])),lcRet [[.sl W (v.2.2) .no]] [] 0)) : Option (Rr U0))) v := by
 intro j
 induction j with
 | zero => intro m t l v _ h; simp [loopP] at h
 | succ j ih =>
  intro m t l v hm h
  obtain ⟨m,rfl⟩ : ∃ m',m = m' + 1 := ⟨m - 1,by omega⟩
  rw [loopP] at h
  rw [expr_expression.L1_s]
  obtain ⟨a,h1,h2⟩ := bind2 h
  rw [h1,Option.bind_some]
  by_cases ha : a.2.1 = true
  · rw [if_pos ha] at h2
    rw [if_neg (by simp [ha])]
    unfold thenP at h2
    obtain ⟨b,h3,h4⟩ := bind2 h2
    rw [h3,Option.bind_some]
    by_cases hb : b.1 = true
    · rw [if_pos hb] at h4
      dsimp only at h4
      rw [if_pos hb]
      by_cases hc : own = 4
      · rw [if_pos hc] at h4
        rw [if_pos (by simp [hc])]
        obtain rfl := Option.some.inj h4
        rw [nd_x,nd_x]
        rfl
      · rw [if_neg hc] at h4
        rw [if_neg (by simp [hc]),nd_x,nd_x]
        exact ih m _ _ v (by omega) h4
    · rw [if_neg hb] at h4
      rw [if_neg hb]
      obtain rfl := Option.some.inj h4
      rfl
  · rw [if_neg ha] at h2
    rw [if_pos (by simp [ha])]
    obtain rfl := Option.some.inj h2
    rfl
theorem expr_expression.l0 (n k : Nat) (own0 own : Int) (l0 : List Wd) (r2 r3 r4 : Int) (r5 : Bool) (r6 r7 : ByteArray) (r8 : Int) (r9 : List Node) (m : Nat) (t : Node) (l : List Wd) :
 expr_expression.L0 n (m + 1) k own0 l0 own l r2 r3 r4 r5 r6 r7 r8 r9 t.x.1 t.x.2.1.1 t.x.2.1.2.1 t.x.2.1.2.2.1 t.x.2.1.2.2.2 t.x.2.2.1 t.x.2.2.2.1 t.x.2.2.2.2 = expr_expression.L1 n (m + 1) k own0 l0 own l r2 r3 r4 r5 r6 r7 r8 r9 t.x.1 t.x.2.1.1 t.x.2.1.2.1 t.x.2.1.2.2.1 t.x.2.1.2.2.2 t.x.2.2.1 t.x.2.2.2.1 t.x.2.2.2.2 := by
 rw [expr_expression.L0_s,expr_expression.L1_s]
theorem expr_expression.step (k : Nat) (h0 : CallOkL Tryz.prog C0 23 (expr_expression.specR k)) (h1 : CallOkL Tryz.prog C0 39 (expr_part.specR k)) : CallOkL Tryz.prog C0 23 (expr_expression.specR (k + 1)) := okR (cx := cx_expr_expression) (R := expr_expression.rec k) rfl rfl expr_operator.ok (fun x hx => by
 rcases List.mem_cons.1 hx with rfl | hx
 · exact ⟨fnOk_of (by kernel_rfl),h0⟩
 obtain rfl := List.mem_singleton.1 hx
 exact ⟨fnOk_of (by kernel_rfl),h1⟩) fun args cs n K r g => by
 unfold expr_expression.specR at g
 dsimp only [lcSt] at g
 split at g
 · rename_i own l
   obtain ⟨v,h,h2⟩ := bind2 g
   clear g
   refine okP h2 ?_
   clear h2
   rw [exprP] at h
   by_cases h3 : own = 3
   · rw [if_pos h3] at h
     obtain ⟨a,ha,h⟩ := bind2 h
     by_cases ha1 : a.1 = true
     · rw [if_pos ha1] at h
       obtain ⟨b,hb,h⟩ := bind2 h
       refine ⟨0,?_⟩
       rw [expr_expression.top,if_pos (by simp [h3]),ha,Option.bind_some,if_pos ha1,hb,Option.bind_some]
       by_cases hb1 : b.1 = true
       · rw [if_pos hb1] at h
         dsimp only at h
         obtain rfl := Option.some.inj h
         rw [if_pos hb1,nd_x]
         rfl
       · rw [if_neg hb1] at h
         obtain rfl := Option.some.inj h
         rw [if_neg hb1]
         rfl
     · rw [if_neg ha1] at h
       unfold exprB at h
       obtain ⟨b,hb,h⟩ := bind2 h
       refine ⟨b.2.2.length + 1,?_⟩
       rw [expr_expression.top,if_pos (by simp [h3]),ha,Option.bind_some,if_neg ha1,hb,Option.bind_some]
       by_cases hb1 : b.1 = true
       · rw [if_pos hb1] at h
         dsimp only at h
         rw [if_pos hb1,expr_expression.l0,expr_expression.l1 _ _ _ _ _ _ _ _ _ _ _ _ _ _ _ _ _ v (Nat.le_refl _) h]
       · rw [if_neg hb1] at h
         obtain rfl := Option.some.inj h
         rw [if_neg hb1]
         rfl
   rw [if_neg h3] at h
   by_cases h7 : own = 7
   · rw [if_pos h7] at h
     obtain ⟨a,ha,h⟩ := bind2 h
     refine ⟨0,?_⟩
     rw [expr_expression.top,if_neg (by simp [h3]),if_pos (by simp [h7]),ha,Option.bind_some]
     by_cases ha1 : a.1 = true
     · rw [if_pos ha1] at h
       obtain ⟨b,hb,h⟩ := bind2 h
       rw [if_pos ha1,hb,Option.bind_some]
       by_cases hb1 : b.1 = true
       · rw [if_pos hb1] at h
         dsimp only at h
         obtain rfl := Option.some.inj h
         rw [if_pos hb1,nd_x]
         rfl
       · rw [if_neg hb1] at h
         obtain rfl := Option.some.inj h
         rw [if_neg hb1]
         rfl
     · rw [if_neg ha1] at h
       rw [if_neg ha1,show partK k a.2 = some v from h]
       rfl
   rw [if_neg h7] at h
   unfold exprB at h
   obtain ⟨b,hb,h⟩ := bind2 h
   refine ⟨b.2.2.length + 1,?_⟩
   rw [expr_expression.top,if_neg (by simp [h3]),if_neg (by simp [h7]),hb,Option.bind_some]
   by_cases hb1 : b.1 = true
   · rw [if_pos hb1] at h
     dsimp only at h
     rw [if_pos hb1,expr_expression.l0,expr_expression.l1 _ _ _ _ _ _ _ _ _ _ _ _ _ _ _ _ _ v (Nat.le_refl _) h]
   · rw [if_neg hb1] at h
     obtain rfl := Option.some.inj h
     rw [if_neg hb1]
     rfl
 · cases g
theorem expr_expression.zero : CallOkL Tryz.prog C0 23 (expr_expression.specR 0) := fun args cs n K r h => by
 unfold expr_expression.specR at h
 dsimp only [lcSt] at h
 split at h
 · obtain ⟨v,h1,h2⟩ := bind2 h
   exact absurd h1 (by first | (simp [exprP]; done) | (unfold exprP; simp))
 · cases h
theorem expr_expression.recOk : ∀ k,CallOkL Tryz.prog C0 23 (expr_expression.specR k)
 | 0 => expr_expression.zero
 | k + 1 => expr_expression.step k (expr_expression.recOk k) (expr_part.step k (expr_expression.recOk k))
theorem expr_part.recOk (k : Nat) : CallOkL Tryz.prog C0 39 (expr_part.specR k) := expr_part.step k (expr_expression.recOk k)
theorem expr_part.ok : AllOk specs_expr_part := allOk_cons expr_operator.ok (fnOk_of (by kernel_rfl)) fun args cs n K r h => by
 unfold expr_part.spec at h
 dsimp only [lcSt] at h
 split at h
 · rename_i l
   refine expr_part.recOk (9*l.length+9) _ _ _ K r ?_
   unfold expr_part.specR
   exact h
 · cases h
theorem expr_expression.ok : AllOk specs_expr_expression := allOk_cons expr_part.ok (fnOk_of (by kernel_rfl)) fun args cs n K r h => by
 unfold expr_expression.spec at h
 dsimp only [lcSt] at h
 split at h
 · rename_i own l
   refine expr_expression.recOk (9*l.length+9) _ _ _ K r ?_
   unfold expr_expression.specR
   exact h
 · cases h
theorem expr_Depth.l1 (n k : Nat) (a0 a1 a2 : Int) (a3 : Bool) (a4 a5 : ByteArray) (a6 : Int) (a7 : List Node) (b0 b1 b2 : Int) (b3 : Bool) (b4 b5 : ByteArray) (b6 : Int) (b7 : List Node) (l : List Node) (hl : l.length ≤ 1000000) : ∀ (j m : Nat) (d i v : Int),0 ≤ i → j + i = l.length → j + 1 ≤ m → deepL (fun n => deepP k n.x.2.2.2.2) (l.drop i.toNat) d = some v →
 expr_Depth.L1 n m k a0 a1 a2 a3 a4 a5 a6 a7 d l l.length i b0 b1 b2 b3 b4 b5 b6 b7 = some (.ret (.int .i64 v),lcRet [] [] 0) := by
 intro j
 induction j with
 | zero =>
  intro m d i v h0 h1 h2 h
  obtain ⟨m,rfl⟩ : ∃ m',m = m' + 1 := ⟨m - 1,by omega⟩
  rw [List.drop_eq_nil_of_le (by omega),deepL] at h
  obtain rfl := Option.some.inj h
  rw [expr_Depth.L1_s,if_neg (by simp; omega)]
 | succ j ih =>
  intro m d i v h0 h1 h2 h
  obtain ⟨m,rfl⟩ : ∃ m',m = m' + 1 := ⟨m - 1,by omega⟩
  have hlt : i.toNat < l.length := by omega
  rw [List.drop_eq_getElem_cons hlt,deepL] at h
  obtain ⟨e,h3,h4⟩ := bind2 h
  rw [expr_Depth.L1_s,if_pos (by simp; omega),if_pos h0,nth_at hlt,Option.bind_some,h3,Option.bind_some,wrS i h0 (by omega)]
  refine ih m _ (i + 1) v (by omega) (by omega) (by omega) ?_
  rw [show (i + 1).toNat = i.toNat + 1 from by omega]
  exact h4
theorem expr_Depth.step (k : Nat) (h0 : CallOkL Tryz.prog C0 26 (expr_Depth.specR k)) : CallOkL Tryz.prog C0 26 (expr_Depth.specR (k + 1)) := okR (cx := cx_expr_Depth) (R := expr_Depth.rec k) rfl rfl expr_expression.ok (fun x hx => by
 obtain rfl := List.mem_singleton.1 hx
 exact ⟨fnOk_of (by kernel_rfl),h0⟩) fun args cs n K r g => by
 unfold expr_Depth.specR at g
 dsimp only [lcSt] at g
 split at g
 · rename_i a0 a1 a2 a3 a4 a5 a6 a7
   obtain ⟨v,h,h2⟩ := bind2 g
   clear g
   refine okG h2 ?_
   clear h2
   rw [deepP] at h
   split at h
   · rename_i hl
     refine ⟨a7.length + 1,?_⟩
     rw [expr_Depth.top,expr_Depth.L1_s,← expr_Depth.L1_s]
     exact expr_Depth.l1 _ _ _ _ _ _ _ _ _ _ _ _ _ _ _ _ _ _ a7 hl a7.length _ 0 0 v (by omega) (by omega) (Nat.le_refl _) h
   · cases h
 · cases g
theorem expr_Depth.zero : CallOkL Tryz.prog C0 26 (expr_Depth.specR 0) := fun args cs n K r h => by
 unfold expr_Depth.specR at h
 dsimp only [lcSt] at h
 split at h
 · obtain ⟨v,h1,h2⟩ := bind2 h
   exact absurd h1 (by first | (simp [deepP]; done) | (unfold deepP; simp))
 · cases h
theorem expr_Depth.recOk : ∀ k,CallOkL Tryz.prog C0 26 (expr_Depth.specR k)
 | 0 => expr_Depth.zero
 | k + 1 => expr_Depth.step k (expr_Depth.recOk k)
theorem expr_Depth.ok : AllOk specs_expr_Depth := allOk_cons expr_expression.ok (fnOk_of (by kernel_rfl)) fun args cs n K r h => by
 unfold expr_Depth.spec at h
 dsimp only [lcSt] at h
 split at h
 · rename_i a0 a1 a2 a3 a4 a5 a6 a7
   refine expr_Depth.recOk (big a7) _ _ _ K r ?_
   unfold expr_Depth.specR
   exact h
 · cases h
theorem ref_Depth.l1 (n k : Nat) (a0 a1 a2 : Int) (a3 : Bool) (a4 a5 : ByteArray) (a6 : Int) (a7 : List Node) (b0 b1 b2 : Int) (b3 : Bool) (b4 b5 : ByteArray) (b6 : Int) (b7 : List Node) (l : List Node) (hl : l.length ≤ 1000000) : ∀ (j m : Nat) (d i v : Int),0 ≤ i → j + i = l.length → j + 1 ≤ m → deepL (fun n => deepP k n.x.2.2.2.2) (l.drop i.toNat) d = some v →
 ref_Depth.L1 n m k a0 a1 a2 a3 a4 a5 a6 a7 d l l.length i b0 b1 b2 b3 b4 b5 b6 b7 = some (.ret (.int .i64 v),lcRet [] [] 0) := by
 intro j
 induction j with
 | zero =>
  intro m d i v h0 h1 h2 h
  obtain ⟨m,rfl⟩ : ∃ m',m = m' + 1 := ⟨m - 1,by omega⟩
  rw [List.drop_eq_nil_of_le (by omega),deepL] at h
  obtain rfl := Option.some.inj h
  rw [ref_Depth.L1_s,if_neg (by simp; omega)]
 | succ j ih =>
  intro m d i v h0 h1 h2 h
  obtain ⟨m,rfl⟩ : ∃ m',m = m' + 1 := ⟨m - 1,by omega⟩
  have hlt : i.toNat < l.length := by omega
  rw [List.drop_eq_getElem_cons hlt,deepL] at h
  obtain ⟨e,h3,h4⟩ := bind2 h
  rw [ref_Depth.L1_s,if_pos (by simp; omega),if_pos h0,nth_at hlt,Option.bind_some,h3,Option.bind_some,wrS i h0 (by omega)]
  refine ih m _ (i + 1) v (by omega) (by omega) (by omega) ?_
  rw [show (i + 1).toNat = i.toNat + 1 from by omega]
  exact h4
theorem ref_Depth.step (k : Nat) (h0 : CallOkL Tryz.prog C0 31 (ref_Depth.specR k)) : CallOkL Tryz.prog C0 31 (ref_Depth.specR (k + 1)) := okR (cx := cx_ref_Depth) (R := ref_Depth.rec k) rfl rfl expr_Depth.ok (fun x hx => by
 obtain rfl := List.mem_singleton.1 hx
 exact ⟨fnOk_of (by kernel_rfl),h0⟩) fun args cs n K r g => by
 unfold ref_Depth.specR at g
 dsimp only [lcSt] at g
 split at g
 · rename_i a0 a1 a2 a3 a4 a5 a6 a7
   obtain ⟨v,h,h2⟩ := bind2 g
   clear g
   refine okG h2 ?_
   clear h2
   rw [deepP] at h
   split at h
   · rename_i hl
     refine ⟨a7.length + 1,?_⟩
     rw [ref_Depth.top,ref_Depth.L1_s,← ref_Depth.L1_s]
     exact ref_Depth.l1 _ _ _ _ _ _ _ _ _ _ _ _ _ _ _ _ _ _ a7 hl a7.length _ 0 0 v (by omega) (by omega) (Nat.le_refl _) h
   · cases h
 · cases g
theorem ref_Depth.zero : CallOkL Tryz.prog C0 31 (ref_Depth.specR 0) := fun args cs n K r h => by
 unfold ref_Depth.specR at h
 dsimp only [lcSt] at h
 split at h
 · obtain ⟨v,h1,h2⟩ := bind2 h
   exact absurd h1 (by first | (simp [deepP]; done) | (unfold deepP; simp))
 · cases h
theorem ref_Depth.recOk : ∀ k,CallOkL Tryz.prog C0 31 (ref_Depth.specR k)
 | 0 => ref_Depth.zero
 | k + 1 => ref_Depth.step k (ref_Depth.recOk k)
theorem ref_Depth.ok : AllOk specs_ref_Depth := allOk_cons expr_Depth.ok (fnOk_of (by kernel_rfl)) fun args cs n K r h => by
 unfold ref_Depth.spec at h
 dsimp only [lcSt] at h
 split at h
 · rename_i a0 a1 a2 a3 a4 a5 a6 a7
   refine ref_Depth.recOk (big a7) _ _ _ K r ?_
   unfold ref_Depth.specR
   exact h
 · cases h
theorem ref_is.ok : AllOk specs_ref_is := okS (cx := cx_ref_is) rfl ref_Depth.ok (by kernel_rfl) fun args cs n K r g => by
 unfold ref_is.spec at g
 dsimp only [lcSt] at g
 split at g
 · rename_i s l q
   obtain ⟨v,h,h2⟩ := bind2 g
   clear g
   refine okG h2 ?_
   clear h2
   refine ⟨0,?_⟩
   rw [ref_is.top]
   show _ = Option.bind (some v) (fun v : Bool => (some (.ret (.bool v),lcRet [[.sl W l .no,.bool q]] [] 0) : Option (Rr U0)))
   rw [← h]
   unfold atP
   cases l with
   | nil => rfl
   | cons w r =>
    simp only [nth,Option.bind_some,Int.toNat_zero]
    unfold isW
    by_cases h1 : seq w.2.1 s = true <;> by_cases h2 : w.1 = 4 <;> by_cases h3 : w.1 = 1 <;> simp [h1,h2,h3]
 · cases g
theorem ref_take.ok : AllOk specs_ref_take := okS (cx := cx_ref_take) rfl ref_is.ok (by kernel_rfl) fun args cs n K r g => by
 unfold ref_take.spec at g
 dsimp only [lcSt] at g
 split at g
 · rename_i s l q
   obtain ⟨v,h,h2⟩ := bind2 g
   clear g
   refine okG h2 ?_
   clear h2
   refine ⟨0,?_⟩
   rw [ref_take.top]
   show _ = Option.bind (some v) (fun v : Bool × List (W.den U0) × Bool => (some (.ret (.bool v.1),lcRet [[.sl W (v.2.1) .no,.bool (v.2.2)]] [] 0) : Option (Rr U0)))
   rw [← h]
   unfold takeR atP
   cases l with
   | nil => rfl
   | cons w r =>
    simp only [nth,Option.bind_some]
    by_cases h1 : isW s w = true <;> simp [h1] <;> omega
 · cases g
theorem ref_need.ok : AllOk specs_ref_need := okS (cx := cx_ref_need) rfl ref_take.ok (by kernel_rfl) fun args cs n K r g => by
 unfold ref_need.spec at g
 dsimp only [lcSt] at g
 split at g
 · rename_i s l q
   obtain ⟨v,h,h2⟩ := bind2 g
   clear g
   refine okG h2 ?_
   clear h2
   refine ⟨0,?_⟩
   rw [ref_need.top]
   show _ = Option.bind (some v) (fun v : List (W.den U0) × Bool => (some (.ret (.tup []),lcRet [[.sl W (v.1) .no,.bool (v.2)]] [] 0) : Option (Rr U0)))
   rw [← h]
   unfold needR
   rw [Option.bind_assoc]
   congr 1
   funext a
   by_cases h1 : a.1 = true <;> simp [h1]
 · cases g
theorem ref_name.ok : AllOk specs_ref_name := okS (cx := cx_ref_name) rfl ref_need.ok (by kernel_rfl) fun args cs n K r g => by
 unfold ref_name.spec at g
 dsimp only [lcSt] at g
 split at g
 · rename_i l q
   obtain ⟨v,h,h2⟩ := bind2 g
   clear g
   refine okG h2 ?_
   clear h2
   refine ⟨0,?_⟩
   rw [ref_name.top]
   show _ = Option.bind (some v) (fun v : ByteArray × List (W.den U0) × Bool => (some (.ret (.str v.1),lcRet [[.sl W (v.2.1) .no,.bool (v.2.2)]] [] 0) : Option (Rr U0)))
   rw [← h]
   unfold nameR
   cases l with
   | nil => rfl
   | cons w r =>
    simp only [nth,Option.bind_some,Int.toNat_zero]
    by_cases h1 : w.1 = 1 <;> by_cases h2 : kwP w.2.1 = true <;> simp [h1,h2] <;> omega
 · cases g
theorem ref_path.l1 (n : Nat) (l0 : List Wd) (q0 : Bool) : ∀ (k m : Nat) (t : ByteArray) (l : List Wd) (q : Bool),k ≤ m → ∀ v,moreR k t l q = some v → ref_path.L1 n m l0 q0 t l q = (fun v : ByteArray × List (W.den U0) × Bool => (some (.ret (.str v.1),lcRet [[.sl W (v.2.1) .no,.bool (v.2.2)]] [] 0) : Option (Rr U0))) v := by
 intro k
 induction k with
 | zero => intro m t l q _ v h; simp [moreR] at h
 | succ k ih =>
  intro m t l q hk v h
  obtain ⟨m,rfl⟩ : ∃ m',m = m' + 1 := ⟨m - 1,by omega⟩
  rw [moreR] at h
  rw [ref_path.L1_s]
  by_cases hq : q = true
  · rw [if_pos hq] at h
    obtain rfl := Option.some.inj h
    rw [if_neg (by simp [hq])]
  rw [if_neg hq] at h
  rw [if_pos (by simp [hq])]
  obtain ⟨a,h1,h2⟩ := bind2 h
  rw [h1,Option.bind_some]
  by_cases ha : a.1 = true
  · rw [if_pos ha] at h2
    rw [if_pos (by simp [ha])]
    obtain ⟨b,h3,h4⟩ := bind2 h2
    rw [h3,Option.bind_some]
    by_cases hb : ((⟨#[46]⟩ : ByteArray)).size + b.1.size ≤ 9223372036854775807
    · rw [if_pos hb] at h4 ⊢
      by_cases hc : t.size + ((⟨#[46]⟩ : ByteArray) ++ b.1).size ≤ 9223372036854775807
      · rw [if_pos hc] at h4 ⊢
        exact ih m _ _ _ (by omega) v h4
      · rw [if_neg hc] at h4; cases h4
    · rw [if_neg hb] at h4; cases h4
  · rw [if_neg ha] at h2
    rw [if_neg (by simp [ha])]
    obtain rfl := Option.some.inj h2
    rfl
theorem ref_path.ok : AllOk specs_ref_path := okS (cx := cx_ref_path) rfl ref_name.ok (by kernel_rfl) fun args cs n K r g => by
 unfold ref_path.spec at g
 dsimp only [lcSt] at g
 split at g
 · rename_i l q
   obtain ⟨v,h,h2⟩ := bind2 g
   clear g
   refine okG h2 ?_
   clear h2
   refine ⟨l.length + 1,?_⟩
   unfold pathRQ pathR at h
   obtain ⟨b,h1,h2⟩ := bind2 h
   rw [ref_path.top,h1,Option.bind_some,ref_path.L1_s,← ref_path.L1_s,ref_path.l1 _ _ _ _ _ _ _ _ (Nat.le_refl _) v h2]
 · cases g
theorem ref_tight.ok : AllOk specs_ref_tight := okS (cx := cx_ref_tight) rfl ref_path.ok (by kernel_rfl) fun args cs n K r g => by
 unfold ref_tight.spec at g
 dsimp only [lcSt] at g
 split at g
 · rename_i op
   obtain ⟨v,h,h2⟩ := bind2 g
   clear g
   refine okG h2 ?_
   clear h2
   obtain rfl := Option.some.inj h
   refine ⟨0,?_⟩
   rw [ref_tight.top]
   unfold tightP
   simp only [ite_or,beq_iff_eq]
   repeat' split
   all_goals first | rfl | omega
 · cases g
theorem ref_sign.ok : AllOk specs_ref_sign := okS (cx := cx_ref_sign) rfl ref_tight.ok (by kernel_rfl) fun args cs n K r g => by
 unfold ref_sign.spec at g
 dsimp only [lcSt] at g
 split at g
 · rename_i op
   obtain ⟨v,h,h2⟩ := bind2 g
   clear g
   refine okG h2 ?_
   clear h2
   obtain rfl := Option.some.inj h
   refine ⟨0,?_⟩
   rw [ref_sign.top]
   unfold signP
   simp only [beq_iff_eq]
   by_cases h19 : op = 19
   · rw [if_pos h19,if_pos h19]
   rw [if_neg h19,if_neg h19]
   by_cases h18 : op = 18
   · rw [if_pos h18,if_pos h18]
   rw [if_neg h18,if_neg h18]
   by_cases h12 : op = 12
   · rw [if_pos h12,if_pos h12]
   rw [if_neg h12,if_neg h12]
   by_cases h13 : op = 13
   · rw [if_pos h13,if_pos h13]
   rw [if_neg h13,if_neg h13]
   by_cases h14 : op = 14
   · rw [if_pos h14,if_pos h14]
   rw [if_neg h14,if_neg h14]
   by_cases h15 : op = 15
   · rw [if_pos h15,if_pos h15]
   rw [if_neg h15,if_neg h15]
   by_cases h16 : op = 16
   · rw [if_pos h16,if_pos h16]
   rw [if_neg h16,if_neg h16]
   by_cases h17 : op = 17
   · rw [if_pos h17,if_pos h17]
   rw [if_neg h17,if_neg h17]
   by_cases h10 : op = 10
   · rw [if_pos h10,if_pos h10]
   rw [if_neg h10,if_neg h10]
   by_cases h11 : op = 11
   · rw [if_pos h11,if_pos h11]
   rw [if_neg h11,if_neg h11]
   by_cases h7 : op = 7
   · rw [if_pos h7,if_pos h7]
   rw [if_neg h7,if_neg h7]
   by_cases h8 : op = 8
   · rw [if_pos h8,if_pos h8]
   rw [if_neg h8,if_neg h8]
   by_cases h9 : op = 9
   · rw [if_pos h9,if_pos h9]
   rw [if_neg h9,if_neg h9]
 · cases g
theorem opsR_drop : ∀ j < 13,opsR.drop j = ((j : Int) + 7) :: opsR.drop (j + 1) := by decide
theorem ref_operator.l1 (n : Nat) (own0 own : Int) (l0 l : List Wd) (q0 q : Bool) : ∀ (d j m : Nat),d + j = 13 → d + 1 ≤ m → ref_operator.L1 n m own0 l0 q0 own ((j : Int) + 7) l q = (opR own (opsR.drop j) l).bind (fun v => (some (.ret (.int .i64 v),lcRet [[.sl W l .no,.bool q]] [] 0) : Option (Rr U0))) := by
 intro d
 induction d with
 | zero =>
  intro j m h1 h2
  obtain ⟨m,rfl⟩ : ∃ m',m = m' + 1 := ⟨m - 1,by omega⟩
  obtain rfl : j = 13 := by omega
  rw [ref_operator.L1_s,if_neg (by decide)]
  rfl
 | succ d ih =>
  intro j m h1 h2
  obtain ⟨m,rfl⟩ : ∃ m',m = m' + 1 := ⟨m - 1,by omega⟩
  have e := ih (j + 1) m (by omega) (by omega)
  rw [show ((j + 1 : Nat) : Int) + 7 = (j : Int) + 7 + 1 from by omega] at e
  rw [ref_operator.L1_s,if_pos (by simp; omega),wrL ((j : Int) + 7 + 1) (by omega) (by omega),e,opsR_drop j (by omega),opR]
  simp only [beq_iff_eq,if_true,bind_ite,Option.bind_assoc,Option.bind_some]
theorem ref_operator.ok : AllOk specs_ref_operator := okS (cx := cx_ref_operator) rfl ref_sign.ok (by kernel_rfl) fun args cs n K r g => by
 unfold ref_operator.spec at g
 dsimp only [lcSt] at g
 split at g
 · rename_i own l q
   obtain ⟨v,h,h2⟩ := bind2 g
   clear g
   refine okG h2 ?_
   clear h2
   refine ⟨14,?_⟩
   rw [ref_operator.top]
   show _ = Option.bind (some v) (fun v : Int => (some (.ret (.int .i64 v),lcRet [[.sl W l .no,.bool q]] [] 0) : Option (Rr U0)))
   rw [← h]
   rw [ref_operator.L1_s,← ref_operator.L1_s]
   exact ref_operator.l1 14 own own l l q q 13 0 14 (by omega) (by omega)
 · cases g
theorem ref_part.step (k : Nat) (h0 : CallOkL Tryz.prog C0 30 (ref_loose.specR k)) : CallOkL Tryz.prog C0 97 (ref_part.specR k) := okR (cx := cx_ref_part) (R := ref_part.rec k) rfl rfl ref_operator.ok (fun x hx => by
 obtain rfl := List.mem_singleton.1 hx
 exact ⟨fnOk_of (by kernel_rfl),h0⟩) fun args cs n K r g => by
 unfold ref_part.specR at g
 dsimp only [lcSt] at g
 split at g
 · rename_i l q
   obtain ⟨v,h,h2⟩ := bind2 g
   clear g
   refine okG h2 ?_
   clear h2
   refine ⟨0,?_⟩
   rw [ref_part.top]
   show _ = Option.bind (some v) (fun v : Node × List (W.den U0) × Bool => (some (.ret (.agg (C0.flat 0 (v.1))),lcRet [[.sl W (v.2.1) .no,.bool (v.2.2)]] [] 0) : Option (Rr U0)))
   rw [← h]
   unfold partRK partR
   cases l with
   | nil => rfl
   | cons w r =>
    have e1 : (1 : Int) ≤ ((w :: r).length : Int) := by simp; omega
    simp only [nth,Option.bind_some,beq_iff_eq,bind_ite,Option.bind_assoc,decide_eq_true_eq,List.drop_succ_cons,List.drop_zero,Bool.false_eq_true,if_true,if_false,Int.toNat_zero,toNat1,if_pos e1]
    rfl
 · cases g
theorem ref_factor.step (k : Nat) (h0 : CallOkL Tryz.prog C0 48 (ref_factor.specR k)) (h1 : CallOkL Tryz.prog C0 97 (ref_part.specR k)) : CallOkL Tryz.prog C0 48 (ref_factor.specR (k + 1)) := okR (cx := cx_ref_factor) (R := ref_factor.rec k) rfl rfl ref_operator.ok (fun x hx => by
 rcases List.mem_cons.1 hx with rfl | hx
 · exact ⟨fnOk_of (by kernel_rfl),h0⟩
 obtain rfl := List.mem_singleton.1 hx
 exact ⟨fnOk_of (by kernel_rfl),h1⟩) fun args cs n K r g => by
 unfold ref_factor.specR at g
 dsimp only [lcSt] at g
 split at g
 · rename_i l q
   obtain ⟨v,h,h2⟩ := bind2 g
   clear g
   refine okG h2 ?_
   clear h2
   rw [factorR] at h
   refine ⟨0,?_⟩
   rw [ref_factor.top]
   by_cases hq : q = true
   · rw [if_pos hq] at h
     rw [if_pos hq,show partRK k l q = some v from h]
     rfl
   rw [if_neg hq] at h
   rw [if_neg hq]
   obtain ⟨a,ha,h⟩ := bind2 h
   rw [ha,Option.bind_some]
   by_cases ha1 : a.1 = true
   · rw [if_pos ha1] at h
     obtain ⟨b,hb,h⟩ := bind2 h
     obtain rfl := Option.some.inj h
     rw [if_neg (by simp [ha1]),hb,Option.bind_some,nd_x]
     rfl
   · rw [if_neg ha1] at h
     rw [if_pos (by simp [ha1]),show partRK k a.2.1 a.2.2 = some v from h]
     rfl
 · cases g
theorem ref_factor.zero : CallOkL Tryz.prog C0 48 (ref_factor.specR 0) := fun args cs n K r h => by
 unfold ref_factor.specR at h
 dsimp only [lcSt] at h
 split at h
 · obtain ⟨v,h1,h2⟩ := bind2 h
   exact absurd h1 (by first | (simp [factorR]; done) | (unfold factorR; simp))
 · cases h
theorem ref_loose.l1 (n k : Nat) (own0 own : Int) (l0 : List Wd) (q0 : Bool) (r2 r3 r4 : Int) (r5 : Bool) (r6 r7 : ByteArray) (r8 : Int) (r9 : List Node) : ∀ (j m : Nat) (o : Int) (t : Node) (l : List Wd) (q : Bool) (v : Node × List Wd × Bool),j ≤ m → loopR (looseR k) own j o t l q = some v →
 ref_loose.L1 n m k own0 l0 q0 own o l q r2 r3 r4 r5 r6 r7 r8 r9 t.x.1 t.x.2.1.1 t.x.2.1.2.1 t.x.2.1.2.2.1 t.x.2.1.2.2.2 t.x.2.2.1 t.x.2.2.2.1 t.x.2.2.2.2 = (fun v : Node × List (W.den U0) × Bool => (some (.ret (.agg (C0.flat 0 (v.1))),lcRet [[.sl W (v.2.1) .no,.bool (v.2.2)]] [] 0) : Option (Rr U0))) v := by
 intro j
 induction j with
 | zero => intro m o t l q v _ h; simp [loopR] at h
 | succ j ih =>
  intro m o t l q v hm h
  obtain ⟨m,rfl⟩ : ∃ m',m = m' + 1 := ⟨m - 1,by omega⟩
  rw [loopR] at h
  rw [ref_loose.L1_s]
  by_cases ho : 0 < o ∧ q = false
  · rw [if_pos ho] at h
    rw [if_pos (by simp [ho.1]),if_pos (by simp [ho.2])]
    obtain ⟨w,hw,h⟩ := bind2 h
    have hl : (1 : Int) ≤ (l.length : Int) := by
     cases l with
     | nil => cases hw
     | cons a b => simp; omega
    rw [if_pos hl,show List.drop (Int.toNat 1) l = l.drop 1 from rfl]
    obtain ⟨b,hb,h⟩ := bind2 h
    rw [hb,Option.bind_some]
    by_cases h4 : own = 4
    · rw [if_pos h4] at h
      rw [if_pos (by simp [h4])]
      obtain rfl := Option.some.inj h
      rw [nd_x,nd_x]
      rfl
    · rw [if_neg h4] at h
      obtain ⟨o',ho',h⟩ := bind2 h
      rw [if_neg (by simp [h4]),ho',Option.bind_some,nd_x,nd_x]
      exact ih m _ _ _ _ v (by omega) h
  · rw [if_neg ho] at h
    obtain rfl := Option.some.inj h
    by_cases h1 : o > 0
    · rw [if_pos (by simp [h1])]
      by_cases h2 : q = false
      · exact absurd ⟨h1,h2⟩ ho
      · rw [if_neg (by simp [h2])]
        rfl
    · rw [if_neg (by simp; omega)]
      rfl
theorem ref_loose.step (k : Nat) (h0 : CallOkL Tryz.prog C0 30 (ref_loose.specR k)) (h1 : CallOkL Tryz.prog C0 48 (ref_factor.specR k)) : CallOkL Tryz.prog C0 30 (ref_loose.specR (k + 1)) := okR (cx := cx_ref_loose) (R := ref_loose.rec k) rfl rfl ref_operator.ok (fun x hx => by
 rcases List.mem_cons.1 hx with rfl | hx
 · exact ⟨fnOk_of (by kernel_rfl),h0⟩
 obtain rfl := List.mem_singleton.1 hx
 exact ⟨fnOk_of (by kernel_rfl),h1⟩) fun args cs n K r g => by
 unfold ref_loose.specR at g
 dsimp only [lcSt] at g
 split at g
 · rename_i own l q
   obtain ⟨v,h,h2⟩ := bind2 g
   clear g
   refine okG h2 ?_
   clear h2
   rw [looseR] at h
   by_cases hq : q = true
   · rw [if_pos hq] at h
     obtain rfl := Option.some.inj h
     refine ⟨0,?_⟩
     rw [ref_loose.top,if_pos hq]
     rfl
   rw [if_neg hq] at h
   by_cases h3 : own = 3
   · rw [if_pos h3] at h
     obtain ⟨a,ha,h⟩ := bind2 h
     refine ⟨0,?_⟩
     rw [ref_loose.top,if_neg hq,if_pos (by simp [h3]),ha,Option.bind_some]
     by_cases ha1 : a.1 = true
     · rw [if_pos ha1] at h
       obtain ⟨b,hb,h⟩ := bind2 h
       obtain rfl := Option.some.inj h
       rw [if_pos ha1,hb,Option.bind_some,nd_x]
       rfl
     · rw [if_neg ha1] at h
       rw [if_neg ha1,h]
       rfl
   rw [if_neg h3] at h
   by_cases h7 : own = 7
   · rw [if_pos h7] at h
     refine ⟨0,?_⟩
     rw [ref_loose.top,if_neg hq,if_neg (by simp [h3]),if_pos (by simp [h7]),h]
     rfl
   rw [if_neg h7] at h
   obtain ⟨b,hb,h⟩ := bind2 h
   obtain ⟨o,ho,h⟩ := bind2 h
   refine ⟨b.2.1.length + 1,?_⟩
   rw [ref_loose.top,if_neg hq,if_neg (by simp [h3]),if_neg (by simp [h7]),hb,Option.bind_some,ho,Option.bind_some,ref_loose.L0_s,← ref_loose.L1_s]
   rw [ref_loose.l1 _ _ _ _ _ _ _ _ _ _ _ _ _ _ _ _ _ _ _ _ v (Nat.le_refl _) h]
 · cases g
theorem ref_loose.zero : CallOkL Tryz.prog C0 30 (ref_loose.specR 0) := fun args cs n K r h => by
 unfold ref_loose.specR at h
 dsimp only [lcSt] at h
 split at h
 · obtain ⟨v,h1,h2⟩ := bind2 h
   exact absurd h1 (by first | (simp [looseR]; done) | (unfold looseR; simp))
 · cases h
theorem ref_loose.both : ∀ k,CallOkL Tryz.prog C0 30 (ref_loose.specR k) ∧ CallOkL Tryz.prog C0 48 (ref_factor.specR k)
 | 0 => ⟨ref_loose.zero,ref_factor.zero⟩
 | k + 1 => ⟨ref_loose.step k (ref_loose.both k).1 (ref_loose.both k).2,ref_factor.step k (ref_loose.both k).2 (ref_part.step k (ref_loose.both k).1)⟩
theorem ref_loose.recOk (k : Nat) : CallOkL Tryz.prog C0 30 (ref_loose.specR k) := (ref_loose.both k).1
theorem ref_factor.recOk (k : Nat) : CallOkL Tryz.prog C0 48 (ref_factor.specR k) := (ref_loose.both k).2
theorem ref_part.recOk (k : Nat) : CallOkL Tryz.prog C0 97 (ref_part.specR k) := ref_part.step k (ref_loose.both k).1
theorem ref_part.ok : AllOk specs_ref_part := allOk_cons ref_operator.ok (fnOk_of (by kernel_rfl)) fun args cs n K r h => by
 unfold ref_part.spec at h
 dsimp only [lcSt] at h
 split at h
 · rename_i l q
   refine ref_part.recOk (9*l.length+9) _ _ _ K r ?_
   unfold ref_part.specR
   exact h
 · cases h
theorem ref_factor.ok : AllOk specs_ref_factor := allOk_cons ref_part.ok (fnOk_of (by kernel_rfl)) fun args cs n K r h => by
 unfold ref_factor.spec at h
 dsimp only [lcSt] at h
 split at h
 · rename_i l q
   refine ref_factor.recOk (9*l.length+9) _ _ _ K r ?_
   unfold ref_factor.specR
   exact h
 · cases h
theorem ref_loose.ok : AllOk specs_ref_loose := allOk_cons ref_factor.ok (fnOk_of (by kernel_rfl)) fun args cs n K r h => by
 unfold ref_loose.spec at h
 dsimp only [lcSt] at h
 split at h
 · rename_i own l q
   refine ref_loose.recOk (9*l.length+9) _ _ _ K r ?_
   unfold ref_loose.specR
   exact h
 · cases h
end Go.Proofs.YtbcpnpbkbndkjaaGreatDoor.Ev
end
section
/- Whole texts. -/
-- prev ref_loose
-- irreducible pathQ pathRQ kwP idxP stP nmP isW atP takeP nameP moreP pathP mustP thenP partP opP loopP exprB exprP partK deepL deepP takeR needR nameR moreR pathR partR tightP signP opR loopR looseR factorR partRK sameL sameP nd vI vT vB nilN lim parseP parseR awakeP parsesP big
-- map words %s.map fun x : Q.S69 => (x.f0,x.f1,x.f2)
set_option linter.unusedVariables false
namespace Go.Proofs.YtbcpnpbkbndkjaaGreatDoor.Ev
open Go Go.RowKit Go.Proofs.YtbcpnpbkbndkjaaGreatDoorW.PrintWords
noncomputable def parseP (s : ByteArray) : Option (Node × Int) := (lim fun k => Q.lexer_Words.f k s).bind fun w => if w.2.2 = 0 then (exprP (9 * (w.1.map fun x : Q.S69 => (x.f0,x.f1,x.f2)).length + 9) 1 (w.1.map fun x : Q.S69 => (x.f0,x.f1,x.f2))).bind fun v => if v.1 = true then (nth v.2.2 0).bind fun u => if u.1 = 0 then (deepP (big v.2.1.x.2.2.2.2) v.2.1.x.2.2.2.2).bind fun d => if d > 24 then some (nilN,4) else some (v.2.1,0) else some (nilN,21) else some (nilN,21) else some (nilN,w.2.2)
noncomputable def parseR (s : ByteArray) : Option (Node × Int) := (lim fun k => Q.dossierref08_Words.f k s).bind fun w => if w.2.2 = 0 then (looseR (9 * (w.1.map fun x : Q.S69 => (x.f0,x.f1,x.f2)).length + 9) 1 (w.1.map fun x : Q.S69 => (x.f0,x.f1,x.f2)) false).bind fun v => if v.2.2 = true then some (nilN,21) else (nth v.2.1 0).bind fun u => if u.1 = 0 then (deepP (big v.1.x.2.2.2.2) v.1.x.2.2.2.2).bind fun d => if d > 24 then some (nilN,4) else some (v.1,0) else some (nilN,21) else some (nilN,w.2.2)
noncomputable def cx_expr_Parse := cxOf specs_ref_loose
noncomputable def expr_Parse.spec : Spec := fun args st K => match args,st.box,st.nt with
 | [.str s],[],0 => (parseP s).bind fun v => K (.ret (.tup [.agg (C0.flat 0 (v.1)),.int .i64 v.2])) (lcRet [] [] 0)
 | _,_,_ => none
noncomputable def specs_expr_Parse : SpecL := (14,false,expr_Parse.spec) :: specs_ref_loose
noncomputable def cx_ref_Parse := cxOf specs_expr_Parse
noncomputable def ref_Parse.spec : Spec := fun args st K => match args,st.box,st.nt with
 | [.str s],[],0 => (parseR s).bind fun v => K (.ret (.tup [.agg (C0.flat 0 (v.1)),.int .i64 v.2])) (lcRet [] [] 0)
 | _,_,_ => none
noncomputable def specs_ref_Parse : SpecL := (16,false,ref_Parse.spec) :: specs_expr_Parse
end Go.Proofs.YtbcpnpbkbndkjaaGreatDoor.Ev
end
section
/- What each function comes to, one step of it at a time: the kernel's own reckoning. -/
set_option linter.unusedVariables false
set_option maxRecDepth 100000
namespace Go.Proofs.YtbcpnpbkbndkjaaGreatDoor.Ev
open Go Go.RowKit
open Go.IntKind (i64 u8 i32 u64)
theorem expr_Parse.top (n : Nat) (s : ByteArray) : callX false (fnF cx_expr_Parse noCalls n 14) ([.str s]) (lcSt [] 0) out = ((lim fun k => Q.lexer_Words.f k s).bind fun v0 => if (v0.2.2 != 0) = true then some (.ret (.tup [.agg [.int .i64 0,.int .i64 0,.int .i64 0,.bool false,.str ⟨#[]⟩,.str ⟨#[]⟩,.int .i64 0,.sl (.user 0) [] .no],.int .i64 v0.2.2]),lcRet [] [] 0) else ((exprP (9 * (List.map (fun x => (x.1,x.2,x.3)) v0.1).length + 9) (1 : Int) (List.map (fun x => (x.1,x.2,x.3)) v0.1)).bind fun v1 => if v1.1 = true then ((nth v1.2.2 0).bind fun v2 => if (v2.1 == 0) = true then ((deepP (big v1.2.1.x.2.2.2.2) v1.2.1.x.2.2.2.2).bind fun v3 => if decide (v3 > 24) = true then some (.ret (.tup [.agg [.int .i64 0,.int .i64 0,.int .i64 0,.bool false,.str ⟨#[]⟩,.str ⟨#[]⟩,.int .i64 0,.sl (.user 0) [] .no],.int .i64 4]),lcRet [] [] 0) else some (.ret (.tup [.agg [.int .i64 v1.2.1.x.1,.int .i64 v1.2.1.x.2.1.1,.int .i64 v1.2.1.x.2.1.2.1,.bool v1.2.1.x.2.1.2.2.1,.str v1.2.1.x.2.1.2.2.2,.str v1.2.1.x.2.2.1,.int .i64 v1.2.1.x.2.2.2.1,.sl (.user 0) v1.2.1.x.2.2.2.2 .no],.int .i64 0]),lcRet [] [] 0)) else some (.ret (.tup [.agg [.int .i64 0,.int .i64 0,.int .i64 0,.bool false,.str ⟨#[]⟩,.str ⟨#[]⟩,.int .i64 0,.sl (.user 0) [] .no],.int .i64 21]),lcRet [] [] 0)) else some (.ret (.tup [.agg [.int .i64 0,.int .i64 0,.int .i64 0,.bool false,.str ⟨#[]⟩,.str ⟨#[]⟩,.int .i64 0,.sl (.user 0) [] .no],.int .i64 21]),lcRet [] [] 0))) := by kernel_rfl
theorem ref_Parse.top (n : Nat) (s : ByteArray) : callX false (fnF cx_ref_Parse noCalls n 16) ([.str s]) (lcSt [] 0) out = ((lim fun k => Q.dossierref08_Words.f k s).bind fun v0 => if (v0.2.2 != 0) = true then some (.ret (.tup [.agg [.int .i64 0,.int .i64 0,.int .i64 0,.bool false,.str ⟨#[]⟩,.str ⟨#[]⟩,.int .i64 0,.sl (.user 0) [] .no],.int .i64 v0.2.2]),lcRet [] [] 0) else ((looseR (9 * (List.map (fun x => (x.1,x.2,x.3)) v0.1).length + 9) (1 : Int) (List.map (fun x => (x.1,x.2,x.3)) v0.1) false).bind fun v1 => if v1.2.2 = true then some (.ret (.tup [.agg [.int .i64 0,.int .i64 0,.int .i64 0,.bool false,.str ⟨#[]⟩,.str ⟨#[]⟩,.int .i64 0,.sl (.user 0) [] .no],.int .i64 21]),lcRet [] [] 0) else ((nth v1.2.1 (Int.toNat (0 : Int))).bind fun v2 => if (if false = true then true else v2.1 != 0) = true then some (.ret (.tup [.agg [.int .i64 0,.int .i64 0,.int .i64 0,.bool false,.str ⟨#[]⟩,.str ⟨#[]⟩,.int .i64 0,.sl (.user 0) [] .no],.int .i64 21]),lcRet [] [] 0) else ((deepP (big v1.1.x.2.2.2.2) v1.1.x.2.2.2.2).bind fun v3 => if decide (v3 > 24) = true then some (.ret (.tup [.agg [.int .i64 0,.int .i64 0,.int .i64 0,.bool false,.str ⟨#[]⟩,.str ⟨#[]⟩,.int .i64 0,.sl (.user 0) [] .no],.int .i64 4]),lcRet [] [] 0) else some (.ret (.tup [.agg [.int .i64 v1.1.x.1,.int .i64 v1.1.x.2.1.1,.int .i64 v1.1.x.2.1.2.1,.bool v1.1.x.2.1.2.2.1,.str v1.1.x.2.1.2.2.2,.str v1.1.x.2.2.1,.int .i64 v1.1.x.2.2.2.1,.sl (.user 0) v1.1.x.2.2.2.2 .no],.int .i64 0]),lcRet [] [] 0))))) := by kernel_rfl
end Go.Proofs.YtbcpnpbkbndkjaaGreatDoor.Ev
end
section
/- Whole texts: the two parsers, and what the statements say. -/
set_option linter.unusedVariables false
set_option linter.unusedSimpArgs false
namespace Go.Proofs.YtbcpnpbkbndkjaaGreatDoor.Ev
open Go Go.RowKit Go.Proofs.YtbcpnpbkbndkjaaGreatDoorW.PrintWords
theorem bne_neg (a b : Int) : ((a != b) = true) = ¬ (a = b) := by simp
theorem ite_neg {α : Type} (c : Prop) [Decidable c] (a b : α) : (if ¬ c then a else b) = if c then b else a := by by_cases h : c <;> simp [h]
theorem expr_Parse.ok : AllOk specs_expr_Parse := okS (cx := cx_expr_Parse) rfl ref_loose.ok (by kernel_rfl) fun args cs n K r g => by
 unfold expr_Parse.spec at g
 dsimp only [lcSt] at g
 split at g
 · rename_i s
   obtain ⟨v,h,h2⟩ := bind2 g
   clear g
   refine okG h2 ?_
   clear h2
   refine ⟨0,?_⟩
   rw [expr_Parse.top]
   show _ = Option.bind (some v) (fun v : Node × Int => (some (.ret (.tup [.agg (C0.flat 0 (v.1)),.int .i64 v.2]),lcRet [] [] 0) : Option (Rr U0)))
   rw [← h]
   unfold parseP
   simp only [bne_neg,ite_neg,beq_iff_eq,if_true,bind_ite,Option.bind_assoc,Option.bind_some,decide_eq_true_eq]
   rfl
 · cases g
theorem ref_Parse.ok : AllOk specs_ref_Parse := okS (cx := cx_ref_Parse) rfl expr_Parse.ok (by kernel_rfl) fun args cs n K r g => by
 unfold ref_Parse.spec at g
 dsimp only [lcSt] at g
 split at g
 · rename_i s
   obtain ⟨v,h,h2⟩ := bind2 g
   clear g
   refine okG h2 ?_
   clear h2
   refine ⟨0,?_⟩
   rw [ref_Parse.top]
   show _ = Option.bind (some v) (fun v : Node × Int => (some (.ret (.tup [.agg (C0.flat 0 (v.1)),.int .i64 v.2]),lcRet [] [] 0) : Option (Rr U0)))
   rw [← h]
   unfold parseR
   simp only [bne_neg,ite_neg,beq_iff_eq,if_true,Bool.false_eq_true,if_false,bind_ite,Option.bind_assoc,Option.bind_some,decide_eq_true_eq]
   rfl
 · cases g
end Go.Proofs.YtbcpnpbkbndkjaaGreatDoor.Ev
end
section
/- Characters: the program's decoder, the reference's and one plain function are the same at every list of bytes; so are the searches for a byte that is no character. -/
set_option linter.unusedSimpArgs false
set_option linter.unusedVariables false
namespace Go.Proofs.YtbcpnpbkbndkjaaGreatDoor.Chars
open Go.RowKit Go.Proofs.YtbcpnpbkbndkjaaGreatDoor.Q Go.Proofs.YtbcpnpbkbndkjaaGreatDoorW.PrintWords Go.Proofs.YtbcpnpbkbndkjaaGreatDoorW.PrintLast Go.Proofs.YtbcpnpbkbndkjaaGreatDoorH
/-- Each number of a list is a byte. -/
def Bytes (l : List Int) : Prop := ∀ x ∈ l,0 ≤ x ∧ x < 256
theorem bytes_of (s : ByteArray) : Bytes (bytesOf s) := by
 intro x hx
 unfold bytesOf at hx
 obtain ⟨b,_,rfl⟩ := List.mem_map.1 hx
 have := b.toNat_lt
 constructor <;> omega
theorem Bytes.drop {l : List Int} (h : Bytes l) (n : Nat) : Bytes (l.drop n) := fun x hx => h x (List.mem_of_mem_drop hx)
theorem Bytes.take {l : List Int} (h : Bytes l) (n : Nat) : Bytes (l.take n) := fun x hx => h x (List.mem_of_mem_take hx)
theorem Bytes.getD {l : List Int} (h : Bytes l) (n : Nat) : 0 ≤ l.getD n 0 ∧ l.getD n 0 < 256 := by
 by_cases hn : n < l.length
 · rw [List.getD_eq_getElem?_getD,List.getElem?_eq_getElem hn]; exact h _ (List.getElem_mem hn)
 · rw [List.getD_eq_getElem?_getD,List.getElem?_eq_none (by omega)]; simp
/-- The first character and how many bytes it has; (0, 0): there is none. -/
def decN (n : Nat) (b0 b1 b2 b3 : Int) : Int × Int :=
 if b0 < 128 then (b0,1)
 else if 192 ≤ b0 ∧ b0 < 224 ∧ 2 ≤ n ∧ 128 ≤ b1 ∧ b1 < 192 then
  (if (b0 - 192) * 64 + (b1 - 128) ≥ 128 then ((b0 - 192) * 64 + (b1 - 128),2) else (0,0))
 else if 224 ≤ b0 ∧ b0 < 240 ∧ 3 ≤ n ∧ (128 ≤ b1 ∧ b1 < 192) ∧ 128 ≤ b2 ∧ b2 < 192 then
  (if 2048 ≤ (b0 - 224) * 4096 + (b1 - 128) * 64 + (b2 - 128) ∧ ((b0 - 224) * 4096 + (b1 - 128) * 64 + (b2 - 128) < 55296 ∨ 57344 ≤ (b0 - 224) * 4096 + (b1 - 128) * 64 + (b2 - 128))
   then ((b0 - 224) * 4096 + (b1 - 128) * 64 + (b2 - 128),3) else (0,0))
 else if 240 ≤ b0 ∧ b0 < 248 ∧ 4 ≤ n ∧ (128 ≤ b1 ∧ b1 < 192) ∧ (128 ≤ b2 ∧ b2 < 192) ∧ 128 ≤ b3 ∧ b3 < 192 then
  (if 65536 ≤ (b0 - 240) * 262144 + (b1 - 128) * 4096 + (b2 - 128) * 64 + (b3 - 128) ∧ (b0 - 240) * 262144 + (b1 - 128) * 4096 + (b2 - 128) * 64 + (b3 - 128) ≤ 1114111
   then ((b0 - 240) * 262144 + (b1 - 128) * 4096 + (b2 - 128) * 64 + (b3 - 128),4) else (0,0))
 else (0,0)
def dec (l : List Int) : Int × Int := if l = [] then (0,0) else decN l.length (l.getD 0 0) (l.getD 1 0) (l.getD 2 0) (l.getD 3 0)
theorem decN_two (n : Nat) (b0 b1 b2 b3 : Int) (h0 : 0 ≤ b0) : (decN n b0 b1 b2 b3).2 ≤ 4 ∧ 0 ≤ (decN n b0 b1 b2 b3).2 ∧ 0 ≤ (decN n b0 b1 b2 b3).1 ∧ (decN n b0 b1 b2 b3).1 ≤ 1114111 ∧ (1 ≤ n → (decN n b0 b1 b2 b3).2 ≤ n) ∧ ((decN n b0 b1 b2 b3).2 = 0 → (decN n b0 b1 b2 b3).1 = 0) := by
 unfold decN
 repeat' split
 all_goals (simp only; refine ⟨by omega,by omega,by omega,by omega,fun _ => by omega,fun h_ => by omega⟩)
theorem dec_two {l : List Int} (hl : Bytes l) : (dec l).2 ≤ 4 ∧ 0 ≤ (dec l).2 ∧ 0 ≤ (dec l).1 ∧ (dec l).1 ≤ 1114111 ∧ (dec l).2 ≤ l.length ∧ ((dec l).2 = 0 → (dec l).1 = 0) := by
 unfold dec
 by_cases h : l = []
 · rw [if_pos h]; simp
 · rw [if_neg h]
   have hlen : 1 ≤ l.length := List.length_pos_iff.2 h
   have := decN_two l.length (l.getD 0 0) (l.getD 1 0) (l.getD 2 0) (l.getD 3 0) (hl.getD 0).1
   exact ⟨this.1,this.2.1,this.2.2.1,this.2.2.2.1,this.2.2.2.2.1 hlen,this.2.2.2.2.2⟩
theorem get!_at (l : List Int) (hl : Bytes l) (i : Nat) : (((strOfNums l).get! i).toNat : Int) = l.getD i 0 := by
 by_cases h : i < l.length
 · rw [strOfNums_get! l i h,List.getD_eq_getElem?_getD,List.getElem?_eq_getElem h]
   have := hl _ (List.getElem_mem h)
   simp only [Option.getD_some]
   generalize l[i] = x at *
   obtain ⟨y,rfl⟩ := Int.eq_ofNat_of_zero_le this.1
   simp; omega
 · rw [List.getD_eq_getElem?_getD,List.getElem?_eq_none (by omega)]
   have : ¬ i < (strOfNums l).data.size := by simp [strOfNums]; omega
   have e : (strOfNums l).data[i]! = 0 := by
    rw [Array.getElem!_eq_getD,Array.getD_eq_getD_getElem?,Array.getElem?_eq_none (by omega)]; rfl
   show (((strOfNums l).data[i]!).toNat : Int) = _
   rw [e]; rfl
set_option maxHeartbeats 4000000 in
/-- The model's decoder, with what it calls no character told as (0, 0). -/
theorem decN_go (n : Nat) (b0 b1 b2 b3 : Nat) (h0 : b0 < 256) (h1 : b1 < 256) (h2 : b2 < 256) (h3 : b3 < 256) :
 (if (Lib.decodeN n b0 b1 b2 b3).1 = 65533 ∧ (Lib.decodeN n b0 b1 b2 b3).2 ≤ 1 then ((0 : Int),(0 : Int)) else (((Lib.decodeN n b0 b1 b2 b3).1 : Int),((Lib.decodeN n b0 b1 b2 b3).2 : Int))) = decN n b0 b1 b2 b3 := by
 unfold Lib.decodeN decN
 repeat' split
 all_goals first
  | (exfalso; omega)
  | (simp only at *; first | (exfalso; omega) | (apply Prod.ext <;> simp only <;> omega))
  | (apply Prod.ext <;> simp only <;> omega)
theorem chars_Decode_spec (l : List Int) (hl : Bytes l) : chars_Decode.f l = some (dec l) := by
 have hall : (l.all fun x => decide (0 ≤ x) && decide (x < 256)) = true := by
  rw [List.all_eq_true]; intro x hx; have := hl x hx; simp [this.1,this.2]
 unfold chars_Decode.f utf8_DecodeRune.f
 rw [if_pos hall,Option.bind_some]
 by_cases h : l = []
 · subst h; rfl
 · have hlen : 1 ≤ l.length := List.length_pos_iff.2 h
   have hsz : (strOfNums l).size = l.length := strOfNums_size l
   have hd : Lib.decodeGo (strOfNums l) = Lib.decodeN l.length (l.getD 0 0).toNat (l.getD 1 0).toNat (l.getD 2 0).toNat (l.getD 3 0).toNat := by
    unfold Lib.decodeGo
    rw [if_neg (by omega),Lib.decode_at,hsz]
    have g := get!_at l hl
    have e : ∀ i,((strOfNums l).get! i).toNat = (l.getD i 0).toNat := fun i => by have := g i; omega
    simp only [Nat.zero_add,Nat.sub_zero,e]
   have hdec : dec l = decN l.length (l.getD 0 0) (l.getD 1 0) (l.getD 2 0) (l.getD 3 0) := by unfold dec; rw [if_neg h]
   have hb := hl.getD
   have key := decN_go l.length (l.getD 0 0).toNat (l.getD 1 0).toNat (l.getD 2 0).toNat (l.getD 3 0).toNat (by have := hb 0; omega) (by have := hb 1; omega) (by have := hb 2; omega) (by have := hb 3; omega)
   rw [Int.toNat_of_nonneg (hb 0).1,Int.toNat_of_nonneg (hb 1).1,Int.toNat_of_nonneg (hb 2).1,Int.toNat_of_nonneg (hb 3).1,← hdec,← hd] at key
   rw [← key]
   have hr : (Lib.decodeGo (strOfNums l)).1 ≤ 1114111 := by
    rw [hd]; unfold Lib.decodeN
    have := hb 0; have := hb 1
    repeat' split
    all_goals (simp only; omega)
   by_cases h1 : (Lib.decodeGo (strOfNums l)).1 = 65533
   · by_cases h2 : (Lib.decodeGo (strOfNums l)).2 ≤ 1
     · rw [if_pos (by omega),if_pos (by omega),if_pos ⟨h1,h2⟩]
     · rw [if_pos (by omega),if_neg (by omega),if_neg (fun x => h2 x.2)]; congr 2; unfold wrap64; omega
   · rw [if_neg (by omega),if_neg (fun x => h1 x.1)]; congr 2; unfold wrap64; omega
/-! ## The reference's -/
theorem tmod64 (x : Int) (h : 0 ≤ x) : Int.tmod x 64 = x % 64 := Int.tmod_eq_emod_of_nonneg h
/-- A character's bytes. -/
def enc (r : Int) : List Int :=
 if r < 0 ∨ r > 1114111 ∨ (55296 ≤ r ∧ r ≤ 57343) then []
 else if r < 128 then [r]
 else if r < 2048 then [192 + r / 64,128 + r % 64]
 else if r < 65536 then [224 + r / 4096,128 + r / 64 % 64,128 + r % 64]
 else [240 + r / 262144,128 + r / 4096 % 64,128 + r / 64 % 64,128 + r % 64]
theorem enc_spec (k : Nat) (r : Int) : dossierref01_Encode.f (k + 1) r = some (enc r) := by
 unfold dossierref01_Encode.f enc
 simp only [dossierref01_Encode.j0]
 have w : ∀ x : Int,0 ≤ x → x < 4000000 → wrap64 x = x := fun x h0 h1 => by unfold wrap64; omega
 by_cases h1 : r < 0
 · simp [h1]
 · by_cases h2 : r > 1114111
   · simp [h1,h2]
   · by_cases h3 : r ≥ 55296 ∧ r ≤ 57343
     · simp [h1,h2,h3.1,h3.2]
     · have hc : ¬ (r < 0 ∨ r > 1114111 ∨ (55296 ≤ r ∧ r ≤ 57343)) := by omega
       rw [if_neg h1,if_neg h2,if_neg hc]
       have e : (if r ≥ 55296 then (if (decide (r ≤ 57343)) = true then some ([] : List Int) else if r < 128 then some [r % 256] else if r < 2048 then some [wrap64 (192 + r / 64) % 256,wrap64 (128 + Int.tmod r 64) % 256] else if r < 65536 then some [wrap64 (224 + r / 4096) % 256,wrap64 (128 + Int.tmod (r / 64) 64) % 256,wrap64 (128 + Int.tmod r 64) % 256] else some [wrap64 (240 + r / 262144) % 256,wrap64 (128 + Int.tmod (r / 4096) 64) % 256,wrap64 (128 + Int.tmod (r / 64) 64) % 256,wrap64 (128 + Int.tmod r 64) % 256])
        else if false = true then some ([] : List Int) else if r < 128 then some [r % 256] else if r < 2048 then some [wrap64 (192 + r / 64) % 256,wrap64 (128 + Int.tmod r 64) % 256] else if r < 65536 then some [wrap64 (224 + r / 4096) % 256,wrap64 (128 + Int.tmod (r / 64) 64) % 256,wrap64 (128 + Int.tmod r 64) % 256] else some [wrap64 (240 + r / 262144) % 256,wrap64 (128 + Int.tmod (r / 4096) 64) % 256,wrap64 (128 + Int.tmod (r / 64) 64) % 256,wrap64 (128 + Int.tmod r 64) % 256])
        = (if r < 128 then some [r % 256] else if r < 2048 then some [wrap64 (192 + r / 64) % 256,wrap64 (128 + Int.tmod r 64) % 256] else if r < 65536 then some [wrap64 (224 + r / 4096) % 256,wrap64 (128 + Int.tmod (r / 64) 64) % 256,wrap64 (128 + Int.tmod r 64) % 256] else some [wrap64 (240 + r / 262144) % 256,wrap64 (128 + Int.tmod (r / 4096) 64) % 256,wrap64 (128 + Int.tmod (r / 64) 64) % 256,wrap64 (128 + Int.tmod r 64) % 256]) := by
        by_cases h4 : r ≥ 55296
        · rw [if_pos h4,if_neg (by simp; omega)]
        · rw [if_neg h4]; simp
       rw [e,tmod64 r (by omega),tmod64 (r / 64) (by omega),tmod64 (r / 4096) (by omega)]
       by_cases a1 : r < 128
       · simp only [a1,if_true]; congr 2; omega
       · simp only [a1,if_false]
         by_cases a2 : r < 2048
         · simp only [a2,if_true]; rw [w _ (by omega) (by omega),w _ (by omega) (by omega)]; congr 2; omega; congr 1; omega
         · simp only [a2,if_false]
           by_cases a3 : r < 65536
           · simp only [a3,if_true]; rw [w _ (by omega) (by omega),w _ (by omega) (by omega),w _ (by omega) (by omega)]; congr 2; omega; congr 1; omega; congr 1; omega
           · simp only [a3,if_false]; rw [w _ (by omega) (by omega),w _ (by omega) (by omega),w _ (by omega) (by omega),w _ (by omega) (by omega)]; congr 2; omega; congr 1; omega; congr 1; omega; congr 1; omega
/-- Bytes as a string are the same just where they are the same. -/
theorem str_inj {l m : List Int} (hl : Bytes l) (hm : Bytes m) : (strOfNums l).toList = (strOfNums m).toList ↔ l = m := by
 constructor
 · intro h
   rw [Lib.toList_data,Lib.toList_data,strOfNums_data,strOfNums_data] at h
   have hlen : l.length = m.length := by simpa using congrArg List.length h
   apply List.ext_getElem hlen
   intro i h1 h2
   have e : (l.map fun n => UInt8.ofNat n.toNat)[i]'(by simpa using h1) = (m.map fun n => UInt8.ofNat n.toNat)[i]'(by simpa using h2) := by simp only [h]
   simp only [List.getElem_map] at e
   have b1 := hl _ (List.getElem_mem h1)
   have b2 := hm _ (List.getElem_mem h2)
   have e' := congrArg UInt8.toNat e
   simp at e'
   omega
 · intro h; rw [h]
theorem enc_bytes (r : Int) : Bytes (enc r) := by
 unfold enc
 repeat' split
 all_goals (intro x hx; simp at hx)
 all_goals first | omega | (rcases hx with h | h <;> omega) | (rcases hx with h | h | h <;> omega) | (rcases hx with h | h | h | h <;> omega)
/-- What the reference does behind the first byte: the rest of the bytes, then the character's own bytes held against them. -/
def tailD (l : List Int) (n : Int) (r : Int) : Option (Int × Int) := if enc r = l.take n.toNat then some (r,n) else some (0,0)
theorem fin_spec (k : Nat) (l : List Int) (hl : Bytes l) (n r : Int) (h0 : 0 ≤ n) (hn : n ≤ l.length) :
 ((dossierref01_Encode.f (k + 1) r).bind fun t178 => (if 0 ≤ n then (if n ≤ (l.length : Int) then (if (strOfNums t178).toList = (strOfNums (l.take (n : Int).toNat)).toList then (some (r,n)) else (some (0,0))) else (none)) else (none))) = tailD l n r := by
 rw [enc_spec,Option.bind_some,if_pos h0,if_pos hn]
 unfold tailD
 by_cases h : enc r = l.take n.toNat
 · rw [if_pos h,if_pos ((str_inj (enc_bytes r) (hl.take _)).2 h)]
 · rw [if_neg h,if_neg (fun x => h ((str_inj (enc_bytes r) (hl.take _)).1 x))]
theorem w64 (x : Int) (h0 : -10000000 ≤ x) (h1 : x < 100000000) : wrap64 x = x := by unfold wrap64; omega
theorem loopD (l : List Int) (hl : Bytes l) (n : Int) (h0 : 0 ≤ n) (hn : n ≤ l.length) (xs : List Int) (hx : Bytes xs) (hlen : xs.length ≤ 3) : ∀ (d i k : Nat) (r : Int),i + d = xs.length → 0 ≤ r → ((i = 0 ∧ (r < 64 ∨ (xs = [] ∧ r < 4096))) ∨ (i = 1 ∧ r < 4096) ∨ (i = 2 ∧ r < 262144) ∨ (i = 3 ∧ r < 16777216)) →
 dossierref01_Decode.l0 (k + d + 2) l n r xs (xs.length : Int) (i : Int) = if (∀ x ∈ xs.drop i,128 ≤ x ∧ x < 192) then tailD l n ((xs.drop i).foldl (fun r x => r * 64 + (x - 128)) r) else some (0,0) := by
 intro d
 induction d with
 | zero =>
  intro i k r hi hr hb
  rw [show k + 0 + 2 = (k + 1) + 1 from rfl]
  rw [dossierref01_Decode.l0]
  rw [if_neg (by omega),fin_spec k l hl n r h0 hn,List.drop_of_length_le (by omega)]
  simp
 | succ d ih =>
  intro i k r hi hr hb
  have hlt : i < xs.length := by omega
  have hrd : rd xs (i : Int) = xs[i] := by simp [rd,List.getD,hlt]
  have hb' : (i = 0 ∧ r < 64) ∨ (i = 1 ∧ r < 4096) ∨ (i = 2 ∧ r < 262144) ∨ (i = 3 ∧ r < 16777216) := by
   rcases hb with ⟨h,h2 | ⟨h2,_⟩⟩ | h | h
   · exact Or.inl ⟨h,h2⟩
   · subst h2; simp at hlt
   · exact Or.inr (Or.inl h)
   · exact Or.inr (Or.inr h)
  clear hb
  have hbx := hx _ (List.getElem_mem hlt)
  rw [show k + (d + 1) + 2 = (k + d + 2) + 1 from by omega]
  rw [dossierref01_Decode.l0]
  rw [if_pos (by omega),if_pos (by omega),if_pos (by omega),hrd,List.drop_eq_getElem_cons hlt]
  by_cases c1 : xs[i] < 128
  · rw [if_pos c1,if_neg (fun h => by have := h xs[i] List.mem_cons_self; omega)]
  · by_cases c2 : xs[i] > 191
    · rw [if_neg c1,if_pos c2,if_neg (fun h => by have := h xs[i] List.mem_cons_self; omega)]
    · rw [if_neg c1,if_neg c2]
      generalize hy : xs[i] = y at *
      have e : wrap64 (wrap64 (wrap64 (r * 64) + wrap64 y) - 128) = r * 64 + (y - 128) := by
       rw [w64 (r * 64) (by omega) (by omega),w64 y (by omega) (by omega),w64 (r * 64 + y) (by omega) (by omega),w64 (r * 64 + y - 128) (by omega) (by omega)]; omega
      have e2 : wrap64 ((i : Int) + 1) = ((i + 1 : Nat) : Int) := by rw [w64 _ (by omega) (by omega)]; omega
      have hb2 : (i + 1 = 1 ∧ r * 64 + (y - 128) < 4096) ∨ (i + 1 = 2 ∧ r * 64 + (y - 128) < 262144) ∨ (i + 1 = 3 ∧ r * 64 + (y - 128) < 16777216) := by
       clear ih e e2 hx hl hrd
       rcases hb' with ⟨h1,h2⟩ | ⟨h1,h2⟩ | ⟨h1,h2⟩ | ⟨h1,h2⟩
       · exact Or.inl ⟨by omega,by omega⟩
       · exact Or.inr (Or.inl ⟨by omega,by omega⟩)
       · exact Or.inr (Or.inr ⟨by omega,by omega⟩)
       · omega
      rw [e,e2,ih (i + 1) k (r * 64 + (y - 128)) (by omega) (by omega) (Or.inr hb2)]
      have hy1 : 128 ≤ y ∧ y < 192 := by omega
      simp only [List.mem_cons,forall_eq_or_imp,hy1,true_and,List.foldl_cons,and_self]
theorem enc_len (r : Int) : (enc r).length = if r < 0 ∨ r > 1114111 ∨ (55296 ≤ r ∧ r ≤ 57343) then 0 else if r < 128 then 1 else if r < 2048 then 2 else if r < 65536 then 3 else 4 := by
 unfold enc; repeat' split
 all_goals rfl
theorem enc4 (r b0 b1 b2 b3 : Int) (h1 : 128 ≤ b1 ∧ b1 < 192) (h2 : 128 ≤ b2 ∧ b2 < 192) (h3 : 128 ≤ b3 ∧ b3 < 192) (hr : r = (b0 - 240) * 262144 + (b1 - 128) * 4096 + (b2 - 128) * 64 + (b3 - 128)) :
 enc r = [b0,b1,b2,b3] ↔ 65536 ≤ r ∧ r ≤ 1114111 := by
 constructor
 · intro h
   have hl := congrArg List.length h
   rw [enc_len] at hl
   simp only [List.length_cons,List.length_nil] at hl
   split at hl
   · omega
   · split at hl
     · omega
     · split at hl
       · omega
       · split at hl
         · omega
         · omega
 · intro h
   unfold enc
   rw [if_neg (by omega),if_neg (by omega),if_neg (by omega),if_neg (by omega)]
   have e0 : 240 + r / 262144 = b0 := by omega
   have e1 : 128 + r / 4096 % 64 = b1 := by omega
   have e2 : 128 + r / 64 % 64 = b2 := by omega
   have e3 : 128 + r % 64 = b3 := by omega
   rw [e0,e1,e2,e3]
theorem enc3 (r b0 b1 b2 : Int) (h1 : 128 ≤ b1 ∧ b1 < 192) (h2 : 128 ≤ b2 ∧ b2 < 192) (h0 : 224 ≤ b0 ∧ b0 < 240) (hr : r = (b0 - 224) * 4096 + (b1 - 128) * 64 + (b2 - 128)) :
 enc r = [b0,b1,b2] ↔ 2048 ≤ r ∧ (r < 55296 ∨ 57344 ≤ r) := by
 constructor
 · intro h
   have hl := congrArg List.length h
   rw [enc_len] at hl
   simp only [List.length_cons,List.length_nil] at hl
   split at hl
   · omega
   · split at hl
     · omega
     · split at hl
       · omega
       · omega
 · intro h
   unfold enc
   rw [if_neg (by omega),if_neg (by omega),if_neg (by omega),if_pos (by omega)]
   have e0 : 224 + r / 4096 = b0 := by omega
   have e1 : 128 + r / 64 % 64 = b1 := by omega
   have e2 : 128 + r % 64 = b2 := by omega
   rw [e0,e1,e2]
theorem enc2 (r b0 b1 : Int) (h1 : 128 ≤ b1 ∧ b1 < 192) (h0 : 192 ≤ b0 ∧ b0 < 224) (hr : r = (b0 - 192) * 64 + (b1 - 128)) : enc r = [b0,b1] ↔ 128 ≤ r := by
 constructor
 · intro h
   have hl := congrArg List.length h
   rw [enc_len] at hl
   simp only [List.length_cons,List.length_nil] at hl
   split at hl
   · omega
   · split at hl
     · omega
     · omega
 · intro h
   unfold enc
   rw [if_neg (by omega),if_neg (by omega),if_pos (by omega)]
   have e0 : 192 + r / 64 = b0 := by omega
   have e1 : 128 + r % 64 = b1 := by omega
   rw [e0,e1]
theorem enc1 (b0 : Int) (h0 : 0 ≤ b0 ∧ b0 < 192) : enc b0 = [b0] ↔ b0 < 128 := by
 constructor
 · intro h
   have hl := congrArg List.length h
   rw [enc_len] at hl
   simp only [List.length_cons,List.length_nil] at hl
   repeat' split at hl
   all_goals omega
 · intro h
   unfold enc
   rw [if_neg (by omega),if_pos h]
theorem decN4 (n : Nat) (b0 b1 b2 b3 : Int) (h : 240 ≤ b0) (hn : b0 < 256) : decN n b0 b1 b2 b3 = if 4 ≤ n ∧ ((128 ≤ b1 ∧ b1 < 192) ∧ (128 ≤ b2 ∧ b2 < 192) ∧ 128 ≤ b3 ∧ b3 < 192) ∧ 65536 ≤ (((b0 - 240) * 64 + (b1 - 128)) * 64 + (b2 - 128)) * 64 + (b3 - 128) ∧ (((b0 - 240) * 64 + (b1 - 128)) * 64 + (b2 - 128)) * 64 + (b3 - 128) ≤ 1114111
 then ((((b0 - 240) * 64 + (b1 - 128)) * 64 + (b2 - 128)) * 64 + (b3 - 128),4) else (0,0) := by
 unfold decN
 rw [if_neg (by omega),if_neg (by omega),if_neg (by omega)]
 repeat' split
 all_goals first | rfl | (exfalso; omega) | (congr 1; omega)
theorem decN3 (n : Nat) (b0 b1 b2 b3 : Int) (h : 224 ≤ b0) (hn : b0 < 240) : decN n b0 b1 b2 b3 = if 3 ≤ n ∧ ((128 ≤ b1 ∧ b1 < 192) ∧ 128 ≤ b2 ∧ b2 < 192) ∧ 2048 ≤ ((b0 - 224) * 64 + (b1 - 128)) * 64 + (b2 - 128) ∧ (((b0 - 224) * 64 + (b1 - 128)) * 64 + (b2 - 128) < 55296 ∨ 57344 ≤ ((b0 - 224) * 64 + (b1 - 128)) * 64 + (b2 - 128))
 then (((b0 - 224) * 64 + (b1 - 128)) * 64 + (b2 - 128),3) else (0,0) := by
 unfold decN
 rw [if_neg (by omega),if_neg (by omega)]
 repeat' split
 all_goals first | rfl | (exfalso; omega) | (congr 1; omega)
theorem decN2 (n : Nat) (b0 b1 b2 b3 : Int) (h : 192 ≤ b0) (hn : b0 < 224) : decN n b0 b1 b2 b3 = if 2 ≤ n ∧ (128 ≤ b1 ∧ b1 < 192) ∧ 128 ≤ (b0 - 192) * 64 + (b1 - 128) then ((b0 - 192) * 64 + (b1 - 128),2) else (0,0) := by
 unfold decN
 rw [if_neg (by omega)]
 repeat' split
 all_goals first | rfl | (exfalso; omega)
theorem decN1 (n : Nat) (b0 b1 b2 b3 : Int) (hn : b0 < 192) : decN n b0 b1 b2 b3 = if b0 < 128 then (b0,1) else (0,0) := by
 unfold decN
 by_cases h : b0 < 128
 · rw [if_pos h,if_pos h]
 · have a1 : ¬ (192 ≤ b0) := by omega
   have a2 : ¬ (224 ≤ b0) := by omega
   have a3 : ¬ (240 ≤ b0) := by omega
   rw [if_neg h,if_neg (fun x => a1 x.1),if_neg (fun x => a2 x.1),if_neg (fun x => a3 x.1),if_neg h]
theorem four (k : Nat) (b0 : Int) (t : List Int) (hl : Bytes (b0 :: t)) (c4 : 240 ≤ b0) : dossierref01_Decode.j0 (k + 10) (b0 :: t) 4 (b0 - 240) = some (decN (b0 :: t).length b0 (t.getD 0 0) (t.getD 1 0) (t.getD 2 0)) := by
 have hb0 := hl b0 (by simp)
 rw [show k + 10 = (k + 9) + 1 from rfl,dossierref01_Decode.j0,decN4 _ _ _ _ _ c4 hb0.2]
 match t,hl with
 | [],_ => rw [if_pos (by simp),if_neg (by simp)]
 | [_],_ => rw [if_pos (by simp),if_neg (by simp)]
 | [_,_],_ => rw [if_pos (by simp),if_neg (by simp)]
 | b1 :: b2 :: b3 :: u,hl =>
  have hx : Bytes [b1,b2,b3] := fun x hx => hl x (List.mem_cons_of_mem _ (show x ∈ [b1,b2,b3] ++ u from List.mem_append_left u hx))
  have hL := loopD (b0 :: b1 :: b2 :: b3 :: u) hl 4 (by decide) (by simp; omega) [b1,b2,b3] hx (by simp) 3 0 (k + 4) (b0 - 240) rfl (by omega) (Or.inl ⟨rfl,Or.inl (by omega)⟩)
  rw [if_neg (by simp; omega),if_pos (by decide),if_pos (by simp; omega)]
  rw [show dossierref01_Decode.l0 (k + 9) (b0 :: b1 :: b2 :: b3 :: u) 4 (b0 - 240) (((b0 :: b1 :: b2 :: b3 :: u).take (4 : Int).toNat).drop 1) ((((b0 :: b1 :: b2 :: b3 :: u).take (4 : Int).toNat).drop 1).length : Int) 0 = _ from hL]
  simp only [List.drop_zero,List.mem_cons,List.not_mem_nil,or_false,forall_eq_or_imp,forall_eq,List.foldl_cons,List.foldl_nil]
  unfold tailD
  rw [show (b0 :: b1 :: b2 :: b3 :: u).take (4 : Int).toNat = [b0,b1,b2,b3] from rfl]
  simp only [List.getD_cons_zero,List.getD_cons_succ]
  have hlen : 4 ≤ (b0 :: b1 :: b2 :: b3 :: u).length := by simp
  generalize (b0 :: b1 :: b2 :: b3 :: u).length = N at hlen ⊢
  by_cases hc : (128 ≤ b1 ∧ b1 < 192) ∧ (128 ≤ b2 ∧ b2 < 192) ∧ 128 ≤ b3 ∧ b3 < 192
  · have e := enc4 ((((b0 - 240) * 64 + (b1 - 128)) * 64 + (b2 - 128)) * 64 + (b3 - 128)) b0 b1 b2 b3 hc.1 hc.2.1 hc.2.2 (by omega)
    rw [if_pos hc]
    by_cases hr : 65536 ≤ (((b0 - 240) * 64 + (b1 - 128)) * 64 + (b2 - 128)) * 64 + (b3 - 128) ∧ (((b0 - 240) * 64 + (b1 - 128)) * 64 + (b2 - 128)) * 64 + (b3 - 128) ≤ 1114111
    · rw [if_pos (e.2 hr),if_pos ⟨hlen,hc,hr⟩]
    · rw [if_neg (fun x => hr (e.1 x)),if_neg (fun x => hr x.2.2)]
  · rw [if_neg hc,if_neg (fun x => hc x.2.1)]
theorem three (k : Nat) (b0 : Int) (t : List Int) (hl : Bytes (b0 :: t)) (c4 : 224 ≤ b0) (c5 : b0 < 240) : dossierref01_Decode.j0 (k + 10) (b0 :: t) 3 (b0 - 224) = some (decN (b0 :: t).length b0 (t.getD 0 0) (t.getD 1 0) (t.getD 2 0)) := by
 rw [show k + 10 = (k + 9) + 1 from rfl,dossierref01_Decode.j0,decN3 _ _ _ _ _ c4 c5]
 match t,hl with
 | [],_ => rw [if_pos (by simp),if_neg (by simp)]
 | [_],_ => rw [if_pos (by simp),if_neg (by simp)]
 | b1 :: b2 :: u,hl =>
  have hx : Bytes [b1,b2] := fun x hx => hl x (List.mem_cons_of_mem _ (show x ∈ [b1,b2] ++ u from List.mem_append_left u hx))
  have hL := loopD (b0 :: b1 :: b2 :: u) hl 3 (by decide) (by simp; omega) [b1,b2] hx (by simp) 2 0 (k + 5) (b0 - 224) rfl (by omega) (Or.inl ⟨rfl,Or.inl (by omega)⟩)
  rw [if_neg (by simp; omega),if_pos (by decide),if_pos (by simp; omega)]
  rw [show dossierref01_Decode.l0 (k + 9) (b0 :: b1 :: b2 :: u) 3 (b0 - 224) (((b0 :: b1 :: b2 :: u).take (3 : Int).toNat).drop 1) ((((b0 :: b1 :: b2 :: u).take (3 : Int).toNat).drop 1).length : Int) 0 = _ from hL]
  simp only [List.drop_zero,List.mem_cons,List.not_mem_nil,or_false,forall_eq_or_imp,forall_eq,List.foldl_cons,List.foldl_nil]
  unfold tailD
  rw [show (b0 :: b1 :: b2 :: u).take (3 : Int).toNat = [b0,b1,b2] from rfl]
  simp only [List.getD_cons_zero,List.getD_cons_succ]
  have hlen : 3 ≤ (b0 :: b1 :: b2 :: u).length := by simp
  generalize (b0 :: b1 :: b2 :: u).length = N at hlen ⊢
  by_cases hc : (128 ≤ b1 ∧ b1 < 192) ∧ 128 ≤ b2 ∧ b2 < 192
  · have e := enc3 (((b0 - 224) * 64 + (b1 - 128)) * 64 + (b2 - 128)) b0 b1 b2 hc.1 hc.2 ⟨c4,c5⟩ (by omega)
    rw [if_pos hc]
    by_cases hr : 2048 ≤ ((b0 - 224) * 64 + (b1 - 128)) * 64 + (b2 - 128) ∧ (((b0 - 224) * 64 + (b1 - 128)) * 64 + (b2 - 128) < 55296 ∨ 57344 ≤ ((b0 - 224) * 64 + (b1 - 128)) * 64 + (b2 - 128))
    · rw [if_pos (e.2 hr),if_pos ⟨hlen,hc,hr⟩]
    · rw [if_neg (fun x => hr (e.1 x)),if_neg (fun x => hr x.2.2)]
  · rw [if_neg hc,if_neg (fun x => hc x.2.1)]
theorem two (k : Nat) (b0 : Int) (t : List Int) (hl : Bytes (b0 :: t)) (c4 : 192 ≤ b0) (c5 : b0 < 224) : dossierref01_Decode.j0 (k + 10) (b0 :: t) 2 (b0 - 192) = some (decN (b0 :: t).length b0 (t.getD 0 0) (t.getD 1 0) (t.getD 2 0)) := by
 rw [show k + 10 = (k + 9) + 1 from rfl,dossierref01_Decode.j0,decN2 _ _ _ _ _ c4 c5]
 match t,hl with
 | [],_ => rw [if_pos (by simp),if_neg (by simp)]
 | b1 :: u,hl =>
  have hx : Bytes [b1] := fun x hx => hl x (List.mem_cons_of_mem _ (show x ∈ [b1] ++ u from List.mem_append_left u hx))
  have hL := loopD (b0 :: b1 :: u) hl 2 (by decide) (by simp; omega) [b1] hx (by simp) 1 0 (k + 6) (b0 - 192) rfl (by omega) (Or.inl ⟨rfl,Or.inl (by omega)⟩)
  rw [if_neg (by simp; omega),if_pos (by decide),if_pos (by simp; omega)]
  rw [show dossierref01_Decode.l0 (k + 9) (b0 :: b1 :: u) 2 (b0 - 192) (((b0 :: b1 :: u).take (2 : Int).toNat).drop 1) ((((b0 :: b1 :: u).take (2 : Int).toNat).drop 1).length : Int) 0 = _ from hL]
  simp only [List.drop_zero,List.mem_cons,List.not_mem_nil,or_false,forall_eq,List.foldl_cons,List.foldl_nil]
  unfold tailD
  rw [show (b0 :: b1 :: u).take (2 : Int).toNat = [b0,b1] from rfl]
  simp only [List.getD_cons_zero]
  have hlen : 2 ≤ (b0 :: b1 :: u).length := by simp
  generalize (b0 :: b1 :: u).length = N at hlen ⊢
  by_cases hc : 128 ≤ b1 ∧ b1 < 192
  · have e := enc2 ((b0 - 192) * 64 + (b1 - 128)) b0 b1 hc ⟨c4,c5⟩ rfl
    rw [if_pos hc]
    by_cases hr : 128 ≤ (b0 - 192) * 64 + (b1 - 128)
    · rw [if_pos (e.2 hr),if_pos ⟨hlen,hc,hr⟩]
    · rw [if_neg (fun x => hr (e.1 x)),if_neg (fun x => hr x.2.2)]
  · rw [if_neg hc,if_neg (fun x => hc x.2.1)]
theorem one (k : Nat) (b0 : Int) (t : List Int) (hl : Bytes (b0 :: t)) (c5 : b0 < 192) : dossierref01_Decode.j0 (k + 10) (b0 :: t) 1 b0 = some (decN (b0 :: t).length b0 (t.getD 0 0) (t.getD 1 0) (t.getD 2 0)) := by
 have hb0 := hl b0 (by simp)
 rw [show k + 10 = (k + 9) + 1 from rfl,dossierref01_Decode.j0,decN1 _ _ _ _ _ c5]
 have hL := loopD (b0 :: t) hl 1 (by decide) (by simp; omega) [] (fun x hx => by cases hx) (by simp) 0 0 (k + 7) b0 rfl (by omega) (Or.inl ⟨rfl,Or.inr ⟨rfl,by omega⟩⟩)
 rw [if_neg (by simp; omega),if_pos (by decide),if_pos (by simp; omega)]
 rw [show dossierref01_Decode.l0 (k + 9) (b0 :: t) 1 b0 (((b0 :: t).take (1 : Int).toNat).drop 1) ((((b0 :: t).take (1 : Int).toNat).drop 1).length : Int) 0 = _ from hL]
 simp only [List.drop_nil,List.not_mem_nil,false_implies,implies_true,if_true,List.foldl_nil]
 unfold tailD
 rw [show (b0 :: t).take (1 : Int).toNat = [b0] from rfl]
 have e := enc1 b0 ⟨hb0.1,c5⟩
 by_cases hr : b0 < 128
 · rw [if_pos (e.2 hr),if_pos hr]
 · rw [if_neg (fun x => hr (e.1 x)),if_neg hr]
theorem ref_Decode_spec (k : Nat) (l : List Int) (hl : Bytes l) : dossierref01_Decode.f (k + 10) l = some (dec l) := by
 cases l with
 | nil => simp [dossierref01_Decode.f,dec]
 | cons b0 t =>
  have hb0 := hl b0 (by simp)
  have hrd : rd (b0 :: t) 0 = b0 := rfl
  unfold dossierref01_Decode.f
  rw [if_neg (by simp; omega),if_pos (by simp),hrd]
  have hdec : dec (b0 :: t) = decN (b0 :: t).length b0 (t.getD 0 0) (t.getD 1 0) (t.getD 2 0) := by unfold dec; rw [if_neg (by simp)]; rfl
  rw [hdec,w64 b0 (by omega) (by omega),w64 (b0 - 240) (by omega) (by omega),w64 (b0 - 224) (by omega) (by omega),w64 (b0 - 192) (by omega) (by omega)]
  by_cases c4 : b0 ≥ 240
  · rw [if_pos c4]; exact four k b0 t hl c4
  · rw [if_neg c4]
    by_cases c3 : b0 ≥ 224
    · rw [if_pos c3]; exact three k b0 t hl c3 (by omega)
    · rw [if_neg c3]
      by_cases c2 : b0 ≥ 192
      · rw [if_pos c2]; exact two k b0 t hl c2 (by omega)
      · rw [if_neg c2]; exact one k b0 t hl (by omega)
/-! ## Characters of XML; where the first byte stands that is none -/
def xmlC (r : Int) : Bool := decide ((32 ≤ r ∧ r ≤ 55295) ∨ (9 ≤ r ∧ r ≤ 10) ∨ r = 13 ∨ (57344 ≤ r ∧ r ≤ 65533) ∨ (65536 ≤ r ∧ r ≤ 1114111))
theorem chars_in_at (r : Int) (xs : List S182) (hlen : xs.length < 1000000) : ∀ d i k : Nat,i + d = xs.length → chars_in.l0 (k + d + 1) r xs (xs.length : Int) (i : Int) = some ((xs.drop i).any fun s => decide (s.f0 ≤ r) && decide (r ≤ s.f1)) := by
 intro d
 induction d with
 | zero =>
  intro i k hi
  rw [chars_in.l0,if_neg (by omega),List.drop_of_length_le (by omega)]; rfl
 | succ d ih =>
  intro i k hi
  have hlt : i < xs.length := by omega
  have e2 : wrap64 ((i : Int) + 1) = ((i + 1 : Nat) : Int) := by rw [w64 _ (by omega) (by omega)]; omega
  have hrd : rd_T182 xs (i : Int) = xs[i] := by simp [rd_T182,List.getD,hlt]
  rw [show k + (d + 1) + 1 = (k + d + 1) + 1 from by omega,chars_in.l0,if_pos (by omega),if_pos (by omega),if_pos (by omega),hrd,List.drop_eq_getElem_cons hlt,e2,ih (i + 1) k (by omega),List.any_cons]
  generalize ((xs.drop (i + 1)).any fun s => decide (s.f0 ≤ r) && decide (r ≤ s.f1)) = v
  by_cases c1 : (xs[i]).f0 ≤ r
  · by_cases c2 : r ≤ (xs[i]).f1
    · simp [c1,c2]
    · simp [c1,c2]
  · simp [c1]
theorem chars_in_spec (r : Int) (xs : List S182) (hlen : xs.length < 1000000) (k : Nat) (hk : xs.length + 1 ≤ k) : chars_in.f k r xs = some (xs.any fun s => decide (s.f0 ≤ r) && decide (r ≤ s.f1)) := by
 have := chars_in_at r xs hlen xs.length 0 (k - xs.length - 1) (by omega)
 rw [show k - xs.length - 1 + xs.length + 1 = k from by omega] at this
 exact this
theorem chars_ofXML_spec (k : Nat) (r : Int) : chars_ofXML.f (k + 10) r = some (xmlC r) := by
 unfold chars_ofXML.f
 rw [chars_in_spec r _ (by simp) _ (by simp),Option.bind_some]
 unfold xmlC
 congr 1
 simp only [List.any_cons,List.any_nil,Bool.or_false]
 rw [Bool.eq_iff_iff]
 simp only [Bool.or_eq_true,Bool.and_eq_true,decide_eq_true_eq]
 omega
/-- Between two of the numbers that stand by twos. -/
def inP (r : Int) : List Int → Bool
 | a :: b :: t => (decide (a ≤ r) && decide (r ≤ b)) || inP r t
 | _ => false
theorem within_at (r : Int) (xs : List Int) (hlen : xs.length < 1000000) : ∀ d i k : Nat,xs.length ≤ i + 2 * d → i ≤ xs.length → dossierref01_within.l0 (k + d + 1) r xs (i : Int) = some (inP r (xs.drop i)) := by
 intro d
 induction d with
 | zero =>
  intro i k hi hi2
  rw [dossierref01_within.l0,w64 ((i : Int) + 1) (by omega) (by omega),if_neg (by omega),List.drop_of_length_le (by omega)]; rfl
 | succ d ih =>
  intro i k hi hi2
  have e1 : wrap64 ((i : Int) + 1) = ((i + 1 : Nat) : Int) := by rw [w64 _ (by omega) (by omega)]; omega
  have e2 : wrap64 ((i : Int) + 2) = ((i + 2 : Nat) : Int) := by rw [w64 _ (by omega) (by omega)]; omega
  rw [show k + (d + 1) + 1 = (k + d + 1) + 1 from by omega,dossierref01_within.l0,e1,e2]
  by_cases hlt : i + 1 < xs.length
  · have h1 : i < xs.length := by omega
    have hrd : rd xs (i : Int) = xs[i] := by simp [rd,List.getD,h1]
    have hrd2 : rd xs ((i + 1 : Nat) : Int) = xs[i + 1] := by simp only [rd,List.getD,Int.toNat_natCast,List.getElem?_eq_getElem hlt,Option.getD_some]
    rw [if_pos (by omega),if_pos (by omega),if_pos (by omega),hrd,hrd2,List.drop_eq_getElem_cons h1,List.drop_eq_getElem_cons hlt,ih (i + 2) k (by omega) (by omega),inP]
    generalize inP r (xs.drop (i + 2)) = v
    by_cases c1 : xs[i] ≤ r
    · by_cases c2 : r ≤ xs[i + 1]
      · rw [if_pos c1,if_pos (by omega),if_pos c2]; simp [c1,c2]
      · rw [if_pos c1,if_pos (by omega),if_neg c2]; simp [c2]
    · rw [if_neg c1]; simp [c1]
  · rw [if_neg (by omega)]
    match hx : xs.drop i with
    | [] => rfl
    | [_] => rfl
    | _ :: _ :: _ => have := congrArg List.length hx; simp at this; omega
theorem within_spec (r : Int) (xs : List Int) (hlen : xs.length < 1000000) (k : Nat) (hk : xs.length + 1 ≤ k) : dossierref01_within.f k r xs = some (inP r xs) := by
 have := within_at r xs hlen xs.length 0 (k - xs.length - 1) (by omega) (by omega)
 rw [show k - xs.length - 1 + xs.length + 1 = k from by omega] at this
 exact this
theorem ref_OfXML_spec (k : Nat) (r : Int) : dossierref01_OfXML.f (k + 20) r = some (xmlC r) := by
 unfold dossierref01_OfXML.f
 rw [within_spec r _ (by simp) _ (by simp),Option.bind_some]
 unfold xmlC
 congr 1
 simp only [inP,Bool.or_false]
 rw [Bool.eq_iff_iff]
 simp only [Bool.or_eq_true,Bool.and_eq_true,decide_eq_true_eq]
 omega
/-- Both searches come to one answer, at enough rounds. -/
theorem wrong_from (l : List Int) (hl : Bytes l) (hlen : l.length ≤ 1000000000000000000) : ∀ (d : Nat) (at_ : Int),0 ≤ at_ → at_ ≤ l.length → (l.length : Int) - at_ ≤ d →
 ∃ v : Int,(v = -1 ∨ (0 ≤ v ∧ v < l.length)) ∧ ∀ k,d + 30 ≤ k → chars_Wrong.l0 k l at_ = some v ∧ dossierref01_Wrong.l0 k l at_ = some v := by
 intro d
 induction d with
 | zero =>
  intro at_ h0 h1 hd
  refine ⟨-1,Or.inl rfl,fun k hk => ?_⟩
  obtain ⟨k,rfl⟩ : ∃ m,k = m + 1 := ⟨k - 1,by omega⟩
  rw [chars_Wrong.l0,dossierref01_Wrong.l0,if_neg (by omega),if_neg (by omega)]
  exact ⟨rfl,rfl⟩
 | succ d ih =>
  intro at_ h0 h1 hd
  by_cases hlt : at_ < (l.length : Int)
  · have hD := dec_two (hl.drop at_.toNat)
    have hdl : ((l.drop at_.toNat).length : Int) = l.length - at_ := by rw [List.length_drop]; omega
    by_cases hz : (dec (l.drop at_.toNat)).2 = 0
    · refine ⟨at_,Or.inr ⟨h0,hlt⟩,fun k hk => ?_⟩
      obtain ⟨k,rfl⟩ : ∃ m,k = m + 20 + 1 := ⟨k - 21,by omega⟩
      rw [chars_Wrong.l0,dossierref01_Wrong.l0]
      simp only [if_pos hlt,if_pos h0,if_pos h1,chars_Decode_spec _ (hl.drop _),ref_Decode_spec (k + 10) _ (hl.drop _),Option.bind_some,if_pos hz,and_self]
    · by_cases hx : xmlC (dec (l.drop at_.toNat)).1 = true
      · have hw : wrap64 (at_ + (dec (l.drop at_.toNat)).2) = at_ + (dec (l.drop at_.toNat)).2 := by unfold wrap64; omega
        obtain ⟨v,hv,hk⟩ := ih (at_ + (dec (l.drop at_.toNat)).2) (by omega) (by omega) (by omega)
        refine ⟨v,hv,fun k hk' => ?_⟩
        obtain ⟨k,rfl⟩ : ∃ m,k = m + 20 + 1 := ⟨k - 21,by omega⟩
        have hk2 := hk (k + 20) (by omega)
        rw [chars_Wrong.l0,dossierref01_Wrong.l0]
        simp only [if_pos hlt,if_pos h0,if_pos h1,chars_Decode_spec _ (hl.drop _),ref_Decode_spec (k + 10) _ (hl.drop _),Option.bind_some,if_neg hz,chars_ofXML_spec (k + 10),ref_OfXML_spec,if_pos hx,hw]
        exact hk2
      · refine ⟨at_,Or.inr ⟨h0,hlt⟩,fun k hk => ?_⟩
        obtain ⟨k,rfl⟩ : ∃ m,k = m + 20 + 1 := ⟨k - 21,by omega⟩
        rw [chars_Wrong.l0,dossierref01_Wrong.l0]
        simp only [if_pos hlt,if_pos h0,if_pos h1,chars_Decode_spec _ (hl.drop _),ref_Decode_spec (k + 10) _ (hl.drop _),Option.bind_some,if_neg hz,chars_ofXML_spec (k + 10),ref_OfXML_spec,if_neg hx,and_self]
  · refine ⟨-1,Or.inl rfl,fun k hk => ?_⟩
    obtain ⟨k,rfl⟩ : ∃ m,k = m + 1 := ⟨k - 1,by omega⟩
    rw [chars_Wrong.l0,dossierref01_Wrong.l0,if_neg hlt,if_neg hlt]
    exact ⟨rfl,rfl⟩
/-- Where the first byte stands that is no character; -1: nowhere. -/
def wrong (l : List Int) : Int := (chars_Wrong.f (l.length + 30) l).getD (-1)
theorem wrong_spec (l : List Int) (hl : Bytes l) (hlen : l.length ≤ 1000000000000000000) (k : Nat) (hk : l.length + 30 ≤ k) : chars_Wrong.f k l = some (wrong l) ∧ dossierref01_Wrong.f k l = some (wrong l) := by
 obtain ⟨v,_,h⟩ := wrong_from l hl hlen l.length 0 (by omega) (by omega) (by omega)
 have e : wrong l = v := by unfold wrong chars_Wrong.f; rw [(h _ (Nat.le_refl _)).1]; rfl
 unfold chars_Wrong.f dossierref01_Wrong.f
 rw [e]; exact h k hk
theorem wrong_nil : wrong [] = -1 := by
 unfold wrong chars_Wrong.f
 rw [chars_Wrong.l0,if_neg (by simp)]; rfl
end Go.Proofs.YtbcpnpbkbndkjaaGreatDoor.Chars
end
section
/- Values: what the program and the reference make of any operator and any two values, told by one plain function. -/
set_option linter.unusedSimpArgs false
set_option linter.unusedVariables false
namespace Go.Proofs.YtbcpnpbkbndkjaaGreatDoor.Values
open Go.RowKit Go.Proofs.YtbcpnpbkbndkjaaGreatDoor.Q Go.Proofs.YtbcpnpbkbndkjaaGreatDoorW.PrintWords Go.Proofs.YtbcpnpbkbndkjaaGreatDoorW.PrintLast Go.Proofs.YtbcpnpbkbndkjaaGreatDoorH Go.Proofs.YtbcpnpbkbndkjaaGreatDoor.Chars

/-! ## Kinds -/
def kindV (op a b : Int) : Int × Bool :=
  if op = 5 then (if a = 2 ∧ b = 0 then (2, true) else (0, false))
  else if op = 6 then (if a = 1 ∧ b = 0 then (1, true) else (0, false))
  else if 7 ≤ op ∧ op ≤ 11 then (if a = 1 ∧ b = 1 then (1, true) else (0, false))
  else if 12 ≤ op ∧ op ≤ 15 then (if a = b ∧ (a = 1 ∨ a = 3) then (2, true) else (0, false))
  else if 16 ≤ op ∧ op ≤ 17 then (if a = b ∧ (1 ≤ a ∧ a ≤ 3) then (2, true) else (0, false))
  else if 18 ≤ op ∧ op ≤ 19 then (if a = 2 ∧ b = 2 then (2, true) else (0, false))
  else (0, false)
def sortV (op : Int) : Int := if op = 5 then 1 else if op = 6 then 2 else if 7 ≤ op ∧ op ≤ 11 then 3 else if 12 ≤ op ∧ op ≤ 15 then 4 else if 16 ≤ op ∧ op ≤ 17 then 5 else if 18 ≤ op ∧ op ≤ 19 then 6 else 0
theorem op_in (op : Int) (h : ¬ (op < 5 ∨ 19 < op)) : op = 5 ∨ op = 6 ∨ op = 7 ∨ op = 8 ∨ op = 9 ∨ op = 10 ∨ op = 11 ∨ op = 12 ∨ op = 13 ∨ op = 14 ∨ op = 15 ∨ op = 16 ∨ op = 17 ∨ op = 18 ∨ op = 19 := by omega
theorem kindV_out (op a b : Int) (h : op < 5 ∨ 19 < op) : kindV op a b = (0, false) := by
  unfold kindV
  rw [if_neg (by omega), if_neg (by omega), if_neg (by omega), if_neg (by omega), if_neg (by omega), if_neg (by omega)]
theorem sortV_out (op : Int) (h : op < 5 ∨ 19 < op) : sortV op = 0 := by
  unfold sortV
  rw [if_neg (by omega), if_neg (by omega), if_neg (by omega), if_neg (by omega), if_neg (by omega), if_neg (by omega)]
/-! ## What may be -/
def canV (k i : Int) (y : Bool) (t : ByteArray) : Bool :=
  if k = 0 then i == 0 && (!y && t.toList.isEmpty)
  else if k = 1 then !y && t.toList.isEmpty
  else if k = 2 then i == 0 && t.toList.isEmpty
  else if k = 3 then i == 0 && (!y && (decide (t.size ≤ 256) && decide (wrong (bytesOf t) < 0)))
  else false
theorem empty_of {t : ByteArray} (h : t.toList = []) : t = ⟨#[]⟩ := by
  rw [Lib.toList_data] at h
  cases t with
  | mk d => congr 1; exact Array.toList_eq_nil_iff.1 h
theorem wrong_none : wrong (bytesOf ⟨#[]⟩) = -1 := wrong_nil
end Go.Proofs.YtbcpnpbkbndkjaaGreatDoor.Values
end
section
/- Strings as lists of numbers. -/

set_option linter.unusedSimpArgs false
set_option linter.unusedVariables false
namespace Go.Proofs.YtbcpnpbkbndkjaaGreatDoor.Bytes
open Go.RowKit Go.Proofs.YtbcpnpbkbndkjaaGreatDoor.Q Go.Proofs.YtbcpnpbkbndkjaaGreatDoorW.PrintWords Go.Proofs.YtbcpnpbkbndkjaaGreatDoorW.PrintLast Go.Proofs.YtbcpnpbkbndkjaaGreatDoorH Go.Proofs.YtbcpnpbkbndkjaaGreatDoor.Chars Go.Proofs.YtbcpnpbkbndkjaaGreatDoor.Values

theorem b_extract (s : ByteArray) (i j : Nat) : bytesOf (s.extract i j) = ((bytesOf s).drop i).take (j - i) := by
  unfold bytesOf
  rw [ByteArray.data_extract, Array.toList_extract, List.extract_eq_take_drop, ← List.map_drop, ← List.map_take]
theorem b_append (s t : ByteArray) : bytesOf (s ++ t) = bytesOf s ++ bytesOf t := by
  unfold bytesOf
  rw [ByteArray.data_append, Array.toList_append, List.map_append]
theorem b_inj {s t : ByteArray} (h : bytesOf s = bytesOf t) : s = t := by
  unfold bytesOf at h
  have := List.map_inj_right (f := fun b : UInt8 => (b.toNat : Int)) (fun x y hxy => UInt8.toNat_inj.1 (Int.ofNat_inj.1 hxy)) |>.1 h
  cases s with
  | mk a => cases t with
    | mk b => congr 1; exact Array.toList_inj.1 this
theorem bt_get (s : ByteArray) (i : Int) : bt s i = (bytesOf s).getD i.toNat 0 := (rd_bytesOf s i).symm
theorem b_str {l : List Int} (h : Bytes l) : bytesOf (strOfNums l) = l := by
  unfold bytesOf
  rw [strOfNums_data, List.map_map]
  conv => rhs; rw [← List.map_id l]
  apply List.map_congr_left
  intro x hx
  have := h x hx
  simp only [Function.comp, id]
  obtain ⟨y, rfl⟩ := Int.eq_ofNat_of_zero_le this.1
  simp
  omega
theorem toList_iff (s : ByteArray) (l : List UInt8) : s.toList = l ↔ bytesOf s = l.map fun b => (b.toNat : Int) := by
  rw [Lib.toList_data]
  unfold bytesOf
  constructor
  · intro h; rw [h]
  · intro h
    exact List.map_inj_right (f := fun b : UInt8 => (b.toNat : Int)) (fun x y hxy => UInt8.toNat_inj.1 (Int.ofNat_inj.1 hxy)) |>.1 h
theorem toList_iff2 (s t : ByteArray) : s.toList = t.toList ↔ bytesOf s = bytesOf t := by
  rw [toList_iff, Lib.toList_data]; rfl
theorem b_size (s : ByteArray) : s.size = (bytesOf s).length := (bytesOf_length s).symm
theorem w64' (x : Int) (h0 : -1000000000000 ≤ x) (h1 : x < 1000000000000) : wrap64 x = x := by unfold wrap64; omega
theorem drop_cons {l : List Int} {i : Nat} (h : i < l.length) : l.drop i = l[i] :: l.drop (i + 1) := List.drop_eq_getElem_cons h
theorem bt_at' {s : ByteArray} {i : Nat} (h : i < (bytesOf s).length) : bt s (i : Int) = (bytesOf s)[i] := by
  rw [bt_get, Int.toNat_natCast, List.getD_eq_getElem?_getD, List.getElem?_eq_getElem h]; rfl

end Go.Proofs.YtbcpnpbkbndkjaaGreatDoor.Bytes
end
section
/- Bytes of a kind; runs. -/
set_option linter.unusedSimpArgs false
set_option linter.unusedVariables false
namespace Go.Proofs.YtbcpnpbkbndkjaaGreatDoor.Bytes
open Go.RowKit Go.Proofs.YtbcpnpbkbndkjaaGreatDoor.Q Go.Proofs.YtbcpnpbkbndkjaaGreatDoorW.PrintWords Go.Proofs.YtbcpnpbkbndkjaaGreatDoorW.PrintLast Go.Proofs.YtbcpnpbkbndkjaaGreatDoorH Go.Proofs.YtbcpnpbkbndkjaaGreatDoor.Chars Go.Proofs.YtbcpnpbkbndkjaaGreatDoor.Values
/-! ## Bytes of a kind -/
def letterV (x : Int) : Bool := (decide (65 ≤ x) && decide (x ≤ 90)) || (decide (97 ≤ x) && decide (x ≤ 122)) || decide (x = 95)
def digitV (x : Int) : Bool := decide (48 ≤ x) && decide (x ≤ 57)
theorem indexByte_neg : ∀ (l : List UInt8) (c : UInt8),(decide (Lib.indexByte l c ≥ 0)) = l.contains c
 | [],c => by simp [Lib.indexByte]
 | b :: l,c => by
  have ih := indexByte_neg l c
  have hg := Lib.indexByte_ge l c
  unfold Lib.indexByte
  by_cases h : b = c
  · subst h; simp
  · have h2 : (b == c) = false := by simp [h]
    have h3 : (c == b) = false := by simp; exact fun x => h x.symm
    rw [List.contains_cons,h3,Bool.false_or,← ih,if_neg (by simp [h])]
    by_cases h4 : Lib.indexByte l c = -1
    · simp [h4]
    · rw [if_neg (by simp [h4])]
      rw [decide_eq_decide]; omega
theorem is_spec (x : Int) (h : 0 ≤ x ∧ x < 256) (t : ByteArray) : lexer_is.f x t = some ((bytesOf t).contains x) := by
 unfold lexer_is.f strings_IndexByte.f
 rw [Option.bind_some,indexByte_neg]
 congr 1
 unfold bytesOf
 obtain ⟨y,rfl⟩ := Int.eq_ofNat_of_zero_le h.1
 have hy : y < 256 := by omega
 rw [Bool.eq_iff_iff,List.contains_iff_mem,List.contains_iff_mem,List.mem_map]
 constructor
 · intro hm
   exact ⟨_,hm,by simp; omega⟩
 · rintro ⟨b,hb,he⟩
   have : b = (y : Int).toNat.toUInt8 := by
    apply UInt8.toNat_inj.1
    have : b.toNat = y := by exact_mod_cast he
    simp [this]; omega
   rw [← this]; exact hb
def LET : ByteArray := ⟨#[65,66,67,68,69,70,71,72,73,74,75,76,77,78,79,80,81,82,83,84,85,86,87,88,89,90,97,98,99,100,101,102,103,104,105,106,107,108,109,110,111,112,113,114,115,116,117,118,119,120,121,122,95]⟩
def LETDIG : ByteArray := ⟨#[65,66,67,68,69,70,71,72,73,74,75,76,77,78,79,80,81,82,83,84,85,86,87,88,89,90,97,98,99,100,101,102,103,104,105,106,107,108,109,110,111,112,113,114,115,116,117,118,119,120,121,122,95,48,49,50,51,52,53,54,55,56,57]⟩
def DIG : ByteArray := ⟨#[48,49,50,51,52,53,54,55,56,57]⟩
theorem sets_are : ∀ y : Fin 256,(bytesOf LET).contains (y.val : Int) = letterV y.val ∧ (bytesOf LETDIG).contains (y.val : Int) = (letterV y.val || digitV y.val) ∧ (bytesOf DIG).contains (y.val : Int) = digitV y.val ∧ (bytesOf ⟨#[34,92]⟩).contains (y.val : Int) = (decide ((y.val : Int) = 34) || decide ((y.val : Int) = 92)) := of_decide_eq_true (by kernel_rfl)
theorem sets_at (x : Int) (h : 0 ≤ x ∧ x < 256) : lexer_is.f x LET = some (letterV x) ∧ lexer_is.f x LETDIG = some (letterV x || digitV x) ∧ lexer_is.f x DIG = some (digitV x) ∧ lexer_is.f x ⟨#[34,92]⟩ = some (decide (x = 34) || decide (x = 92)) := by
 obtain ⟨y,rfl⟩ := Int.eq_ofNat_of_zero_le h.1
 have hy := sets_are ⟨y,by omega⟩
 rw [is_spec _ h,is_spec _ h,is_spec _ h,is_spec _ h]
 exact ⟨congrArg some hy.1,congrArg some hy.2.1,congrArg some hy.2.2.1,congrArg some hy.2.2.2⟩
theorem letter_spec (x : Int) : dossierref08_letter.f x = some (letterV x) := by
 unfold dossierref08_letter.f letterV
 repeat' split
 all_goals (congr 1; rw [Bool.eq_iff_iff]; simp; omega)
theorem digit_spec (x : Int) : dossierref08_digit.f x = some (digitV x) := by
 unfold dossierref08_digit.f digitV
 split
 all_goals (congr 1; rw [Bool.eq_iff_iff]; simp; omega)
/-! ## The longest run -/
theorem run_at (s t : ByteArray) (p : Int → Bool) (hp : ∀ x,0 ≤ x ∧ x < 256 → lexer_is.f x t = some (p x)) (hs : (bytesOf s).length ≤ 1000000) : ∀ d i k : Nat,i + d = (bytesOf s).length →
 lexer_run.l0 (k + d + 1) s t (i : Int) = some (s.extract 0 (i + (((bytesOf s).drop i).takeWhile p).length)) := by
 intro d
 induction d with
 | zero =>
  intro i k hi
  rw [lexer_run.l0,b_size,if_neg (by omega),if_pos (by omega),if_pos (by omega),List.drop_of_length_le (by omega)]
  simp
 | succ d ih =>
  intro i k hi
  have hlt : i < (bytesOf s).length := by omega
  have e2 : wrap64 ((i : Int) + 1) = ((i + 1 : Nat) : Int) := by rw [w64' _ (by omega) (by omega)]; omega
  have hb := bytes_of s _ (List.getElem_mem hlt)
  rw [show k + (d + 1) + 1 = (k + d + 1) + 1 from by omega,lexer_run.l0,b_size,if_pos (by omega),if_pos (by omega),bt_at' hlt,hp _ hb,Option.bind_some,drop_cons hlt,List.takeWhile_cons,e2,ih (i + 1) k (by omega)]
  by_cases h : p (bytesOf s)[i] = true
  · rw [if_pos h,if_pos h,List.length_cons]; congr 2; omega
  · rw [if_neg h,if_neg h,if_pos (by omega)]; simp
theorem run_spec (s t : ByteArray) (p : Int → Bool) (hp : ∀ x,0 ≤ x ∧ x < 256 → lexer_is.f x t = some (p x)) (hs : (bytesOf s).length ≤ 1000000) (k : Nat) (hk : (bytesOf s).length + 1 ≤ k) : lexer_run.f k s t = some (s.extract 0 ((bytesOf s).takeWhile p).length) := by
 have := run_at s t p hp hs _ 0 (k - (bytesOf s).length - 1) (Nat.zero_add _)
 rw [show k - (bytesOf s).length - 1 + (bytesOf s).length + 1 = k from by omega] at this
 unfold lexer_run.f
 simpa using this
theorem name_at (s : ByteArray) (hs : (bytesOf s).length ≤ 1000000) : ∀ d i k : Nat,i + d = (bytesOf s).length →
 dossierref08_word.l0 (k + d + 1) s (i : Int) = some (1,s.extract 0 (i + (((bytesOf s).drop i).takeWhile fun x => letterV x || digitV x).length),0,((i + (((bytesOf s).drop i).takeWhile fun x => letterV x || digitV x).length : Nat) : Int),true) := by
 intro d
 induction d with
 | zero =>
  intro i k hi
  rw [dossierref08_word.l0,b_size,if_neg (by omega),if_pos (by omega),if_pos (by omega),List.drop_of_length_le (by omega)]
  simp
 | succ d ih =>
  intro i k hi
  have hlt : i < (bytesOf s).length := by omega
  have e2 : wrap64 ((i : Int) + 1) = ((i + 1 : Nat) : Int) := by rw [w64' _ (by omega) (by omega)]; omega
  rw [show k + (d + 1) + 1 = (k + d + 1) + 1 from by omega,dossierref08_word.l0,b_size,if_pos (by omega),if_pos (by omega),bt_at' hlt,letter_spec,digit_spec,Option.bind_some,Option.bind_some,drop_cons hlt,List.takeWhile_cons,e2,ih (i + 1) k (by omega)]
  by_cases h : letterV (bytesOf s)[i] = true
  · simp only [h,if_true,Bool.true_or,List.length_cons]
    rw [show i + 1 + (((bytesOf s).drop (i + 1)).takeWhile fun x => letterV x || digitV x).length = i + ((((bytesOf s).drop (i + 1)).takeWhile fun x => letterV x || digitV x).length + 1) from by omega]
  · by_cases h2 : digitV (bytesOf s)[i] = true
    · simp only [h,h2,if_true,Bool.or_true,List.length_cons]
      rw [show i + 1 + (((bytesOf s).drop (i + 1)).takeWhile fun x => letterV x || digitV x).length = i + ((((bytesOf s).drop (i + 1)).takeWhile fun x => letterV x || digitV x).length + 1) from by omega]
      simp
    · simp [h,h2]
      omega
theorem integer_at (s : ByteArray) (hs : (bytesOf s).length ≤ 1000000) (B : Nat) (r : Int × Int) (n : Nat) (hN : ∀ k,B ≤ k → dossierref01_Number.f k (s.extract 0 n) = some r) : ∀ d i k : Nat,i + d = (bytesOf s).length → i + (((bytesOf s).drop i).takeWhile digitV).length = n →
 dossierref08_integer.l0 (B + k + d + 1) s (i : Int) = some (2,⟨#[]⟩,r.1,(n : Int),(r.2 == 0)) := by
 intro d
 induction d with
 | zero =>
  intro i k hi hn
  rw [List.drop_of_length_le (by omega)] at hn
  have hn2 : n = i := by simpa using hn.symm
  subst hn2
  rw [dossierref08_integer.l0,b_size,if_neg (by omega),if_pos (by omega),if_pos (by omega),Int.toNat_natCast,hN _ (by omega)]
  rfl
 | succ d ih =>
  intro i k hi hn
  have hlt : i < (bytesOf s).length := by omega
  have e2 : wrap64 ((i : Int) + 1) = ((i + 1 : Nat) : Int) := by rw [w64' _ (by omega) (by omega)]; omega
  rw [show B + k + (d + 1) + 1 = (B + k + d + 1) + 1 from by omega,dossierref08_integer.l0,b_size,if_pos (by omega),if_pos (by omega),bt_at' hlt,digit_spec,Option.bind_some,e2]
  rw [drop_cons hlt,List.takeWhile_cons] at hn
  by_cases h : digitV (bytesOf s)[i] = true
  · rw [if_pos h] at hn ⊢
    rw [List.length_cons] at hn
    exact ih (i + 1) k (by omega) (by omega)
  · rw [if_neg h] at hn ⊢
    have hn2 : n = i := by simpa using hn.symm
    subst hn2
    rw [if_pos (by omega),Int.toNat_natCast,hN _ (by omega)]; rfl
end Go.Proofs.YtbcpnpbkbndkjaaGreatDoor.Bytes
end
