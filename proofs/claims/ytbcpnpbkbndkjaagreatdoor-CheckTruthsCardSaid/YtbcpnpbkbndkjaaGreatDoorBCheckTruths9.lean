/- Several texts in one, in their order. -/
import Derived.Test.YtbcpnpbkbndkjaaGreatDoorBCheckTruths8
import Derived.KernelRfl
section
/- The evaluator's trees are the functions on lists of words. -/
set_option linter.unusedVariables false
set_option linter.unusedSimpArgs false
namespace Go.Proofs.YtbcpnpbkbndkjaaGreatDoor.Ev
open Go Go.RowKit Go.Proofs.YtbcpnpbkbndkjaaGreatDoorW.PrintWords
theorem wrS (i : Int) (h : 0 ≤ i) (h' : i ≤ 1000000) : IntKind.i64.wrap (i + 1) = i + 1 := by rw [wrap_64]; unfold wrap64; omega
theorem idxP_bd (s : ByteArray) : ∀ (l : List ByteArray) (i : Int),0 ≤ i → idxP s l i = -1 ∨ (i ≤ idxP s l i ∧ idxP s l i < i + l.length)
 | [],i,h => .inl (by simp [idxP])
 | x :: r,i,h => by
  unfold idxP
  split
  · right; simp only [List.length_cons]; omega
  · rcases idxP_bd s r (i + 1) (by omega) with h1 | h1
    · exact .inl h1
    · right; simp only [List.length_cons]; omega
theorem seq_comm (x y : ByteArray) : seq x y = seq y x := by
 rw [Bool.eq_iff_iff,seq_list,seq_list]
 exact eq_comm
theorem bind_ite {α β : Type} (c : Prop) [Decidable c] (a b : Option α) (f : α → Option β) : (if c then a else b).bind f = if c then a.bind f else b.bind f := by split <;> rfl
theorem ttt (b : Bool) : (if true = true then b else false) = b := rfl
theorem nth_at {α : Type} {l : List α} {i : Nat} (h : i < l.length) : nth l i = some l[i] := by rw [nth_get,List.getElem?_eq_getElem h]
theorem wrL (i : Int) (h : 0 ≤ i) (h' : i ≤ 1000000) : IntKind.i64.wrap i = i := by rw [wrap_64]; unfold wrap64; omega
theorem value_Int.ev (z : Int) (v : Int × Int × Bool × ByteArray) (h : (some (1,z,false,⟨#[]⟩)) = some v) : ∃ m,callX false (fnF cx_value_Int noCalls m 55) [.int .i64 z] (lcSt [] 0) out = some (.ret (.agg [.int .i64 v.1,.int .i64 v.2.1,.bool v.2.2.1,.str v.2.2.2]),lcRet [] [] 0) := by
 obtain rfl := Option.some.inj h
 exact ⟨0,value_Int.top 0 z⟩
theorem value_Int.ok : AllOk specs_value_Int := allOk_cons dossierref08_Words.ok (fnOk_of (by kernel_rfl)) (sealed_of (kp := false) (ok_ext _) (cok_of dossierref08_Words.ok) fun args cs n K r h => by
 unfold value_Int.spec at h
 dsimp only [lcSt] at h
 split at h
 · obtain ⟨v,h1,h2⟩ := bind2 h
   obtain ⟨m,h4⟩ := value_Int.ev _ v h1
   exact ⟨m,_,_,h4,h2⟩
 · cases h)
theorem value_Text.ev (t : ByteArray) (v : Int × Int × Bool × ByteArray) (h : (some (3,0,false,t)) = some v) : ∃ m,callX false (fnF cx_value_Text noCalls m 75) [.str t] (lcSt [] 0) out = some (.ret (.agg [.int .i64 v.1,.int .i64 v.2.1,.bool v.2.2.1,.str v.2.2.2]),lcRet [] [] 0) := by
 obtain rfl := Option.some.inj h
 exact ⟨0,value_Text.top 0 t⟩
theorem value_Text.ok : AllOk specs_value_Text := allOk_cons value_Int.ok (fnOk_of (by kernel_rfl)) (sealed_of (kp := false) (ok_ext _) (cok_of value_Int.ok) fun args cs n K r h => by
 unfold value_Text.spec at h
 dsimp only [lcSt] at h
 split at h
 · obtain ⟨v,h1,h2⟩ := bind2 h
   obtain ⟨m,h4⟩ := value_Text.ev _ v h1
   exact ⟨m,_,_,h4,h2⟩
 · cases h)
theorem value_Bool.ev (b : Bool) (v : Int × Int × Bool × ByteArray) (h : (some (2,0,b,⟨#[]⟩)) = some v) : ∃ m,callX false (fnF cx_value_Bool noCalls m 76) [.bool b] (lcSt [] 0) out = some (.ret (.agg [.int .i64 v.1,.int .i64 v.2.1,.bool v.2.2.1,.str v.2.2.2]),lcRet [] [] 0) := by
 obtain rfl := Option.some.inj h
 exact ⟨0,value_Bool.top 0 b⟩
theorem value_Bool.ok : AllOk specs_value_Bool := allOk_cons value_Text.ok (fnOk_of (by kernel_rfl)) (sealed_of (kp := false) (ok_ext _) (cok_of value_Text.ok) fun args cs n K r h => by
 unfold value_Bool.spec at h
 dsimp only [lcSt] at h
 split at h
 · obtain ⟨v,h1,h2⟩ := bind2 h
   obtain ⟨m,h4⟩ := value_Bool.ev _ v h1
   exact ⟨m,_,_,h4,h2⟩
 · cases h)
theorem dossierref07_Int.ev (z : Int) (v : Int × Int × Bool × ByteArray) (h : (some (1,z,false,⟨#[]⟩)) = some v) : ∃ m,callX false (fnF cx_dossierref07_Int noCalls m 60) [.int .i64 z] (lcSt [] 0) out = some (.ret (.agg [.int .i64 v.1,.int .i64 v.2.1,.bool v.2.2.1,.str v.2.2.2]),lcRet [] [] 0) := by
 obtain rfl := Option.some.inj h
 exact ⟨0,dossierref07_Int.top 0 z⟩
theorem dossierref07_Int.ok : AllOk specs_dossierref07_Int := allOk_cons value_Bool.ok (fnOk_of (by kernel_rfl)) (sealed_of (kp := false) (ok_ext _) (cok_of value_Bool.ok) fun args cs n K r h => by
 unfold dossierref07_Int.spec at h
 dsimp only [lcSt] at h
 split at h
 · obtain ⟨v,h1,h2⟩ := bind2 h
   obtain ⟨m,h4⟩ := dossierref07_Int.ev _ v h1
   exact ⟨m,_,_,h4,h2⟩
 · cases h)
theorem dossierref07_Text.ev (t : ByteArray) (v : Int × Int × Bool × ByteArray) (h : (some (3,0,false,t)) = some v) : ∃ m,callX false (fnF cx_dossierref07_Text noCalls m 126) [.str t] (lcSt [] 0) out = some (.ret (.agg [.int .i64 v.1,.int .i64 v.2.1,.bool v.2.2.1,.str v.2.2.2]),lcRet [] [] 0) := by
 obtain rfl := Option.some.inj h
 exact ⟨0,dossierref07_Text.top 0 t⟩
theorem dossierref07_Text.ok : AllOk specs_dossierref07_Text := allOk_cons dossierref07_Int.ok (fnOk_of (by kernel_rfl)) (sealed_of (kp := false) (ok_ext _) (cok_of dossierref07_Int.ok) fun args cs n K r h => by
 unfold dossierref07_Text.spec at h
 dsimp only [lcSt] at h
 split at h
 · obtain ⟨v,h1,h2⟩ := bind2 h
   obtain ⟨m,h4⟩ := dossierref07_Text.ev _ v h1
   exact ⟨m,_,_,h4,h2⟩
 · cases h)
theorem dossierref07_Bool.ev (b : Bool) (v : Int × Int × Bool × ByteArray) (h : (some (2,0,b,⟨#[]⟩)) = some v) : ∃ m,callX false (fnF cx_dossierref07_Bool noCalls m 20) [.bool b] (lcSt [] 0) out = some (.ret (.agg [.int .i64 v.1,.int .i64 v.2.1,.bool v.2.2.1,.str v.2.2.2]),lcRet [] [] 0) := by
 obtain rfl := Option.some.inj h
 exact ⟨0,dossierref07_Bool.top 0 b⟩
theorem dossierref07_Bool.ok : AllOk specs_dossierref07_Bool := allOk_cons dossierref07_Text.ok (fnOk_of (by kernel_rfl)) (sealed_of (kp := false) (ok_ext _) (cok_of dossierref07_Text.ok) fun args cs n K r h => by
 unfold dossierref07_Bool.spec at h
 dsimp only [lcSt] at h
 split at h
 · obtain ⟨v,h1,h2⟩ := bind2 h
   obtain ⟨m,h4⟩ := dossierref07_Bool.ev _ v h1
   exact ⟨m,_,_,h4,h2⟩
 · cases h)
theorem expr_Keyword.ev (s : ByteArray) (v : Bool) (h : (some (kwP s)) = some v) : ∃ m,callX false (fnF cx_expr_Keyword noCalls m 116) [.str s] (lcSt [] 0) out = some (.ret (.bool v),lcRet [] [] 0) := by
 obtain rfl := Option.some.inj h
 refine ⟨0,?_⟩
 rw [expr_Keyword.top]
 unfold kwP
 repeat (first | rw [Bool.or_eq_true] | split | rfl)
 all_goals grind
theorem expr_Keyword.ok : AllOk specs_expr_Keyword := allOk_cons dossierref07_Bool.ok (fnOk_of (by kernel_rfl)) (sealed_of (kp := false) (ok_ext _) (cok_of dossierref07_Bool.ok) fun args cs n K r h => by
 unfold expr_Keyword.spec at h
 dsimp only [lcSt] at h
 split at h
 · obtain ⟨v,h1,h2⟩ := bind2 h
   obtain ⟨m,h4⟩ := expr_Keyword.ev _ v h1
   exact ⟨m,_,_,h4,h2⟩
 · cases h)
theorem ref_Keyword.ev (s : ByteArray) (v : Bool) (h : (some (kwP s)) = some v) : ∃ m,callX false (fnF cx_ref_Keyword noCalls m 125) [.str s] (lcSt [] 0) out = some (.ret (.bool v),lcRet [] [] 0) := by
 obtain rfl := Option.some.inj h
 refine ⟨8,?_⟩
 rw [ref_Keyword.top]
 unfold kwP
 simp [ref_Keyword.L0_s,wrL,nth]
 grind
theorem ref_Keyword.ok : AllOk specs_ref_Keyword := allOk_cons expr_Keyword.ok (fnOk_of (by kernel_rfl)) (sealed_of (kp := false) (ok_ext _) (cok_of expr_Keyword.ok) fun args cs n K r h => by
 unfold ref_Keyword.spec at h
 dsimp only [lcSt] at h
 split at h
 · obtain ⟨v,h1,h2⟩ := bind2 h
   obtain ⟨m,h4⟩ := ref_Keyword.ev _ v h1
   exact ⟨m,_,_,h4,h2⟩
 · cases h)
theorem expr_names.ev  (v : Unit) (h : (some ()) = some v) : ∃ m,callX false (fnF cx_expr_names noCalls m 118) [] (lcSt [] 0) out = some (.ret (namesV),lcRet [] [] 0) := by
 exact ⟨0,expr_names.top 0⟩
theorem expr_names.ok : AllOk specs_expr_names := allOk_cons ref_Keyword.ok (fnOk_of (by kernel_rfl)) (sealed_of (kp := false) (ok_ext _) (cok_of ref_Keyword.ok) fun args cs n K r h => by
 unfold expr_names.spec at h
 dsimp only [lcSt] at h
 split at h
 · obtain ⟨v,h1,h2⟩ := bind2 h
   obtain ⟨m,h4⟩ := expr_names.ev  v h1
   exact ⟨m,_,_,h4,h2⟩
 · cases h)
theorem slices_Index.l_ev (n : Nat) (a0 : List ByteArray) (s0 s : ByteArray) (a : List ByteArray) (ha : a.length ≤ 1000) : ∀ (k m : Nat) (i : Int),0 ≤ i → k + i = a.length → k + 1 ≤ m → slices_Index.L0 n m a0 s0 a s a.length i = some (.ret (.int .i64 (idxP s (a.drop i.toNat) i)),lcRet [] [] 0) := by
 intro k
 induction k with
 | zero =>
  intro m i h0 h1 h2
  obtain ⟨m,rfl⟩ : ∃ m',m = m' + 1 := ⟨m - 1,by omega⟩
  rw [slices_Index.L0_s,List.drop_eq_nil_of_le (by omega)]
  rw [if_neg (by simp; omega)]
  simp [idxP]
 | succ k ih =>
  intro m i h0 h1 h2
  obtain ⟨m,rfl⟩ : ∃ m',m = m' + 1 := ⟨m - 1,by omega⟩
  have hlt : i.toNat < a.length := by omega
  rw [slices_Index.L0_s,if_pos (by simp; omega),if_pos h0,nth_at hlt,List.drop_eq_getElem_cons hlt,idxP]
  have e := ih m (i + 1) (by omega) (by omega) (by omega)
  rw [show (i + 1).toNat = i.toNat + 1 from by omega] at e
  rw [wrS i h0 (by omega),e]
  simp only [Option.bind_some]
  split <;> rfl
theorem slices_Index.ev (a : List (ByteArray)) (s : ByteArray) (v : Int) (h : (if a.length ≤ 1000 then some (idxP s a 0) else none) = some v) : ∃ m,callX false (fnF cx_slices_Index noCalls m 86) [.sl .str a .no,.str s] (lcSt [] 0) out = some (.ret (.int .i64 v),lcRet [] [] 0) := by
 refine ⟨a.length + 1,?_⟩
 rw [slices_Index.top]
 split at h
 · rename_i ha
   obtain rfl := Option.some.inj h
   exact slices_Index.l_ev _ a s s a ha a.length _ 0 (by omega) (by omega) (Nat.le_refl _)
 · cases h
theorem slices_Index.ok : AllOk specs_slices_Index := allOk_cons expr_names.ok (fnOk_of (by kernel_rfl)) (sealed_of (kp := false) (ok_ext _) (cok_of expr_names.ok) fun args cs n K r h => by
 unfold slices_Index.spec at h
 dsimp only [lcSt] at h
 split at h
 · obtain ⟨v,h1,h2⟩ := bind2 h
   obtain ⟨m,h4⟩ := slices_Index.ev _ _ v h1
   exact ⟨m,_,_,h4,h2⟩
 · cases h)
theorem expr_State.ev (s : ByteArray) (v : Int × Bool) (h : (some (stP s,decide (1 ≤ stP s))) = some v) : ∃ m,callX false (fnF cx_expr_State noCalls m 79) [.str s] (lcSt [] 0) out = some (.ret (.tup [.int .i64 v.1,.bool v.2]),lcRet [] [] 0) := by
 obtain rfl := Option.some.inj h
 refine ⟨0,?_⟩
 rw [expr_State.top]
 unfold stP
 have hb := idxP_bd s namesL 0 (by omega)
 rw [show namesL.length = 8 from rfl] at hb
 rw [← namesL,show IntKind.i64.wrap (idxP s namesL 0 + 1) = idxP s namesL 0 + 1 from wrL _ (by omega) (by omega)]
 have e : decide (idxP s namesL 0 ≥ 0) = decide (1 ≤ idxP s namesL 0 + 1) := by
  congr 1
  apply propext
  omega
 rw [← e]
theorem expr_State.ok : AllOk specs_expr_State := allOk_cons slices_Index.ok (fnOk_of (by kernel_rfl)) (sealed_of (kp := false) (ok_ext _) (cok_of slices_Index.ok) fun args cs n K r h => by
 unfold expr_State.spec at h
 dsimp only [lcSt] at h
 split at h
 · obtain ⟨v,h1,h2⟩ := bind2 h
   obtain ⟨m,h4⟩ := expr_State.ev _ v h1
   exact ⟨m,_,_,h4,h2⟩
 · cases h)
theorem expr_StateName.ev (z : Int) (v : ByteArray) (h : (some (nmP z)) = some v) : ∃ m,callX false (fnF cx_expr_StateName noCalls m 84) [.int .i64 z] (lcSt [] 0) out = some (.ret (.str v),lcRet [] [] 0) := by
 obtain rfl := Option.some.inj h
 refine ⟨0,?_⟩
 rw [expr_StateName.top]
 unfold nmP
 simp only [ite_or,decide_eq_true_eq]
 by_cases h1 : z < 1
 · rw [if_pos (.inl h1),if_pos h1]
 by_cases h2 : 8 < z
 · rw [if_pos (.inr h2),if_neg h1,if_pos h2]
 rw [if_neg (by omega),if_neg h1,if_neg h2,show IntKind.i64.wrap (z - 1) = z - 1 from wrL _ (by omega) (by omega)]
 have : z = 1 ∨ z = 2 ∨ z = 3 ∨ z = 4 ∨ z = 5 ∨ z = 6 ∨ z = 7 ∨ z = 8 := by omega
 rcases this with rfl | rfl | rfl | rfl | rfl | rfl | rfl | rfl <;> rfl
theorem expr_StateName.ok : AllOk specs_expr_StateName := allOk_cons expr_State.ok (fnOk_of (by kernel_rfl)) (sealed_of (kp := false) (ok_ext _) (cok_of expr_State.ok) fun args cs n K r h => by
 unfold expr_StateName.spec at h
 dsimp only [lcSt] at h
 split at h
 · obtain ⟨v,h1,h2⟩ := bind2 h
   obtain ⟨m,h4⟩ := expr_StateName.ev _ v h1
   exact ⟨m,_,_,h4,h2⟩
 · cases h)
theorem ref_states.ev  (v : List (ByteArray)) (h : (some statesL) = some v) : ∃ m,callX false (fnF cx_ref_states noCalls m 155) [] (lcSt [] 0) out = some (.ret (.sl .str (v) .no),lcRet [] [] 0) := by
 obtain rfl := Option.some.inj h
 exact ⟨0,ref_states.top 0⟩
theorem ref_states.ok : AllOk specs_ref_states := allOk_cons expr_StateName.ok (fnOk_of (by kernel_rfl)) (sealed_of (kp := false) (ok_ext _) (cok_of expr_StateName.ok) fun args cs n K r h => by
 unfold ref_states.spec at h
 dsimp only [lcSt] at h
 split at h
 · obtain ⟨v,h1,h2⟩ := bind2 h
   obtain ⟨m,h4⟩ := ref_states.ev  v h1
   exact ⟨m,_,_,h4,h2⟩
 · cases h)
theorem ref_State.ev (s : ByteArray) (v : Int × Bool) (h : (some (stP s,decide (1 ≤ stP s))) = some v) : ∃ m,callX false (fnF cx_ref_State noCalls m 130) [.str s] (lcSt [] 0) out = some (.ret (.tup [.int .i64 v.1,.bool v.2]),lcRet [] [] 0) := by
 obtain rfl := Option.some.inj h
 refine ⟨10,?_⟩
 rw [ref_State.top]
 unfold stP
 have hc : ∀ l : List UInt8,seq ⟨⟨l⟩⟩ s = seq s ⟨⟨l⟩⟩ := fun l => seq_comm _ _
 simp [ref_State.L0_s,wrL,nth,namesL,idxP,hc]
 grind
theorem ref_State.ok : AllOk specs_ref_State := allOk_cons ref_states.ok (fnOk_of (by kernel_rfl)) (sealed_of (kp := false) (ok_ext _) (cok_of ref_states.ok) fun args cs n K r h => by
 unfold ref_State.spec at h
 dsimp only [lcSt] at h
 split at h
 · obtain ⟨v,h1,h2⟩ := bind2 h
   obtain ⟨m,h4⟩ := ref_State.ev _ v h1
   exact ⟨m,_,_,h4,h2⟩
 · cases h)
theorem expr_must.ev (b : Bool) (v : Bool) (h : (some b) = some v) : ∃ m,callX false (fnF cx_expr_must noCalls m 24) [.bool b] (lcSt [] 0) out = (if v = true then some (.ret (.tup []),lcRet [] [] 0) else some (.pan (.iface 57 (.agg [])),lcRet [] [] 0)) := by
 obtain rfl := Option.some.inj h
 refine ⟨0,?_⟩
 rw [expr_must.top]
 cases b <;> rfl
theorem expr_must.ok : AllOk specs_expr_must := allOk_cons ref_State.ok (fnOk_of (by kernel_rfl)) (sealed_of (kp := false) (ok_ext _) (cok_of ref_State.ok) fun args cs n K r h => by
 unfold expr_must.spec at h
 dsimp only [lcSt] at h
 split at h
 · obtain ⟨v,h1,h2⟩ := bind2 h
   obtain ⟨m,h4⟩ := expr_must.ev _ v h1
   by_cases hv : v = true
   · rw [if_pos hv] at h4 h2; exact ⟨m,_,_,h4,h2⟩
   · rw [if_neg hv] at h4 h2; exact ⟨m,_,_,h4,h2⟩
 · cases h)
theorem expr_next.ev (l : List (W.den U0)) (v : Int × ByteArray × Int) (h : ((nth l 0 : Option Wd)) = some v) : ∃ m,callX false (fnF cx_expr_next noCalls m 25) [.ptr 0 0] (lcSt [[.sl W l .no]] 0) out = some (.ret (.agg [.int .i64 v.1,.str v.2.1,.int .i64 v.2.2]),lcRet [[.sl W l .no]] [] 0) := by
 refine ⟨0,?_⟩
 rw [expr_next.top]
 show _ = Option.bind (some v) (fun v : Int × ByteArray × Int => (some (.ret (.agg [.int .i64 v.1,.str v.2.1,.int .i64 v.2.2]),lcRet [[.sl W l .no]] [] 0) : Option (Rr U0)))
 rw [← h]
 rfl
theorem expr_next.ok : AllOk specs_expr_next := allOk_cons expr_must.ok (fnOk_of (by kernel_rfl)) (sealed_of (kp := false) (ok_ext _) (cok_of expr_must.ok) fun args cs n K r h => by
 unfold expr_next.spec at h
 dsimp only [lcSt] at h
 split at h
 · obtain ⟨v,h1,h2⟩ := bind2 h
   obtain ⟨m,h4⟩ := expr_next.ev _ v h1
   exact ⟨m,_,_,h4,h2⟩
 · cases h)
theorem expr_skip.ev (l : List (W.den U0)) (v : Int × ByteArray × Int × List (W.den U0)) (h : ((nth l 0).bind fun w : Wd => some (w.1,w.2.1,w.2.2,l.drop 1)) = some v) : ∃ m,callX false (fnF cx_expr_skip noCalls m 74) [.ptr 0 0] (lcSt [[.sl W l .no]] 0) out = some (.ret (.agg [.int .i64 v.1,.str v.2.1,.int .i64 v.2.2.1]),lcRet [[.sl W (v.2.2.2) .no]] [] 0) := by
 refine ⟨0,?_⟩
 rw [expr_skip.top]
 show _ = Option.bind (some v) (fun v : Int × ByteArray × Int × List (W.den U0) => (some (.ret (.agg [.int .i64 v.1,.str v.2.1,.int .i64 v.2.2.1]),lcRet [[.sl W (v.2.2.2) .no]] [] 0) : Option (Rr U0)))
 rw [← h]
 cases l with
 | nil => rfl
 | cons w r =>
  simp [nth]
  omega
theorem expr_skip.ok : AllOk specs_expr_skip := allOk_cons expr_next.ok (fnOk_of (by kernel_rfl)) (sealed_of (kp := false) (ok_ext _) (cok_of expr_next.ok) fun args cs n K r h => by
 unfold expr_skip.spec at h
 dsimp only [lcSt] at h
 split at h
 · obtain ⟨v,h1,h2⟩ := bind2 h
   obtain ⟨m,h4⟩ := expr_skip.ev _ v h1
   exact ⟨m,_,_,h4,h2⟩
 · cases h)
theorem expr_at.ev (s : ByteArray) (l : List (W.den U0)) (v : Bool) (h : (atP s l) = some v) : ∃ m,callX false (fnF cx_expr_at noCalls m 73) [.ptr 0 0,.str s] (lcSt [[.sl W l .no]] 0) out = some (.ret (.bool v),lcRet [[.sl W l .no]] [] 0) := by
 refine ⟨0,?_⟩
 rw [expr_at.top]
 show _ = Option.bind (some v) (fun v : Bool => (some (.ret (.bool v),lcRet [[.sl W l .no]] [] 0) : Option (Rr U0)))
 rw [← h]
 unfold atP
 rw [Option.bind_assoc]
 congr 1
 funext w
 unfold isW
 rw [Option.bind_some]
 by_cases h1 : seq w.2.1 s = true <;> by_cases h2 : w.1 = 4 <;> by_cases h3 : w.1 = 1 <;> simp [h1,h2,h3]
theorem expr_at.ok : AllOk specs_expr_at := allOk_cons expr_skip.ok (fnOk_of (by kernel_rfl)) (sealed_of (kp := false) (ok_ext _) (cok_of expr_skip.ok) fun args cs n K r h => by
 unfold expr_at.spec at h
 dsimp only [lcSt] at h
 split at h
 · obtain ⟨v,h1,h2⟩ := bind2 h
   obtain ⟨m,h4⟩ := expr_at.ev _ _ v h1
   exact ⟨m,_,_,h4,h2⟩
 · cases h)
theorem expr_take.ev (s : ByteArray) (l : List (W.den U0)) (v : Bool × List (W.den U0)) (h : (takeP s l) = some v) : ∃ m,callX false (fnF cx_expr_take noCalls m 38) [.ptr 0 0,.str s] (lcSt [[.sl W l .no]] 0) out = some (.ret (.bool v.1),lcRet [[.sl W (v.2) .no]] [] 0) := by
 refine ⟨0,?_⟩
 rw [expr_take.top]
 show _ = Option.bind (some v) (fun v : Bool × List (W.den U0) => (some (.ret (.bool v.1),lcRet [[.sl W (v.2) .no]] [] 0) : Option (Rr U0)))
 rw [← h]
 unfold takeP atP
 cases nth l 0 with
 | none => rfl
 | some w => by_cases h1 : isW s w = true <;> simp [h1]
theorem expr_take.ok : AllOk specs_expr_take := allOk_cons expr_at.ok (fnOk_of (by kernel_rfl)) (sealed_of (kp := false) (ok_ext _) (cok_of expr_at.ok) fun args cs n K r h => by
 unfold expr_take.spec at h
 dsimp only [lcSt] at h
 split at h
 · obtain ⟨v,h1,h2⟩ := bind2 h
   obtain ⟨m,h4⟩ := expr_take.ev _ _ v h1
   exact ⟨m,_,_,h4,h2⟩
 · cases h)
theorem expr_name.ev (l : List (W.den U0)) (v : Bool × ByteArray × List (W.den U0)) (h : (nameP l) = some v) : ∃ m,callX false (fnF cx_expr_name noCalls m 78) [.ptr 0 0] (lcSt [[.sl W l .no]] 0) out = (if v.1 = true then some (.ret (.str v.2.1),lcRet [[.sl W (v.2.2) .no]] [] 0) else some (.pan (.iface 57 (.agg [])),lcRet [[.sl W (v.2.2) .no]] [] 0)) := by
 refine ⟨0,?_⟩
 rw [expr_name.top]
 show _ = Option.bind (some v) (fun v : Bool × ByteArray × List (W.den U0) => ((if v.1 = true then some (.ret (.str v.2.1),lcRet [[.sl W (v.2.2) .no]] [] 0) else some (.pan (.iface 57 (.agg [])),lcRet [[.sl W (v.2.2) .no]] [] 0)) : Option (Rr U0)))
 rw [← h]
 unfold nameP
 cases nth l 0 with
 | none => rfl
 | some w => by_cases h1 : w.1 = 1 <;> by_cases h2 : kwP w.2.1 = true <;> simp [h1,h2]
theorem expr_name.ok : AllOk specs_expr_name := allOk_cons expr_take.ok (fnOk_of (by kernel_rfl)) (sealed_of (kp := false) (ok_ext _) (cok_of expr_take.ok) fun args cs n K r h => by
 unfold expr_name.spec at h
 dsimp only [lcSt] at h
 split at h
 · obtain ⟨v,h1,h2⟩ := bind2 h
   obtain ⟨m,h4⟩ := expr_name.ev _ v h1
   by_cases hv : v.1 = true
   · rw [if_pos hv] at h4 h2; exact ⟨m,_,_,h4,h2⟩
   · rw [if_neg hv] at h4 h2; exact ⟨m,_,_,h4,h2⟩
 · cases h)
theorem expr_path.l1 (n : Nat) (l0 : List Wd) : ∀ (k m : Nat) (x : List ByteArray) (l : List Wd),k ≤ m → ∀ v,moreP k x l = some v → expr_path.L1 n m l0 x l = (if v.1 = true then (Q.strings_Join.f v.2.1 (⟨#[46]⟩ : ByteArray)).bind fun t => some (.ret (.str t),lcRet [[.sl W v.2.2 .no]] [] 0) else some (.pan (.iface 57 (.agg [])),lcRet [[.sl W v.2.2 .no]] [] 0)) := by
 intro k
 induction k with
 | zero => intro m x l _ v h; simp [moreP] at h
 | succ k ih =>
  intro m x l hk v h
  obtain ⟨m,rfl⟩ : ∃ m',m = m' + 1 := ⟨m - 1,by omega⟩
  rw [moreP] at h
  rw [expr_path.L1_s]
  obtain ⟨a,h1,h2⟩ := bind2 h
  rw [h1,Option.bind_some]
  by_cases ha : a.1 = true
  · rw [if_pos ha] at h2 ⊢
    obtain ⟨b,h3,h4⟩ := bind2 h2
    rw [h3,Option.bind_some]
    by_cases hb : b.1 = true
    · rw [if_pos hb] at h4 ⊢
      by_cases hc : (x.length + [b.2.1].length) * 16 ≤ most
      · rw [if_pos hc] at h4 ⊢
        exact ih m _ _ (by omega) v h4
      · rw [if_neg hc] at h4; cases h4
    · rw [if_neg hb] at h4 ⊢
      obtain rfl := Option.some.inj h4
      rfl
  · rw [if_neg ha] at h2 ⊢
    obtain rfl := Option.some.inj h2
    rfl
theorem expr_path.l0 (n m : Nat) (l0 : List Wd) (x : List ByteArray) (l : List Wd) : expr_path.L0 n (m + 1) l0 x l = expr_path.L1 n (m + 1) l0 x l := by rw [expr_path.L0_s,expr_path.L1_s]
theorem expr_path.ev (l : List (W.den U0)) (v : Bool × ByteArray × List (W.den U0)) (h : (pathQ l) = some v) : ∃ m,callX false (fnF cx_expr_path noCalls m 77) [.ptr 0 0] (lcSt [[.sl W l .no]] 0) out = (if v.1 = true then some (.ret (.str v.2.1),lcRet [[.sl W (v.2.2) .no]] [] 0) else some (.pan (.iface 57 (.agg [])),lcRet [[.sl W (v.2.2) .no]] [] 0)) := by
 refine ⟨l.length + 1,?_⟩
 rw [expr_path.top]
 show _ = Option.bind (some v) (fun v : Bool × ByteArray × List (W.den U0) => ((if v.1 = true then some (.ret (.str v.2.1),lcRet [[.sl W (v.2.2) .no]] [] 0) else some (.pan (.iface 57 (.agg [])),lcRet [[.sl W (v.2.2) .no]] [] 0)) : Option (Rr U0)))
 rw [← h]
 unfold pathQ pathP at h ⊢
 obtain ⟨b,h1,h2⟩ := bind2 h
 rw [h1,Option.bind_some,Option.bind_some]
 by_cases hb : b.1 = true
 · rw [if_pos hb] at h2
   rw [if_pos hb,if_pos hb]
   obtain ⟨c,h3,h4⟩ := bind2 h2
   rw [expr_path.l0,expr_path.l1 _ _ _ _ _ _ (Nat.le_refl _) c h3,h3,Option.bind_some]
   by_cases hc : c.1 = true
   · rw [if_pos hc,if_pos hc,Option.bind_assoc]
     rfl
   · rw [if_neg hc,if_neg hc]
     rfl
 · rw [if_neg hb,if_neg hb]
   rfl
theorem expr_path.ok : AllOk specs_expr_path := allOk_cons expr_name.ok (fnOk_of (by kernel_rfl)) (sealed_of (kp := false) (ok_ext _) (cok_of expr_name.ok) fun args cs n K r h => by
 unfold expr_path.spec at h
 dsimp only [lcSt] at h
 split at h
 · obtain ⟨v,h1,h2⟩ := bind2 h
   obtain ⟨m,h4⟩ := expr_path.ev _ v h1
   by_cases hv : v.1 = true
   · rw [if_pos hv] at h4 h2; exact ⟨m,_,_,h4,h2⟩
   · rw [if_neg hv] at h4 h2; exact ⟨m,_,_,h4,h2⟩
 · cases h)
theorem expr_operators.ev  (v : Unit) (h : (some ()) = some v) : ∃ m,callX false (fnF cx_expr_operators noCalls m 80) [] (lcSt [] 0) out = some (.ret (opersV),lcRet [] [] 0) := by
 exact ⟨0,expr_operators.top 0⟩
theorem expr_operators.ok : AllOk specs_expr_operators := allOk_cons expr_path.ok (fnOk_of (by kernel_rfl)) (sealed_of (kp := false) (ok_ext _) (cok_of expr_path.ok) fun args cs n K r h => by
 unfold expr_operators.spec at h
 dsimp only [lcSt] at h
 split at h
 · obtain ⟨v,h1,h2⟩ := bind2 h
   obtain ⟨m,h4⟩ := expr_operators.ev  v h1
   exact ⟨m,_,_,h4,h2⟩
 · cases h)
theorem op_step (own : Int) (o : Int × Int × ByteArray) (r : List (Int × Int × ByteArray)) (l : List Wd) (F : Int × Bool × List Wd → Option (Rr U0)) : (if (o.2.1 == own) = true then (takeP o.2.2 l).bind fun v0 => (if v0.1 = true then F (o.1,true,v0.2) else (opP own r v0.2).bind F) else (opP own r l).bind F) = (opP own (o :: r) l).bind F := by
 rw [opP]
 simp only [beq_iff_eq,bind_ite,Option.bind_assoc,Option.bind_some]
theorem expr_operator.h13 (n : Nat) (own0 own : Int) (l0 : List Wd) (m : Nat) (l : List Wd) : expr_operator.L1 n (m + 1) own0 l0 own 7 6 (⟨#[42]⟩ : ByteArray) 8 6 (⟨#[47]⟩ : ByteArray) 9 6 (⟨#[37]⟩ : ByteArray) 10 5 (⟨#[43]⟩ : ByteArray) 11 5 (⟨#[45]⟩ : ByteArray) 12 4 (⟨#[60]⟩ : ByteArray) 13 4 (⟨#[60,61]⟩ : ByteArray) 14 4 (⟨#[62]⟩ : ByteArray) 15 4 (⟨#[62,61]⟩ : ByteArray) 16 4 (⟨#[61]⟩ : ByteArray) 17 4 (⟨#[33,61]⟩ : ByteArray) 18 2 (⟨#[97,110,100]⟩ : ByteArray) 19 1 (⟨#[111,114]⟩ : ByteArray) 13 l = (opP own (opsL.drop 13) l).bind (fun v : Int × Bool × List (W.den U0) => (some (.ret (.tup [.int .i64 v.1,.bool v.2.1]),lcRet [[.sl W (v.2.2) .no]] [] 0) : Option (Rr U0))) := by
 rw [expr_operator.L1_s,if_neg (by decide)]
 rfl
theorem expr_operator.h12 (n : Nat) (own0 own : Int) (l0 : List Wd) (m : Nat) (l : List Wd) : expr_operator.L1 n (m + 2) own0 l0 own 7 6 (⟨#[42]⟩ : ByteArray) 8 6 (⟨#[47]⟩ : ByteArray) 9 6 (⟨#[37]⟩ : ByteArray) 10 5 (⟨#[43]⟩ : ByteArray) 11 5 (⟨#[45]⟩ : ByteArray) 12 4 (⟨#[60]⟩ : ByteArray) 13 4 (⟨#[60,61]⟩ : ByteArray) 14 4 (⟨#[62]⟩ : ByteArray) 15 4 (⟨#[62,61]⟩ : ByteArray) 16 4 (⟨#[61]⟩ : ByteArray) 17 4 (⟨#[33,61]⟩ : ByteArray) 18 2 (⟨#[97,110,100]⟩ : ByteArray) 19 1 (⟨#[111,114]⟩ : ByteArray) 12 l = (opP own (opsL.drop 12) l).bind (fun v : Int × Bool × List (W.den U0) => (some (.ret (.tup [.int .i64 v.1,.bool v.2.1]),lcRet [[.sl W (v.2.2) .no]] [] 0) : Option (Rr U0))) := by
 rw [expr_operator.L1_s,if_pos (by decide),if_pos (by decide),show IntKind.i64.wrap ((12 : Int) + 1) = 13 from wrL _ (by decide) (by decide)]
 simp only [expr_operator.h13,if_true]
 exact op_step own (19,1,(⟨#[111,114]⟩ : ByteArray)) (opsL.drop 13) l (fun v : Int × Bool × List (W.den U0) => (some (.ret (.tup [.int .i64 v.1,.bool v.2.1]),lcRet [[.sl W (v.2.2) .no]] [] 0) : Option (Rr U0)))
theorem expr_operator.h11 (n : Nat) (own0 own : Int) (l0 : List Wd) (m : Nat) (l : List Wd) : expr_operator.L1 n (m + 3) own0 l0 own 7 6 (⟨#[42]⟩ : ByteArray) 8 6 (⟨#[47]⟩ : ByteArray) 9 6 (⟨#[37]⟩ : ByteArray) 10 5 (⟨#[43]⟩ : ByteArray) 11 5 (⟨#[45]⟩ : ByteArray) 12 4 (⟨#[60]⟩ : ByteArray) 13 4 (⟨#[60,61]⟩ : ByteArray) 14 4 (⟨#[62]⟩ : ByteArray) 15 4 (⟨#[62,61]⟩ : ByteArray) 16 4 (⟨#[61]⟩ : ByteArray) 17 4 (⟨#[33,61]⟩ : ByteArray) 18 2 (⟨#[97,110,100]⟩ : ByteArray) 19 1 (⟨#[111,114]⟩ : ByteArray) 11 l = (opP own (opsL.drop 11) l).bind (fun v : Int × Bool × List (W.den U0) => (some (.ret (.tup [.int .i64 v.1,.bool v.2.1]),lcRet [[.sl W (v.2.2) .no]] [] 0) : Option (Rr U0))) := by
 rw [expr_operator.L1_s,if_pos (by decide),if_neg (by decide),if_pos (by decide),show IntKind.i64.wrap ((11 : Int) + 1) = 12 from wrL _ (by decide) (by decide)]
 simp only [expr_operator.h12,if_true]
 exact op_step own (18,2,(⟨#[97,110,100]⟩ : ByteArray)) (opsL.drop 12) l (fun v : Int × Bool × List (W.den U0) => (some (.ret (.tup [.int .i64 v.1,.bool v.2.1]),lcRet [[.sl W (v.2.2) .no]] [] 0) : Option (Rr U0)))
theorem expr_operator.h10 (n : Nat) (own0 own : Int) (l0 : List Wd) (m : Nat) (l : List Wd) : expr_operator.L1 n (m + 4) own0 l0 own 7 6 (⟨#[42]⟩ : ByteArray) 8 6 (⟨#[47]⟩ : ByteArray) 9 6 (⟨#[37]⟩ : ByteArray) 10 5 (⟨#[43]⟩ : ByteArray) 11 5 (⟨#[45]⟩ : ByteArray) 12 4 (⟨#[60]⟩ : ByteArray) 13 4 (⟨#[60,61]⟩ : ByteArray) 14 4 (⟨#[62]⟩ : ByteArray) 15 4 (⟨#[62,61]⟩ : ByteArray) 16 4 (⟨#[61]⟩ : ByteArray) 17 4 (⟨#[33,61]⟩ : ByteArray) 18 2 (⟨#[97,110,100]⟩ : ByteArray) 19 1 (⟨#[111,114]⟩ : ByteArray) 10 l = (opP own (opsL.drop 10) l).bind (fun v : Int × Bool × List (W.den U0) => (some (.ret (.tup [.int .i64 v.1,.bool v.2.1]),lcRet [[.sl W (v.2.2) .no]] [] 0) : Option (Rr U0))) := by
 rw [expr_operator.L1_s,if_pos (by decide),if_neg (by decide),if_neg (by decide),if_pos (by decide),show IntKind.i64.wrap ((10 : Int) + 1) = 11 from wrL _ (by decide) (by decide)]
 simp only [expr_operator.h11,if_true]
 exact op_step own (17,4,(⟨#[33,61]⟩ : ByteArray)) (opsL.drop 11) l (fun v : Int × Bool × List (W.den U0) => (some (.ret (.tup [.int .i64 v.1,.bool v.2.1]),lcRet [[.sl W (v.2.2) .no]] [] 0) : Option (Rr U0)))
theorem expr_operator.h9 (n : Nat) (own0 own : Int) (l0 : List Wd) (m : Nat) (l : List Wd) : expr_operator.L1 n (m + 5) own0 l0 own 7 6 (⟨#[42]⟩ : ByteArray) 8 6 (⟨#[47]⟩ : ByteArray) 9 6 (⟨#[37]⟩ : ByteArray) 10 5 (⟨#[43]⟩ : ByteArray) 11 5 (⟨#[45]⟩ : ByteArray) 12 4 (⟨#[60]⟩ : ByteArray) 13 4 (⟨#[60,61]⟩ : ByteArray) 14 4 (⟨#[62]⟩ : ByteArray) 15 4 (⟨#[62,61]⟩ : ByteArray) 16 4 (⟨#[61]⟩ : ByteArray) 17 4 (⟨#[33,61]⟩ : ByteArray) 18 2 (⟨#[97,110,100]⟩ : ByteArray) 19 1 (⟨#[111,114]⟩ : ByteArray) 9 l = (opP own (opsL.drop 9) l).bind (fun v : Int × Bool × List (W.den U0) => (some (.ret (.tup [.int .i64 v.1,.bool v.2.1]),lcRet [[.sl W (v.2.2) .no]] [] 0) : Option (Rr U0))) := by
 rw [expr_operator.L1_s,if_pos (by decide),if_neg (by decide),if_neg (by decide),if_neg (by decide),if_pos (by decide),show IntKind.i64.wrap ((9 : Int) + 1) = 10 from wrL _ (by decide) (by decide)]
 simp only [expr_operator.h10,if_true]
 exact op_step own (16,4,(⟨#[61]⟩ : ByteArray)) (opsL.drop 10) l (fun v : Int × Bool × List (W.den U0) => (some (.ret (.tup [.int .i64 v.1,.bool v.2.1]),lcRet [[.sl W (v.2.2) .no]] [] 0) : Option (Rr U0)))
theorem expr_operator.h8 (n : Nat) (own0 own : Int) (l0 : List Wd) (m : Nat) (l : List Wd) : expr_operator.L1 n (m + 6) own0 l0 own 7 6 (⟨#[42]⟩ : ByteArray) 8 6 (⟨#[47]⟩ : ByteArray) 9 6 (⟨#[37]⟩ : ByteArray) 10 5 (⟨#[43]⟩ : ByteArray) 11 5 (⟨#[45]⟩ : ByteArray) 12 4 (⟨#[60]⟩ : ByteArray) 13 4 (⟨#[60,61]⟩ : ByteArray) 14 4 (⟨#[62]⟩ : ByteArray) 15 4 (⟨#[62,61]⟩ : ByteArray) 16 4 (⟨#[61]⟩ : ByteArray) 17 4 (⟨#[33,61]⟩ : ByteArray) 18 2 (⟨#[97,110,100]⟩ : ByteArray) 19 1 (⟨#[111,114]⟩ : ByteArray) 8 l = (opP own (opsL.drop 8) l).bind (fun v : Int × Bool × List (W.den U0) => (some (.ret (.tup [.int .i64 v.1,.bool v.2.1]),lcRet [[.sl W (v.2.2) .no]] [] 0) : Option (Rr U0))) := by
 rw [expr_operator.L1_s,if_pos (by decide),if_neg (by decide),if_neg (by decide),if_neg (by decide),if_neg (by decide),if_pos (by decide),show IntKind.i64.wrap ((8 : Int) + 1) = 9 from wrL _ (by decide) (by decide)]
 simp only [expr_operator.h9,if_true]
 exact op_step own (15,4,(⟨#[62,61]⟩ : ByteArray)) (opsL.drop 9) l (fun v : Int × Bool × List (W.den U0) => (some (.ret (.tup [.int .i64 v.1,.bool v.2.1]),lcRet [[.sl W (v.2.2) .no]] [] 0) : Option (Rr U0)))
theorem expr_operator.h7 (n : Nat) (own0 own : Int) (l0 : List Wd) (m : Nat) (l : List Wd) : expr_operator.L1 n (m + 7) own0 l0 own 7 6 (⟨#[42]⟩ : ByteArray) 8 6 (⟨#[47]⟩ : ByteArray) 9 6 (⟨#[37]⟩ : ByteArray) 10 5 (⟨#[43]⟩ : ByteArray) 11 5 (⟨#[45]⟩ : ByteArray) 12 4 (⟨#[60]⟩ : ByteArray) 13 4 (⟨#[60,61]⟩ : ByteArray) 14 4 (⟨#[62]⟩ : ByteArray) 15 4 (⟨#[62,61]⟩ : ByteArray) 16 4 (⟨#[61]⟩ : ByteArray) 17 4 (⟨#[33,61]⟩ : ByteArray) 18 2 (⟨#[97,110,100]⟩ : ByteArray) 19 1 (⟨#[111,114]⟩ : ByteArray) 7 l = (opP own (opsL.drop 7) l).bind (fun v : Int × Bool × List (W.den U0) => (some (.ret (.tup [.int .i64 v.1,.bool v.2.1]),lcRet [[.sl W (v.2.2) .no]] [] 0) : Option (Rr U0))) := by
 rw [expr_operator.L1_s,if_pos (by decide),if_neg (by decide),if_neg (by decide),if_neg (by decide),if_neg (by decide),if_neg (by decide),if_pos (by decide),show IntKind.i64.wrap ((7 : Int) + 1) = 8 from wrL _ (by decide) (by decide)]
 simp only [expr_operator.h8,if_true]
 exact op_step own (14,4,(⟨#[62]⟩ : ByteArray)) (opsL.drop 8) l (fun v : Int × Bool × List (W.den U0) => (some (.ret (.tup [.int .i64 v.1,.bool v.2.1]),lcRet [[.sl W (v.2.2) .no]] [] 0) : Option (Rr U0)))
theorem expr_operator.h6 (n : Nat) (own0 own : Int) (l0 : List Wd) (m : Nat) (l : List Wd) : expr_operator.L1 n (m + 8) own0 l0 own 7 6 (⟨#[42]⟩ : ByteArray) 8 6 (⟨#[47]⟩ : ByteArray) 9 6 (⟨#[37]⟩ : ByteArray) 10 5 (⟨#[43]⟩ : ByteArray) 11 5 (⟨#[45]⟩ : ByteArray) 12 4 (⟨#[60]⟩ : ByteArray) 13 4 (⟨#[60,61]⟩ : ByteArray) 14 4 (⟨#[62]⟩ : ByteArray) 15 4 (⟨#[62,61]⟩ : ByteArray) 16 4 (⟨#[61]⟩ : ByteArray) 17 4 (⟨#[33,61]⟩ : ByteArray) 18 2 (⟨#[97,110,100]⟩ : ByteArray) 19 1 (⟨#[111,114]⟩ : ByteArray) 6 l = (opP own (opsL.drop 6) l).bind (fun v : Int × Bool × List (W.den U0) => (some (.ret (.tup [.int .i64 v.1,.bool v.2.1]),lcRet [[.sl W (v.2.2) .no]] [] 0) : Option (Rr U0))) := by
 rw [expr_operator.L1_s,if_pos (by decide),if_neg (by decide),if_neg (by decide),if_neg (by decide),if_neg (by decide),if_neg (by decide),if_neg (by decide),if_pos (by decide),show IntKind.i64.wrap ((6 : Int) + 1) = 7 from wrL _ (by decide) (by decide)]
 simp only [expr_operator.h7,if_true]
 exact op_step own (13,4,(⟨#[60,61]⟩ : ByteArray)) (opsL.drop 7) l (fun v : Int × Bool × List (W.den U0) => (some (.ret (.tup [.int .i64 v.1,.bool v.2.1]),lcRet [[.sl W (v.2.2) .no]] [] 0) : Option (Rr U0)))
theorem expr_operator.h5 (n : Nat) (own0 own : Int) (l0 : List Wd) (m : Nat) (l : List Wd) : expr_operator.L1 n (m + 9) own0 l0 own 7 6 (⟨#[42]⟩ : ByteArray) 8 6 (⟨#[47]⟩ : ByteArray) 9 6 (⟨#[37]⟩ : ByteArray) 10 5 (⟨#[43]⟩ : ByteArray) 11 5 (⟨#[45]⟩ : ByteArray) 12 4 (⟨#[60]⟩ : ByteArray) 13 4 (⟨#[60,61]⟩ : ByteArray) 14 4 (⟨#[62]⟩ : ByteArray) 15 4 (⟨#[62,61]⟩ : ByteArray) 16 4 (⟨#[61]⟩ : ByteArray) 17 4 (⟨#[33,61]⟩ : ByteArray) 18 2 (⟨#[97,110,100]⟩ : ByteArray) 19 1 (⟨#[111,114]⟩ : ByteArray) 5 l = (opP own (opsL.drop 5) l).bind (fun v : Int × Bool × List (W.den U0) => (some (.ret (.tup [.int .i64 v.1,.bool v.2.1]),lcRet [[.sl W (v.2.2) .no]] [] 0) : Option (Rr U0))) := by
 rw [expr_operator.L1_s,if_pos (by decide),if_neg (by decide),if_neg (by decide),if_neg (by decide),if_neg (by decide),if_neg (by decide),if_neg (by decide),if_neg (by decide),if_pos (by decide),show IntKind.i64.wrap ((5 : Int) + 1) = 6 from wrL _ (by decide) (by decide)]
 simp only [expr_operator.h6,if_true]
 exact op_step own (12,4,(⟨#[60]⟩ : ByteArray)) (opsL.drop 6) l (fun v : Int × Bool × List (W.den U0) => (some (.ret (.tup [.int .i64 v.1,.bool v.2.1]),lcRet [[.sl W (v.2.2) .no]] [] 0) : Option (Rr U0)))
theorem expr_operator.h4 (n : Nat) (own0 own : Int) (l0 : List Wd) (m : Nat) (l : List Wd) : expr_operator.L1 n (m + 10) own0 l0 own 7 6 (⟨#[42]⟩ : ByteArray) 8 6 (⟨#[47]⟩ : ByteArray) 9 6 (⟨#[37]⟩ : ByteArray) 10 5 (⟨#[43]⟩ : ByteArray) 11 5 (⟨#[45]⟩ : ByteArray) 12 4 (⟨#[60]⟩ : ByteArray) 13 4 (⟨#[60,61]⟩ : ByteArray) 14 4 (⟨#[62]⟩ : ByteArray) 15 4 (⟨#[62,61]⟩ : ByteArray) 16 4 (⟨#[61]⟩ : ByteArray) 17 4 (⟨#[33,61]⟩ : ByteArray) 18 2 (⟨#[97,110,100]⟩ : ByteArray) 19 1 (⟨#[111,114]⟩ : ByteArray) 4 l = (opP own (opsL.drop 4) l).bind (fun v : Int × Bool × List (W.den U0) => (some (.ret (.tup [.int .i64 v.1,.bool v.2.1]),lcRet [[.sl W (v.2.2) .no]] [] 0) : Option (Rr U0))) := by
 rw [expr_operator.L1_s,if_pos (by decide),if_neg (by decide),if_neg (by decide),if_neg (by decide),if_neg (by decide),if_neg (by decide),if_neg (by decide),if_neg (by decide),if_neg (by decide),if_pos (by decide),show IntKind.i64.wrap ((4 : Int) + 1) = 5 from wrL _ (by decide) (by decide)]
 simp only [expr_operator.h5,if_true]
 exact op_step own (11,5,(⟨#[45]⟩ : ByteArray)) (opsL.drop 5) l (fun v : Int × Bool × List (W.den U0) => (some (.ret (.tup [.int .i64 v.1,.bool v.2.1]),lcRet [[.sl W (v.2.2) .no]] [] 0) : Option (Rr U0)))
theorem expr_operator.h3 (n : Nat) (own0 own : Int) (l0 : List Wd) (m : Nat) (l : List Wd) : expr_operator.L1 n (m + 11) own0 l0 own 7 6 (⟨#[42]⟩ : ByteArray) 8 6 (⟨#[47]⟩ : ByteArray) 9 6 (⟨#[37]⟩ : ByteArray) 10 5 (⟨#[43]⟩ : ByteArray) 11 5 (⟨#[45]⟩ : ByteArray) 12 4 (⟨#[60]⟩ : ByteArray) 13 4 (⟨#[60,61]⟩ : ByteArray) 14 4 (⟨#[62]⟩ : ByteArray) 15 4 (⟨#[62,61]⟩ : ByteArray) 16 4 (⟨#[61]⟩ : ByteArray) 17 4 (⟨#[33,61]⟩ : ByteArray) 18 2 (⟨#[97,110,100]⟩ : ByteArray) 19 1 (⟨#[111,114]⟩ : ByteArray) 3 l = (opP own (opsL.drop 3) l).bind (fun v : Int × Bool × List (W.den U0) => (some (.ret (.tup [.int .i64 v.1,.bool v.2.1]),lcRet [[.sl W (v.2.2) .no]] [] 0) : Option (Rr U0))) := by
 rw [expr_operator.L1_s,if_pos (by decide),if_neg (by decide),if_neg (by decide),if_neg (by decide),if_neg (by decide),if_neg (by decide),if_neg (by decide),if_neg (by decide),if_neg (by decide),if_neg (by decide),if_pos (by decide),show IntKind.i64.wrap ((3 : Int) + 1) = 4 from wrL _ (by decide) (by decide)]
 simp only [expr_operator.h4,if_true]
 exact op_step own (10,5,(⟨#[43]⟩ : ByteArray)) (opsL.drop 4) l (fun v : Int × Bool × List (W.den U0) => (some (.ret (.tup [.int .i64 v.1,.bool v.2.1]),lcRet [[.sl W (v.2.2) .no]] [] 0) : Option (Rr U0)))
theorem expr_operator.h2 (n : Nat) (own0 own : Int) (l0 : List Wd) (m : Nat) (l : List Wd) : expr_operator.L1 n (m + 12) own0 l0 own 7 6 (⟨#[42]⟩ : ByteArray) 8 6 (⟨#[47]⟩ : ByteArray) 9 6 (⟨#[37]⟩ : ByteArray) 10 5 (⟨#[43]⟩ : ByteArray) 11 5 (⟨#[45]⟩ : ByteArray) 12 4 (⟨#[60]⟩ : ByteArray) 13 4 (⟨#[60,61]⟩ : ByteArray) 14 4 (⟨#[62]⟩ : ByteArray) 15 4 (⟨#[62,61]⟩ : ByteArray) 16 4 (⟨#[61]⟩ : ByteArray) 17 4 (⟨#[33,61]⟩ : ByteArray) 18 2 (⟨#[97,110,100]⟩ : ByteArray) 19 1 (⟨#[111,114]⟩ : ByteArray) 2 l = (opP own (opsL.drop 2) l).bind (fun v : Int × Bool × List (W.den U0) => (some (.ret (.tup [.int .i64 v.1,.bool v.2.1]),lcRet [[.sl W (v.2.2) .no]] [] 0) : Option (Rr U0))) := by
 rw [expr_operator.L1_s,if_pos (by decide),if_neg (by decide),if_neg (by decide),if_neg (by decide),if_neg (by decide),if_neg (by decide),if_neg (by decide),if_neg (by decide),if_neg (by decide),if_neg (by decide),if_neg (by decide),if_pos (by decide),show IntKind.i64.wrap ((2 : Int) + 1) = 3 from wrL _ (by decide) (by decide)]
 simp only [expr_operator.h3,if_true]
 exact op_step own (9,6,(⟨#[37]⟩ : ByteArray)) (opsL.drop 3) l (fun v : Int × Bool × List (W.den U0) => (some (.ret (.tup [.int .i64 v.1,.bool v.2.1]),lcRet [[.sl W (v.2.2) .no]] [] 0) : Option (Rr U0)))
theorem expr_operator.h1 (n : Nat) (own0 own : Int) (l0 : List Wd) (m : Nat) (l : List Wd) : expr_operator.L1 n (m + 13) own0 l0 own 7 6 (⟨#[42]⟩ : ByteArray) 8 6 (⟨#[47]⟩ : ByteArray) 9 6 (⟨#[37]⟩ : ByteArray) 10 5 (⟨#[43]⟩ : ByteArray) 11 5 (⟨#[45]⟩ : ByteArray) 12 4 (⟨#[60]⟩ : ByteArray) 13 4 (⟨#[60,61]⟩ : ByteArray) 14 4 (⟨#[62]⟩ : ByteArray) 15 4 (⟨#[62,61]⟩ : ByteArray) 16 4 (⟨#[61]⟩ : ByteArray) 17 4 (⟨#[33,61]⟩ : ByteArray) 18 2 (⟨#[97,110,100]⟩ : ByteArray) 19 1 (⟨#[111,114]⟩ : ByteArray) 1 l = (opP own (opsL.drop 1) l).bind (fun v : Int × Bool × List (W.den U0) => (some (.ret (.tup [.int .i64 v.1,.bool v.2.1]),lcRet [[.sl W (v.2.2) .no]] [] 0) : Option (Rr U0))) := by
 rw [expr_operator.L1_s,if_pos (by decide),if_neg (by decide),if_neg (by decide),if_neg (by decide),if_neg (by decide),if_neg (by decide),if_neg (by decide),if_neg (by decide),if_neg (by decide),if_neg (by decide),if_neg (by decide),if_neg (by decide),if_pos (by decide),show IntKind.i64.wrap ((1 : Int) + 1) = 2 from wrL _ (by decide) (by decide)]
 simp only [expr_operator.h2,if_true]
 exact op_step own (8,6,(⟨#[47]⟩ : ByteArray)) (opsL.drop 2) l (fun v : Int × Bool × List (W.den U0) => (some (.ret (.tup [.int .i64 v.1,.bool v.2.1]),lcRet [[.sl W (v.2.2) .no]] [] 0) : Option (Rr U0)))
theorem expr_operator.h0 (n : Nat) (own0 own : Int) (l0 : List Wd) (m : Nat) (l : List Wd) : expr_operator.L0 n (m + 14) own0 l0 own 7 6 (⟨#[42]⟩ : ByteArray) 8 6 (⟨#[47]⟩ : ByteArray) 9 6 (⟨#[37]⟩ : ByteArray) 10 5 (⟨#[43]⟩ : ByteArray) 11 5 (⟨#[45]⟩ : ByteArray) 12 4 (⟨#[60]⟩ : ByteArray) 13 4 (⟨#[60,61]⟩ : ByteArray) 14 4 (⟨#[62]⟩ : ByteArray) 15 4 (⟨#[62,61]⟩ : ByteArray) 16 4 (⟨#[61]⟩ : ByteArray) 17 4 (⟨#[33,61]⟩ : ByteArray) 18 2 (⟨#[97,110,100]⟩ : ByteArray) 19 1 (⟨#[111,114]⟩ : ByteArray) 0 l = (opP own (opsL.drop 0) l).bind (fun v : Int × Bool × List (W.den U0) => (some (.ret (.tup [.int .i64 v.1,.bool v.2.1]),lcRet [[.sl W (v.2.2) .no]] [] 0) : Option (Rr U0))) := by
 rw [expr_operator.L0_s,if_pos (by decide),if_neg (by decide),if_neg (by decide),if_neg (by decide),if_neg (by decide),if_neg (by decide),if_neg (by decide),if_neg (by decide),if_neg (by decide),if_neg (by decide),if_neg (by decide),if_neg (by decide),if_neg (by decide),if_pos (by decide),show IntKind.i64.wrap ((0 : Int) + 1) = 1 from wrL _ (by decide) (by decide)]
 simp only [expr_operator.h1,if_true]
 exact op_step own (7,6,(⟨#[42]⟩ : ByteArray)) (opsL.drop 1) l (fun v : Int × Bool × List (W.den U0) => (some (.ret (.tup [.int .i64 v.1,.bool v.2.1]),lcRet [[.sl W (v.2.2) .no]] [] 0) : Option (Rr U0)))
theorem expr_operator.ev (own : Int) (l : List (W.den U0)) (v : Int × Bool × List (W.den U0)) (h : (opP own opsL l) = some v) : ∃ m,callX false (fnF cx_expr_operator noCalls m 40) [.ptr 0 0,.int .i64 own] (lcSt [[.sl W l .no]] 0) out = some (.ret (.tup [.int .i64 v.1,.bool v.2.1]),lcRet [[.sl W (v.2.2) .no]] [] 0) := by
 refine ⟨14,?_⟩
 rw [expr_operator.top]
 show _ = Option.bind (some v) (fun v : Int × Bool × List (W.den U0) => (some (.ret (.tup [.int .i64 v.1,.bool v.2.1]),lcRet [[.sl W (v.2.2) .no]] [] 0) : Option (Rr U0)))
 rw [← h]
 exact expr_operator.h0 14 own own l 0 l
theorem expr_operator.ok : AllOk specs_expr_operator := allOk_cons expr_operators.ok (fnOk_of (by kernel_rfl)) (sealed_of (kp := false) (ok_ext _) (cok_of expr_operators.ok) fun args cs n K r h => by
 unfold expr_operator.spec at h
 dsimp only [lcSt] at h
 split at h
 · obtain ⟨v,h1,h2⟩ := bind2 h
   obtain ⟨m,h4⟩ := expr_operator.ev _ _ v h1
   exact ⟨m,_,_,h4,h2⟩
 · cases h)
theorem expr_part.ev (k : Nat) (l : List (W.den U0)) (v : Bool × Node × List (W.den U0)) (h : (partK k l) = some v) : ∃ m,callX false (fnF cx_expr_part (expr_part.rec k) m 39) [.ptr 0 0] (lcSt [[.sl W l .no]] 0) out = (if v.1 = true then some (.ret (.agg (C0.flat 0 (v.2.1))),lcRet [[.sl W (v.2.2) .no]] [] 0) else some (.pan (.iface 57 (.agg [])),lcRet [[.sl W (v.2.2) .no]] [] 0)) := by
 refine ⟨0,?_⟩
 rw [expr_part.top]
 show _ = Option.bind (some v) (fun v : Bool × Node × List (W.den U0) => ((if v.1 = true then some (.ret (.agg (C0.flat 0 (v.2.1))),lcRet [[.sl W (v.2.2) .no]] [] 0) else some (.pan (.iface 57 (.agg [])),lcRet [[.sl W (v.2.2) .no]] [] 0)) : Option (Rr U0)))
 rw [← h]
 unfold partK partP thenP mustP
 cases l with
 | nil => rfl
 | cons w r =>
  simp only [nth,Option.bind_some,beq_iff_eq,ttt,bind_ite,Option.bind_assoc,decide_eq_true_eq,List.drop_succ_cons,List.drop_zero,Bool.false_eq_true,if_true,if_false]
  rfl
theorem expr_part.step (k : Nat) (h0 : CallOkL Tryz.prog C0 23 (expr_expression.specR k)) : CallOkL Tryz.prog C0 39 (expr_part.specR k) :=
 sealed_of (kp := false) (ok_ext _) (rec_cok (l := [(23,expr_expression.specR k)]) expr_operator.ok (fun x hx => by
  obtain rfl := List.mem_singleton.1 hx
  exact ⟨fnOk_of (by kernel_rfl),h0⟩)) fun args cs n K r h => by
  unfold expr_part.specR at h
  dsimp only [lcSt] at h
  split at h
  · obtain ⟨v,h1,h2⟩ := bind2 h
    obtain ⟨m,h4⟩ := expr_part.ev k _ v h1
    by_cases hv : v.1 = true
    · rw [if_pos hv] at h4 h2; exact ⟨m,_,_,h4,h2⟩
    · rw [if_neg hv] at h4 h2; exact ⟨m,_,_,h4,h2⟩
  · cases h
theorem nd_x (n : Node) : Node.mk (n.x.1,(n.x.2.1.1,n.x.2.1.2.1,n.x.2.1.2.2.1,n.x.2.1.2.2.2),n.x.2.2.1,n.x.2.2.2.1,n.x.2.2.2.2) = n := by cases n; rfl
theorem expr_expression.l1 (n k : Nat) (own0 own : Int) (l0 : List Wd) (r2 r3 r4 : Int) (r5 : Bool) (r6 r7 : ByteArray) (r8 : Int) (r9 : List Node) : ∀ (j m : Nat) (t : Node) (l : List Wd) (v : Bool × Node × List Wd),j ≤ m → loopP (exprP k) own j t l = some v →
 expr_expression.L1 n m k own0 l0 own l r2 r3 r4 r5 r6 r7 r8 r9 t.x.1 t.x.2.1.1 t.x.2.1.2.1 t.x.2.1.2.2.1 t.x.2.1.2.2.2 t.x.2.2.1 t.x.2.2.2.1 t.x.2.2.2.2 = (fun v : Bool × Node × List (W.den U0) => ((if v.1 = true then some (.ret (.agg (C0.flat 0 (v.2.1))),lcRet [[.sl W (v.2.2) .no]] [] 0) else some (.pan (.iface 57 (.agg [])),lcRet [[.sl W (v.2.2) .no]] [] 0)) : Option (Rr U0))) v := by
 intro j
 induction j with
 | zero => intro m t l v _ h; simp [loopP] at h
 | succ j ih =>
  intro m t l v hm h
  obtain ⟨m,rfl⟩ : ∃ m',m = m' + 1 := ⟨m - 1,by omega⟩
  rw [loopP] at h
  rw [expr_expression.L1_s]
  obtain ⟨a,h1,h2⟩ := bind2 h
  rw [h1,Option.bind_some]
  by_cases ha : a.2.1 = true
  · rw [if_pos ha] at h2
    rw [if_neg (by simp [ha])]
    unfold thenP at h2
    obtain ⟨b,h3,h4⟩ := bind2 h2
    rw [h3,Option.bind_some]
    by_cases hb : b.1 = true
    · rw [if_pos hb] at h4
      dsimp only at h4
      rw [if_pos hb]
      by_cases hc : own = 4
      · rw [if_pos hc] at h4
        rw [if_pos (by simp [hc])]
        obtain rfl := Option.some.inj h4
        rw [nd_x,nd_x]
        rfl
      · rw [if_neg hc] at h4
        rw [if_neg (by simp [hc]),nd_x,nd_x]
        exact ih m _ _ v (by omega) h4
    · rw [if_neg hb] at h4
      rw [if_neg hb]
      obtain rfl := Option.some.inj h4
      rfl
  · rw [if_neg ha] at h2
    rw [if_pos (by simp [ha])]
    obtain rfl := Option.some.inj h2
    rfl
theorem expr_expression.l0 (n k : Nat) (own0 own : Int) (l0 : List Wd) (r2 r3 r4 : Int) (r5 : Bool) (r6 r7 : ByteArray) (r8 : Int) (r9 : List Node) (m : Nat) (t : Node) (l : List Wd) :
 expr_expression.L0 n (m + 1) k own0 l0 own l r2 r3 r4 r5 r6 r7 r8 r9 t.x.1 t.x.2.1.1 t.x.2.1.2.1 t.x.2.1.2.2.1 t.x.2.1.2.2.2 t.x.2.2.1 t.x.2.2.2.1 t.x.2.2.2.2 = expr_expression.L1 n (m + 1) k own0 l0 own l r2 r3 r4 r5 r6 r7 r8 r9 t.x.1 t.x.2.1.1 t.x.2.1.2.1 t.x.2.1.2.2.1 t.x.2.1.2.2.2 t.x.2.2.1 t.x.2.2.2.1 t.x.2.2.2.2 := by
 rw [expr_expression.L0_s,expr_expression.L1_s]
theorem expr_expression.ev (k : Nat) (own : Int) (l : List (W.den U0)) (v : Bool × Node × List (W.den U0)) (h : (exprP (k + 1) own l) = some v) : ∃ m,callX false (fnF cx_expr_expression (expr_expression.rec k) m 23) [.ptr 0 0,.int .i64 own] (lcSt [[.sl W l .no]] 0) out = (if v.1 = true then some (.ret (.agg (C0.flat 0 (v.2.1))),lcRet [[.sl W (v.2.2) .no]] [] 0) else some (.pan (.iface 57 (.agg [])),lcRet [[.sl W (v.2.2) .no]] [] 0)) := by
 rw [exprP] at h
 by_cases h3 : own = 3
 · rw [if_pos h3] at h
   obtain ⟨a,ha,h⟩ := bind2 h
   by_cases ha1 : a.1 = true
   · rw [if_pos ha1] at h
     obtain ⟨b,hb,h⟩ := bind2 h
     refine ⟨0,?_⟩
     rw [expr_expression.top,if_pos (by simp [h3]),ha,Option.bind_some,if_pos ha1,hb,Option.bind_some]
     by_cases hb1 : b.1 = true
     · rw [if_pos hb1] at h
       dsimp only at h
       obtain rfl := Option.some.inj h
       rw [if_pos hb1,nd_x]
       rfl
     · rw [if_neg hb1] at h
       obtain rfl := Option.some.inj h
       rw [if_neg hb1]
       rfl
   · rw [if_neg ha1] at h
     unfold exprB at h
     obtain ⟨b,hb,h⟩ := bind2 h
     refine ⟨b.2.2.length + 1,?_⟩
     rw [expr_expression.top,if_pos (by simp [h3]),ha,Option.bind_some,if_neg ha1,hb,Option.bind_some]
     by_cases hb1 : b.1 = true
     · rw [if_pos hb1] at h
       dsimp only at h
       rw [if_pos hb1,expr_expression.l0,expr_expression.l1 _ _ _ _ _ _ _ _ _ _ _ _ _ _ _ _ _ v (Nat.le_refl _) h]
     · rw [if_neg hb1] at h
       obtain rfl := Option.some.inj h
       rw [if_neg hb1]
       rfl
 rw [if_neg h3] at h
 by_cases h7 : own = 7
 · rw [if_pos h7] at h
   obtain ⟨a,ha,h⟩ := bind2 h
   refine ⟨0,?_⟩
   rw [expr_expression.top,if_neg (by simp [h3]),if_pos (by simp [h7]),ha,Option.bind_some]
   by_cases ha1 : a.1 = true
   · rw [if_pos ha1] at h
     obtain ⟨b,hb,h⟩ := bind2 h
     rw [if_pos ha1,hb,Option.bind_some]
     by_cases hb1 : b.1 = true
     · rw [if_pos hb1] at h
       dsimp only at h
       obtain rfl := Option.some.inj h
       rw [if_pos hb1,nd_x]
       rfl
     · rw [if_neg hb1] at h
       obtain rfl := Option.some.inj h
       rw [if_neg hb1]
       rfl
   · rw [if_neg ha1] at h
     rw [if_neg ha1,show partK k a.2 = some v from h]
     rfl
 rw [if_neg h7] at h
 unfold exprB at h
 obtain ⟨b,hb,h⟩ := bind2 h
 refine ⟨b.2.2.length + 1,?_⟩
 rw [expr_expression.top,if_neg (by simp [h3]),if_neg (by simp [h7]),hb,Option.bind_some]
 by_cases hb1 : b.1 = true
 · rw [if_pos hb1] at h
   dsimp only at h
   rw [if_pos hb1,expr_expression.l0,expr_expression.l1 _ _ _ _ _ _ _ _ _ _ _ _ _ _ _ _ _ v (Nat.le_refl _) h]
 · rw [if_neg hb1] at h
   obtain rfl := Option.some.inj h
   rw [if_neg hb1]
   rfl
theorem expr_expression.step (k : Nat) (h0 : CallOkL Tryz.prog C0 23 (expr_expression.specR k)) (h1 : CallOkL Tryz.prog C0 39 (expr_part.specR k)) : CallOkL Tryz.prog C0 23 (expr_expression.specR (k + 1)) :=
 sealed_of (kp := false) (ok_ext _) (rec_cok (l := [(23,expr_expression.specR k),(39,expr_part.specR k)]) expr_operator.ok (fun x hx => by
  rcases List.mem_cons.1 hx with rfl | hx
  · exact ⟨fnOk_of (by kernel_rfl),h0⟩
  obtain rfl := List.mem_singleton.1 hx
  exact ⟨fnOk_of (by kernel_rfl),h1⟩)) fun args cs n K r h => by
  unfold expr_expression.specR at h
  dsimp only [lcSt] at h
  split at h
  · obtain ⟨v,h1,h2⟩ := bind2 h
    obtain ⟨m,h4⟩ := expr_expression.ev k _ _ v h1
    by_cases hv : v.1 = true
    · rw [if_pos hv] at h4 h2; exact ⟨m,_,_,h4,h2⟩
    · rw [if_neg hv] at h4 h2; exact ⟨m,_,_,h4,h2⟩
  · cases h
theorem expr_expression.zero : CallOkL Tryz.prog C0 23 (expr_expression.specR 0) := fun args cs n K r h => by
 unfold expr_expression.specR at h
 dsimp only [lcSt] at h
 split at h
 · obtain ⟨v,h1,h2⟩ := bind2 h
   exact absurd h1 (by first | (simp [exprP]; done) | (unfold exprP; simp))
 · cases h
theorem expr_expression.recOk : ∀ k,CallOkL Tryz.prog C0 23 (expr_expression.specR k)
 | 0 => expr_expression.zero
 | k + 1 => expr_expression.step k (expr_expression.recOk k) (expr_part.step k (expr_expression.recOk k))
theorem expr_part.recOk (k : Nat) : CallOkL Tryz.prog C0 39 (expr_part.specR k) := expr_part.step k (expr_expression.recOk k)
theorem expr_part.ok : AllOk specs_expr_part := allOk_cons expr_operator.ok (fnOk_of (by kernel_rfl)) fun args cs n K r h => by
 unfold expr_part.spec at h
 dsimp only [lcSt] at h
 split at h
 · rename_i l
   refine expr_part.recOk (9*l.length+9) _ _ _ K r ?_
   unfold expr_part.specR
   exact h
 · cases h
theorem expr_expression.ok : AllOk specs_expr_expression := allOk_cons expr_part.ok (fnOk_of (by kernel_rfl)) fun args cs n K r h => by
 unfold expr_expression.spec at h
 dsimp only [lcSt] at h
 split at h
 · rename_i own l
   refine expr_expression.recOk (9*l.length+9) _ _ _ K r ?_
   unfold expr_expression.specR
   exact h
 · cases h
theorem expr_Depth.l1 (n k : Nat) (a0 a1 a2 : Int) (a3 : Bool) (a4 a5 : ByteArray) (a6 : Int) (a7 : List Node) (b0 b1 b2 : Int) (b3 : Bool) (b4 b5 : ByteArray) (b6 : Int) (b7 : List Node) (l : List Node) (hl : l.length ≤ 1000000) : ∀ (j m : Nat) (d i v : Int),0 ≤ i → j + i = l.length → j + 1 ≤ m → deepL (fun n => deepP k n.x.2.2.2.2) (l.drop i.toNat) d = some v →
 expr_Depth.L1 n m k a0 a1 a2 a3 a4 a5 a6 a7 d l l.length i b0 b1 b2 b3 b4 b5 b6 b7 = some (.ret (.int .i64 v),lcRet [] [] 0) := by
 intro j
 induction j with
 | zero =>
  intro m d i v h0 h1 h2 h
  obtain ⟨m,rfl⟩ : ∃ m',m = m' + 1 := ⟨m - 1,by omega⟩
  rw [List.drop_eq_nil_of_le (by omega),deepL] at h
  obtain rfl := Option.some.inj h
  rw [expr_Depth.L1_s,if_neg (by simp; omega)]
 | succ j ih =>
  intro m d i v h0 h1 h2 h
  obtain ⟨m,rfl⟩ : ∃ m',m = m' + 1 := ⟨m - 1,by omega⟩
  have hlt : i.toNat < l.length := by omega
  rw [List.drop_eq_getElem_cons hlt,deepL] at h
  obtain ⟨e,h3,h4⟩ := bind2 h
  rw [expr_Depth.L1_s,if_pos (by simp; omega),if_pos h0,nth_at hlt,Option.bind_some,h3,Option.bind_some,wrS i h0 (by omega)]
  refine ih m _ (i + 1) v (by omega) (by omega) (by omega) ?_
  rw [show (i + 1).toNat = i.toNat + 1 from by omega]
  exact h4
theorem expr_Depth.ev (k : Nat) (a0 : Int) (a1 : Int) (a2 : Int) (a3 : Bool) (a4 : ByteArray) (a5 : ByteArray) (a6 : Int) (a7 : List (Node)) (v : Int) (h : (deepP (k + 1) a7) = some v) : ∃ m,callX false (fnF cx_expr_Depth (expr_Depth.rec k) m 26) [.agg [.int .i64 a0,.int .i64 a1,.int .i64 a2,.bool a3,.str a4,.str a5,.int .i64 a6,.sl (.user 0) a7 .no]] (lcSt [] 0) out = some (.ret (.int .i64 v),lcRet [] [] 0) := by
 rw [deepP] at h
 split at h
 · rename_i hl
   refine ⟨a7.length + 1,?_⟩
   rw [expr_Depth.top,expr_Depth.L0_s,← expr_Depth.L1_s]
   exact expr_Depth.l1 _ _ _ _ _ _ _ _ _ _ _ _ _ _ _ _ _ _ a7 hl a7.length _ 0 0 v (by omega) (by omega) (Nat.le_refl _) h
 · cases h
theorem expr_Depth.step (k : Nat) (h0 : CallOkL Tryz.prog C0 26 (expr_Depth.specR k)) : CallOkL Tryz.prog C0 26 (expr_Depth.specR (k + 1)) :=
 sealed_of (kp := false) (ok_ext _) (rec_cok (l := [(26,expr_Depth.specR k)]) expr_expression.ok (fun x hx => by
  obtain rfl := List.mem_singleton.1 hx
  exact ⟨fnOk_of (by kernel_rfl),h0⟩)) fun args cs n K r h => by
  unfold expr_Depth.specR at h
  dsimp only [lcSt] at h
  split at h
  · obtain ⟨v,h1,h2⟩ := bind2 h
    obtain ⟨m,h4⟩ := expr_Depth.ev k _ _ _ _ _ _ _ _ v h1
    exact ⟨m,_,_,h4,h2⟩
  · cases h
theorem expr_Depth.zero : CallOkL Tryz.prog C0 26 (expr_Depth.specR 0) := fun args cs n K r h => by
 unfold expr_Depth.specR at h
 dsimp only [lcSt] at h
 split at h
 · obtain ⟨v,h1,h2⟩ := bind2 h
   exact absurd h1 (by first | (simp [deepP]; done) | (unfold deepP; simp))
 · cases h
theorem expr_Depth.recOk : ∀ k,CallOkL Tryz.prog C0 26 (expr_Depth.specR k)
 | 0 => expr_Depth.zero
 | k + 1 => expr_Depth.step k (expr_Depth.recOk k)
theorem expr_Depth.ok : AllOk specs_expr_Depth := allOk_cons expr_expression.ok (fnOk_of (by kernel_rfl)) fun args cs n K r h => by
 unfold expr_Depth.spec at h
 dsimp only [lcSt] at h
 split at h
 · rename_i a0 a1 a2 a3 a4 a5 a6 a7
   refine expr_Depth.recOk (big a7) _ _ _ K r ?_
   unfold expr_Depth.specR
   exact h
 · cases h
theorem ref_Depth.l1 (n k : Nat) (a0 a1 a2 : Int) (a3 : Bool) (a4 a5 : ByteArray) (a6 : Int) (a7 : List Node) (b0 b1 b2 : Int) (b3 : Bool) (b4 b5 : ByteArray) (b6 : Int) (b7 : List Node) (l : List Node) (hl : l.length ≤ 1000000) : ∀ (j m : Nat) (d i v : Int),0 ≤ i → j + i = l.length → j + 1 ≤ m → deepL (fun n => deepP k n.x.2.2.2.2) (l.drop i.toNat) d = some v →
 ref_Depth.L1 n m k a0 a1 a2 a3 a4 a5 a6 a7 d l l.length i b0 b1 b2 b3 b4 b5 b6 b7 = some (.ret (.int .i64 v),lcRet [] [] 0) := by
 intro j
 induction j with
 | zero =>
  intro m d i v h0 h1 h2 h
  obtain ⟨m,rfl⟩ : ∃ m',m = m' + 1 := ⟨m - 1,by omega⟩
  rw [List.drop_eq_nil_of_le (by omega),deepL] at h
  obtain rfl := Option.some.inj h
  rw [ref_Depth.L1_s,if_neg (by simp; omega)]
 | succ j ih =>
  intro m d i v h0 h1 h2 h
  obtain ⟨m,rfl⟩ : ∃ m',m = m' + 1 := ⟨m - 1,by omega⟩
  have hlt : i.toNat < l.length := by omega
  rw [List.drop_eq_getElem_cons hlt,deepL] at h
  obtain ⟨e,h3,h4⟩ := bind2 h
  rw [ref_Depth.L1_s,if_pos (by simp; omega),if_pos h0,nth_at hlt,Option.bind_some,h3,Option.bind_some,wrS i h0 (by omega)]
  refine ih m _ (i + 1) v (by omega) (by omega) (by omega) ?_
  rw [show (i + 1).toNat = i.toNat + 1 from by omega]
  exact h4
theorem ref_Depth.ev (k : Nat) (a0 : Int) (a1 : Int) (a2 : Int) (a3 : Bool) (a4 : ByteArray) (a5 : ByteArray) (a6 : Int) (a7 : List (Node)) (v : Int) (h : (deepP (k + 1) a7) = some v) : ∃ m,callX false (fnF cx_ref_Depth (ref_Depth.rec k) m 31) [.agg [.int .i64 a0,.int .i64 a1,.int .i64 a2,.bool a3,.str a4,.str a5,.int .i64 a6,.sl (.user 0) a7 .no]] (lcSt [] 0) out = some (.ret (.int .i64 v),lcRet [] [] 0) := by
 rw [deepP] at h
 split at h
 · rename_i hl
   refine ⟨a7.length + 1,?_⟩
   rw [ref_Depth.top,ref_Depth.L0_s,← ref_Depth.L1_s]
   exact ref_Depth.l1 _ _ _ _ _ _ _ _ _ _ _ _ _ _ _ _ _ _ a7 hl a7.length _ 0 0 v (by omega) (by omega) (Nat.le_refl _) h
 · cases h
theorem ref_Depth.step (k : Nat) (h0 : CallOkL Tryz.prog C0 31 (ref_Depth.specR k)) : CallOkL Tryz.prog C0 31 (ref_Depth.specR (k + 1)) :=
 sealed_of (kp := false) (ok_ext _) (rec_cok (l := [(31,ref_Depth.specR k)]) expr_Depth.ok (fun x hx => by
  obtain rfl := List.mem_singleton.1 hx
  exact ⟨fnOk_of (by kernel_rfl),h0⟩)) fun args cs n K r h => by
  unfold ref_Depth.specR at h
  dsimp only [lcSt] at h
  split at h
  · obtain ⟨v,h1,h2⟩ := bind2 h
    obtain ⟨m,h4⟩ := ref_Depth.ev k _ _ _ _ _ _ _ _ v h1
    exact ⟨m,_,_,h4,h2⟩
  · cases h
theorem ref_Depth.zero : CallOkL Tryz.prog C0 31 (ref_Depth.specR 0) := fun args cs n K r h => by
 unfold ref_Depth.specR at h
 dsimp only [lcSt] at h
 split at h
 · obtain ⟨v,h1,h2⟩ := bind2 h
   exact absurd h1 (by first | (simp [deepP]; done) | (unfold deepP; simp))
 · cases h
theorem ref_Depth.recOk : ∀ k,CallOkL Tryz.prog C0 31 (ref_Depth.specR k)
 | 0 => ref_Depth.zero
 | k + 1 => ref_Depth.step k (ref_Depth.recOk k)
theorem ref_Depth.ok : AllOk specs_ref_Depth := allOk_cons expr_Depth.ok (fnOk_of (by kernel_rfl)) fun args cs n K r h => by
 unfold ref_Depth.spec at h
 dsimp only [lcSt] at h
 split at h
 · rename_i a0 a1 a2 a3 a4 a5 a6 a7
   refine ref_Depth.recOk (big a7) _ _ _ K r ?_
   unfold ref_Depth.specR
   exact h
 · cases h
theorem ref_is.ev (s : ByteArray) (l : List (W.den U0)) (q : Bool) (v : Bool) (h : (atP s l) = some v) : ∃ m,callX false (fnF cx_ref_is noCalls m 96) [.ptr 0 0,.str s] (lcSt [[.sl W l .no,.bool q]] 0) out = some (.ret (.bool v),lcRet [[.sl W l .no,.bool q]] [] 0) := by
 refine ⟨0,?_⟩
 rw [ref_is.top]
 show _ = Option.bind (some v) (fun v : Bool => (some (.ret (.bool v),lcRet [[.sl W l .no,.bool q]] [] 0) : Option (Rr U0)))
 rw [← h]
 unfold atP
 cases l with
 | nil => rfl
 | cons w r =>
  simp only [nth,Option.bind_some,Int.toNat_zero]
  unfold isW
  by_cases h1 : seq w.2.1 s = true <;> by_cases h2 : w.1 = 4 <;> by_cases h3 : w.1 = 1 <;> simp [h1,h2,h3]
theorem ref_is.ok : AllOk specs_ref_is := allOk_cons ref_Depth.ok (fnOk_of (by kernel_rfl)) (sealed_of (kp := false) (ok_ext _) (cok_of ref_Depth.ok) fun args cs n K r h => by
 unfold ref_is.spec at h
 dsimp only [lcSt] at h
 split at h
 · obtain ⟨v,h1,h2⟩ := bind2 h
   obtain ⟨m,h4⟩ := ref_is.ev _ _ _ v h1
   exact ⟨m,_,_,h4,h2⟩
 · cases h)
theorem ref_take.ev (s : ByteArray) (l : List (W.den U0)) (q : Bool) (v : Bool × List (W.den U0) × Bool) (h : (takeR s l q) = some v) : ∃ m,callX false (fnF cx_ref_take noCalls m 47) [.ptr 0 0,.str s] (lcSt [[.sl W l .no,.bool q]] 0) out = some (.ret (.bool v.1),lcRet [[.sl W (v.2.1) .no,.bool (v.2.2)]] [] 0) := by
 refine ⟨0,?_⟩
 rw [ref_take.top]
 show _ = Option.bind (some v) (fun v : Bool × List (W.den U0) × Bool => (some (.ret (.bool v.1),lcRet [[.sl W (v.2.1) .no,.bool (v.2.2)]] [] 0) : Option (Rr U0)))
 rw [← h]
 unfold takeR atP
 cases l with
 | nil => rfl
 | cons w r =>
  simp only [nth,Option.bind_some]
  by_cases h1 : isW s w = true <;> simp [h1] <;> omega
theorem ref_take.ok : AllOk specs_ref_take := allOk_cons ref_is.ok (fnOk_of (by kernel_rfl)) (sealed_of (kp := false) (ok_ext _) (cok_of ref_is.ok) fun args cs n K r h => by
 unfold ref_take.spec at h
 dsimp only [lcSt] at h
 split at h
 · obtain ⟨v,h1,h2⟩ := bind2 h
   obtain ⟨m,h4⟩ := ref_take.ev _ _ _ v h1
   exact ⟨m,_,_,h4,h2⟩
 · cases h)
theorem ref_need.ev (s : ByteArray) (l : List (W.den U0)) (q : Bool) (v : List (W.den U0) × Bool) (h : (needR s l q) = some v) : ∃ m,callX false (fnF cx_ref_need noCalls m 127) [.ptr 0 0,.str s] (lcSt [[.sl W l .no,.bool q]] 0) out = some (.ret (.tup []),lcRet [[.sl W (v.1) .no,.bool (v.2)]] [] 0) := by
 refine ⟨0,?_⟩
 rw [ref_need.top]
 show _ = Option.bind (some v) (fun v : List (W.den U0) × Bool => (some (.ret (.tup []),lcRet [[.sl W (v.1) .no,.bool (v.2)]] [] 0) : Option (Rr U0)))
 rw [← h]
 unfold needR
 rw [Option.bind_assoc]
 congr 1
 funext a
 by_cases h1 : a.1 = true <;> simp [h1]
theorem ref_need.ok : AllOk specs_ref_need := allOk_cons ref_take.ok (fnOk_of (by kernel_rfl)) (sealed_of (kp := false) (ok_ext _) (cok_of ref_take.ok) fun args cs n K r h => by
 unfold ref_need.spec at h
 dsimp only [lcSt] at h
 split at h
 · obtain ⟨v,h1,h2⟩ := bind2 h
   obtain ⟨m,h4⟩ := ref_need.ev _ _ _ v h1
   exact ⟨m,_,_,h4,h2⟩
 · cases h)
theorem ref_name.ev (l : List (W.den U0)) (q : Bool) (v : ByteArray × List (W.den U0) × Bool) (h : (nameR l q) = some v) : ∃ m,callX false (fnF cx_ref_name noCalls m 129) [.ptr 0 0] (lcSt [[.sl W l .no,.bool q]] 0) out = some (.ret (.str v.1),lcRet [[.sl W (v.2.1) .no,.bool (v.2.2)]] [] 0) := by
 refine ⟨0,?_⟩
 rw [ref_name.top]
 show _ = Option.bind (some v) (fun v : ByteArray × List (W.den U0) × Bool => (some (.ret (.str v.1),lcRet [[.sl W (v.2.1) .no,.bool (v.2.2)]] [] 0) : Option (Rr U0)))
 rw [← h]
 unfold nameR
 cases l with
 | nil => rfl
 | cons w r =>
  simp only [nth,Option.bind_some,Int.toNat_zero]
  by_cases h1 : w.1 = 1 <;> by_cases h2 : kwP w.2.1 = true <;> simp [h1,h2] <;> omega
theorem ref_name.ok : AllOk specs_ref_name := allOk_cons ref_need.ok (fnOk_of (by kernel_rfl)) (sealed_of (kp := false) (ok_ext _) (cok_of ref_need.ok) fun args cs n K r h => by
 unfold ref_name.spec at h
 dsimp only [lcSt] at h
 split at h
 · obtain ⟨v,h1,h2⟩ := bind2 h
   obtain ⟨m,h4⟩ := ref_name.ev _ _ v h1
   exact ⟨m,_,_,h4,h2⟩
 · cases h)
theorem ref_path.l1 (n : Nat) (l0 : List Wd) (q0 : Bool) : ∀ (k m : Nat) (t : ByteArray) (l : List Wd) (q : Bool),k ≤ m → ∀ v,moreR k t l q = some v → ref_path.L1 n m l0 q0 t l q = (fun v : ByteArray × List (W.den U0) × Bool => (some (.ret (.str v.1),lcRet [[.sl W (v.2.1) .no,.bool (v.2.2)]] [] 0) : Option (Rr U0))) v := by
 intro k
 induction k with
 | zero => intro m t l q _ v h; simp [moreR] at h
 | succ k ih =>
  intro m t l q hk v h
  obtain ⟨m,rfl⟩ : ∃ m',m = m' + 1 := ⟨m - 1,by omega⟩
  rw [moreR] at h
  rw [ref_path.L1_s]
  by_cases hq : q = true
  · rw [if_pos hq] at h
    obtain rfl := Option.some.inj h
    rw [if_neg (by simp [hq])]
  rw [if_neg hq] at h
  rw [if_pos (by simp [hq])]
  obtain ⟨a,h1,h2⟩ := bind2 h
  rw [h1,Option.bind_some]
  by_cases ha : a.1 = true
  · rw [if_pos ha] at h2
    rw [if_pos (by simp [ha])]
    obtain ⟨b,h3,h4⟩ := bind2 h2
    rw [h3,Option.bind_some]
    by_cases hb : ((⟨#[46]⟩ : ByteArray)).size + b.1.size ≤ 9223372036854775807
    · rw [if_pos hb] at h4 ⊢
      by_cases hc : t.size + ((⟨#[46]⟩ : ByteArray) ++ b.1).size ≤ 9223372036854775807
      · rw [if_pos hc] at h4 ⊢
        exact ih m _ _ _ (by omega) v h4
      · rw [if_neg hc] at h4; cases h4
    · rw [if_neg hb] at h4; cases h4
  · rw [if_neg ha] at h2
    rw [if_neg (by simp [ha])]
    obtain rfl := Option.some.inj h2
    rfl
theorem ref_path.ev (l : List (W.den U0)) (q : Bool) (v : ByteArray × List (W.den U0) × Bool) (h : (pathRQ l q) = some v) : ∃ m,callX false (fnF cx_ref_path noCalls m 128) [.ptr 0 0] (lcSt [[.sl W l .no,.bool q]] 0) out = some (.ret (.str v.1),lcRet [[.sl W (v.2.1) .no,.bool (v.2.2)]] [] 0) := by
 refine ⟨l.length + 1,?_⟩
 unfold pathRQ pathR at h
 obtain ⟨b,h1,h2⟩ := bind2 h
 rw [ref_path.top,h1,Option.bind_some,ref_path.L0_s,← ref_path.L1_s,ref_path.l1 _ _ _ _ _ _ _ _ (Nat.le_refl _) v h2]
theorem ref_path.ok : AllOk specs_ref_path := allOk_cons ref_name.ok (fnOk_of (by kernel_rfl)) (sealed_of (kp := false) (ok_ext _) (cok_of ref_name.ok) fun args cs n K r h => by
 unfold ref_path.spec at h
 dsimp only [lcSt] at h
 split at h
 · obtain ⟨v,h1,h2⟩ := bind2 h
   obtain ⟨m,h4⟩ := ref_path.ev _ _ v h1
   exact ⟨m,_,_,h4,h2⟩
 · cases h)
theorem ref_tight.ev (op : Int) (v : Int) (h : (some (tightP op)) = some v) : ∃ m,callX false (fnF cx_ref_tight noCalls m 98) [.int .i64 op] (lcSt [] 0) out = some (.ret (.int .i64 v),lcRet [] [] 0) := by
 obtain rfl := Option.some.inj h
 refine ⟨0,?_⟩
 rw [ref_tight.top]
 unfold tightP
 simp only [ite_or,beq_iff_eq]
 repeat' split
 all_goals first | rfl | omega
theorem ref_tight.ok : AllOk specs_ref_tight := allOk_cons ref_path.ok (fnOk_of (by kernel_rfl)) (sealed_of (kp := false) (ok_ext _) (cok_of ref_path.ok) fun args cs n K r h => by
 unfold ref_tight.spec at h
 dsimp only [lcSt] at h
 split at h
 · obtain ⟨v,h1,h2⟩ := bind2 h
   obtain ⟨m,h4⟩ := ref_tight.ev _ v h1
   exact ⟨m,_,_,h4,h2⟩
 · cases h)
theorem ref_sign.ev (op : Int) (v : ByteArray) (h : (some (signP op)) = some v) : ∃ m,callX false (fnF cx_ref_sign noCalls m 99) [.int .i64 op] (lcSt [] 0) out = some (.ret (.str v),lcRet [] [] 0) := by
 obtain rfl := Option.some.inj h
 refine ⟨0,?_⟩
 rw [ref_sign.top]
 unfold signP
 simp only [beq_iff_eq]
 by_cases h19 : op = 19
 · rw [if_pos h19,if_pos h19]
 rw [if_neg h19,if_neg h19]
 by_cases h18 : op = 18
 · rw [if_pos h18,if_pos h18]
 rw [if_neg h18,if_neg h18]
 by_cases h12 : op = 12
 · rw [if_pos h12,if_pos h12]
 rw [if_neg h12,if_neg h12]
 by_cases h13 : op = 13
 · rw [if_pos h13,if_pos h13]
 rw [if_neg h13,if_neg h13]
 by_cases h14 : op = 14
 · rw [if_pos h14,if_pos h14]
 rw [if_neg h14,if_neg h14]
 by_cases h15 : op = 15
 · rw [if_pos h15,if_pos h15]
 rw [if_neg h15,if_neg h15]
 by_cases h16 : op = 16
 · rw [if_pos h16,if_pos h16]
 rw [if_neg h16,if_neg h16]
 by_cases h17 : op = 17
 · rw [if_pos h17,if_pos h17]
 rw [if_neg h17,if_neg h17]
 by_cases h10 : op = 10
 · rw [if_pos h10,if_pos h10]
 rw [if_neg h10,if_neg h10]
 by_cases h11 : op = 11
 · rw [if_pos h11,if_pos h11]
 rw [if_neg h11,if_neg h11]
 by_cases h7 : op = 7
 · rw [if_pos h7,if_pos h7]
 rw [if_neg h7,if_neg h7]
 by_cases h8 : op = 8
 · rw [if_pos h8,if_pos h8]
 rw [if_neg h8,if_neg h8]
 by_cases h9 : op = 9
 · rw [if_pos h9,if_pos h9]
 rw [if_neg h9,if_neg h9]
theorem ref_sign.ok : AllOk specs_ref_sign := allOk_cons ref_tight.ok (fnOk_of (by kernel_rfl)) (sealed_of (kp := false) (ok_ext _) (cok_of ref_tight.ok) fun args cs n K r h => by
 unfold ref_sign.spec at h
 dsimp only [lcSt] at h
 split at h
 · obtain ⟨v,h1,h2⟩ := bind2 h
   obtain ⟨m,h4⟩ := ref_sign.ev _ v h1
   exact ⟨m,_,_,h4,h2⟩
 · cases h)
theorem opsR_drop : ∀ j < 13,opsR.drop j = ((j : Int) + 7) :: opsR.drop (j + 1) := by decide
theorem ref_operator.l1 (n : Nat) (own0 own : Int) (l0 l : List Wd) (q0 q : Bool) : ∀ (d j m : Nat),d + j = 13 → d + 1 ≤ m → ref_operator.L1 n m own0 l0 q0 own ((j : Int) + 7) l q = (opR own (opsR.drop j) l).bind (fun v => (some (.ret (.int .i64 v),lcRet [[.sl W l .no,.bool q]] [] 0) : Option (Rr U0))) := by
 intro d
 induction d with
 | zero =>
  intro j m h1 h2
  obtain ⟨m,rfl⟩ : ∃ m',m = m' + 1 := ⟨m - 1,by omega⟩
  obtain rfl : j = 13 := by omega
  rw [ref_operator.L1_s,if_neg (by decide)]
  rfl
 | succ d ih =>
  intro j m h1 h2
  obtain ⟨m,rfl⟩ : ∃ m',m = m' + 1 := ⟨m - 1,by omega⟩
  have e := ih (j + 1) m (by omega) (by omega)
  rw [show ((j + 1 : Nat) : Int) + 7 = (j : Int) + 7 + 1 from by omega] at e
  rw [ref_operator.L1_s,if_pos (by simp; omega),wrL ((j : Int) + 7 + 1) (by omega) (by omega),e,opsR_drop j (by omega),opR]
  simp only [beq_iff_eq,if_true,bind_ite,Option.bind_assoc,Option.bind_some]
theorem ref_operator.ev (own : Int) (l : List (W.den U0)) (q : Bool) (v : Int) (h : (opR own opsR l) = some v) : ∃ m,callX false (fnF cx_ref_operator noCalls m 49) [.ptr 0 0,.int .i64 own] (lcSt [[.sl W l .no,.bool q]] 0) out = some (.ret (.int .i64 v),lcRet [[.sl W l .no,.bool q]] [] 0) := by
 refine ⟨14,?_⟩
 rw [ref_operator.top]
 show _ = Option.bind (some v) (fun v : Int => (some (.ret (.int .i64 v),lcRet [[.sl W l .no,.bool q]] [] 0) : Option (Rr U0)))
 rw [← h]
 rw [ref_operator.L0_s,← ref_operator.L1_s]
 exact ref_operator.l1 14 own own l l q q 13 0 14 (by omega) (by omega)
theorem ref_operator.ok : AllOk specs_ref_operator := allOk_cons ref_sign.ok (fnOk_of (by kernel_rfl)) (sealed_of (kp := false) (ok_ext _) (cok_of ref_sign.ok) fun args cs n K r h => by
 unfold ref_operator.spec at h
 dsimp only [lcSt] at h
 split at h
 · obtain ⟨v,h1,h2⟩ := bind2 h
   obtain ⟨m,h4⟩ := ref_operator.ev _ _ _ v h1
   exact ⟨m,_,_,h4,h2⟩
 · cases h)
theorem ref_part.ev (k : Nat) (l : List (W.den U0)) (q : Bool) (v : Node × List (W.den U0) × Bool) (h : (partRK k l q) = some v) : ∃ m,callX false (fnF cx_ref_part (ref_part.rec k) m 97) [.ptr 0 0] (lcSt [[.sl W l .no,.bool q]] 0) out = some (.ret (.agg (C0.flat 0 (v.1))),lcRet [[.sl W (v.2.1) .no,.bool (v.2.2)]] [] 0) := by
 refine ⟨0,?_⟩
 rw [ref_part.top]
 show _ = Option.bind (some v) (fun v : Node × List (W.den U0) × Bool => (some (.ret (.agg (C0.flat 0 (v.1))),lcRet [[.sl W (v.2.1) .no,.bool (v.2.2)]] [] 0) : Option (Rr U0)))
 rw [← h]
 unfold partRK partR
 cases l with
 | nil => rfl
 | cons w r =>
  have e1 : (1 : Int) ≤ ((w :: r).length : Int) := by simp; omega
  simp only [nth,Option.bind_some,beq_iff_eq,bind_ite,Option.bind_assoc,decide_eq_true_eq,List.drop_succ_cons,List.drop_zero,Bool.false_eq_true,if_true,if_false,Int.toNat_zero,toNat1,if_pos e1]
  rfl
theorem ref_part.step (k : Nat) (h0 : CallOkL Tryz.prog C0 30 (ref_loose.specR k)) : CallOkL Tryz.prog C0 97 (ref_part.specR k) :=
 sealed_of (kp := false) (ok_ext _) (rec_cok (l := [(30,ref_loose.specR k)]) ref_operator.ok (fun x hx => by
  obtain rfl := List.mem_singleton.1 hx
  exact ⟨fnOk_of (by kernel_rfl),h0⟩)) fun args cs n K r h => by
  unfold ref_part.specR at h
  dsimp only [lcSt] at h
  split at h
  · obtain ⟨v,h1,h2⟩ := bind2 h
    obtain ⟨m,h4⟩ := ref_part.ev k _ _ v h1
    exact ⟨m,_,_,h4,h2⟩
  · cases h
theorem ref_factor.ev (k : Nat) (l : List (W.den U0)) (q : Bool) (v : Node × List (W.den U0) × Bool) (h : (factorR (k + 1) l q) = some v) : ∃ m,callX false (fnF cx_ref_factor (ref_factor.rec k) m 48) [.ptr 0 0] (lcSt [[.sl W l .no,.bool q]] 0) out = some (.ret (.agg (C0.flat 0 (v.1))),lcRet [[.sl W (v.2.1) .no,.bool (v.2.2)]] [] 0) := by
 rw [factorR] at h
 refine ⟨0,?_⟩
 rw [ref_factor.top]
 by_cases hq : q = true
 · rw [if_pos hq] at h
   rw [if_pos hq,show partRK k l q = some v from h]
   rfl
 rw [if_neg hq] at h
 rw [if_neg hq]
 obtain ⟨a,ha,h⟩ := bind2 h
 rw [ha,Option.bind_some]
 by_cases ha1 : a.1 = true
 · rw [if_pos ha1] at h
   obtain ⟨b,hb,h⟩ := bind2 h
   obtain rfl := Option.some.inj h
   rw [if_neg (by simp [ha1]),hb,Option.bind_some,nd_x]
   rfl
 · rw [if_neg ha1] at h
   rw [if_pos (by simp [ha1]),show partRK k a.2.1 a.2.2 = some v from h]
   rfl
theorem ref_factor.step (k : Nat) (h0 : CallOkL Tryz.prog C0 48 (ref_factor.specR k)) (h1 : CallOkL Tryz.prog C0 97 (ref_part.specR k)) : CallOkL Tryz.prog C0 48 (ref_factor.specR (k + 1)) :=
 sealed_of (kp := false) (ok_ext _) (rec_cok (l := [(48,ref_factor.specR k),(97,ref_part.specR k)]) ref_operator.ok (fun x hx => by
  rcases List.mem_cons.1 hx with rfl | hx
  · exact ⟨fnOk_of (by kernel_rfl),h0⟩
  obtain rfl := List.mem_singleton.1 hx
  exact ⟨fnOk_of (by kernel_rfl),h1⟩)) fun args cs n K r h => by
  unfold ref_factor.specR at h
  dsimp only [lcSt] at h
  split at h
  · obtain ⟨v,h1,h2⟩ := bind2 h
    obtain ⟨m,h4⟩ := ref_factor.ev k _ _ v h1
    exact ⟨m,_,_,h4,h2⟩
  · cases h
theorem ref_factor.zero : CallOkL Tryz.prog C0 48 (ref_factor.specR 0) := fun args cs n K r h => by
 unfold ref_factor.specR at h
 dsimp only [lcSt] at h
 split at h
 · obtain ⟨v,h1,h2⟩ := bind2 h
   exact absurd h1 (by first | (simp [factorR]; done) | (unfold factorR; simp))
 · cases h
theorem ref_loose.l1 (n k : Nat) (own0 own : Int) (l0 : List Wd) (q0 : Bool) (r2 r3 r4 : Int) (r5 : Bool) (r6 r7 : ByteArray) (r8 : Int) (r9 : List Node) : ∀ (j m : Nat) (o : Int) (t : Node) (l : List Wd) (q : Bool) (v : Node × List Wd × Bool),j ≤ m → loopR (looseR k) own j o t l q = some v →
 ref_loose.L1 n m k own0 l0 q0 own o l q r2 r3 r4 r5 r6 r7 r8 r9 t.x.1 t.x.2.1.1 t.x.2.1.2.1 t.x.2.1.2.2.1 t.x.2.1.2.2.2 t.x.2.2.1 t.x.2.2.2.1 t.x.2.2.2.2 = (fun v : Node × List (W.den U0) × Bool => (some (.ret (.agg (C0.flat 0 (v.1))),lcRet [[.sl W (v.2.1) .no,.bool (v.2.2)]] [] 0) : Option (Rr U0))) v := by
 intro j
 induction j with
 | zero => intro m o t l q v _ h; simp [loopR] at h
 | succ j ih =>
  intro m o t l q v hm h
  obtain ⟨m,rfl⟩ : ∃ m',m = m' + 1 := ⟨m - 1,by omega⟩
  rw [loopR] at h
  rw [ref_loose.L1_s]
  by_cases ho : 0 < o ∧ q = false
  · rw [if_pos ho] at h
    rw [if_pos (by simp [ho.1]),if_pos (by simp [ho.2])]
    obtain ⟨w,hw,h⟩ := bind2 h
    have hl : (1 : Int) ≤ (l.length : Int) := by
     cases l with
     | nil => cases hw
     | cons a b => simp; omega
    rw [if_pos hl,show List.drop (Int.toNat 1) l = l.drop 1 from rfl]
    obtain ⟨b,hb,h⟩ := bind2 h
    rw [hb,Option.bind_some]
    by_cases h4 : own = 4
    · rw [if_pos h4] at h
      rw [if_pos (by simp [h4])]
      obtain rfl := Option.some.inj h
      rw [nd_x,nd_x]
      rfl
    · rw [if_neg h4] at h
      obtain ⟨o',ho',h⟩ := bind2 h
      rw [if_neg (by simp [h4]),ho',Option.bind_some,nd_x,nd_x]
      exact ih m _ _ _ _ v (by omega) h
  · rw [if_neg ho] at h
    obtain rfl := Option.some.inj h
    by_cases h1 : o > 0
    · rw [if_pos (by simp [h1])]
      by_cases h2 : q = false
      · exact absurd ⟨h1,h2⟩ ho
      · rw [if_neg (by simp [h2])]
        rfl
    · rw [if_neg (by simp; omega)]
      rfl
theorem ref_loose.ev (k : Nat) (own : Int) (l : List (W.den U0)) (q : Bool) (v : Node × List (W.den U0) × Bool) (h : (looseR (k + 1) own l q) = some v) : ∃ m,callX false (fnF cx_ref_loose (ref_loose.rec k) m 30) [.ptr 0 0,.int .i64 own] (lcSt [[.sl W l .no,.bool q]] 0) out = some (.ret (.agg (C0.flat 0 (v.1))),lcRet [[.sl W (v.2.1) .no,.bool (v.2.2)]] [] 0) := by
 rw [looseR] at h
 by_cases hq : q = true
 · rw [if_pos hq] at h
   obtain rfl := Option.some.inj h
   refine ⟨0,?_⟩
   rw [ref_loose.top,if_pos hq]
   rfl
 rw [if_neg hq] at h
 by_cases h3 : own = 3
 · rw [if_pos h3] at h
   obtain ⟨a,ha,h⟩ := bind2 h
   refine ⟨0,?_⟩
   rw [ref_loose.top,if_neg hq,if_pos (by simp [h3]),ha,Option.bind_some]
   by_cases ha1 : a.1 = true
   · rw [if_pos ha1] at h
     obtain ⟨b,hb,h⟩ := bind2 h
     obtain rfl := Option.some.inj h
     rw [if_pos ha1,hb,Option.bind_some,nd_x]
     rfl
   · rw [if_neg ha1] at h
     rw [if_neg ha1,h]
     rfl
 rw [if_neg h3] at h
 by_cases h7 : own = 7
 · rw [if_pos h7] at h
   refine ⟨0,?_⟩
   rw [ref_loose.top,if_neg hq,if_neg (by simp [h3]),if_pos (by simp [h7]),h]
   rfl
 rw [if_neg h7] at h
 obtain ⟨b,hb,h⟩ := bind2 h
 obtain ⟨o,ho,h⟩ := bind2 h
 refine ⟨b.2.1.length + 1,?_⟩
 rw [ref_loose.top,if_neg hq,if_neg (by simp [h3]),if_neg (by simp [h7]),hb,Option.bind_some,ho,Option.bind_some,ref_loose.L0_s,← ref_loose.L1_s]
 rw [ref_loose.l1 _ _ _ _ _ _ _ _ _ _ _ _ _ _ _ _ _ _ _ _ v (Nat.le_refl _) h]
theorem ref_loose.step (k : Nat) (h0 : CallOkL Tryz.prog C0 30 (ref_loose.specR k)) (h1 : CallOkL Tryz.prog C0 48 (ref_factor.specR k)) : CallOkL Tryz.prog C0 30 (ref_loose.specR (k + 1)) :=
 sealed_of (kp := false) (ok_ext _) (rec_cok (l := [(30,ref_loose.specR k),(48,ref_factor.specR k)]) ref_operator.ok (fun x hx => by
  rcases List.mem_cons.1 hx with rfl | hx
  · exact ⟨fnOk_of (by kernel_rfl),h0⟩
  obtain rfl := List.mem_singleton.1 hx
  exact ⟨fnOk_of (by kernel_rfl),h1⟩)) fun args cs n K r h => by
  unfold ref_loose.specR at h
  dsimp only [lcSt] at h
  split at h
  · obtain ⟨v,h1,h2⟩ := bind2 h
    obtain ⟨m,h4⟩ := ref_loose.ev k _ _ _ v h1
    exact ⟨m,_,_,h4,h2⟩
  · cases h
theorem ref_loose.zero : CallOkL Tryz.prog C0 30 (ref_loose.specR 0) := fun args cs n K r h => by
 unfold ref_loose.specR at h
 dsimp only [lcSt] at h
 split at h
 · obtain ⟨v,h1,h2⟩ := bind2 h
   exact absurd h1 (by first | (simp [looseR]; done) | (unfold looseR; simp))
 · cases h
theorem ref_loose.both : ∀ k,CallOkL Tryz.prog C0 30 (ref_loose.specR k) ∧ CallOkL Tryz.prog C0 48 (ref_factor.specR k)
 | 0 => ⟨ref_loose.zero,ref_factor.zero⟩
 | k + 1 => ⟨ref_loose.step k (ref_loose.both k).1 (ref_loose.both k).2,ref_factor.step k (ref_loose.both k).2 (ref_part.step k (ref_loose.both k).1)⟩
theorem ref_loose.recOk (k : Nat) : CallOkL Tryz.prog C0 30 (ref_loose.specR k) := (ref_loose.both k).1
theorem ref_factor.recOk (k : Nat) : CallOkL Tryz.prog C0 48 (ref_factor.specR k) := (ref_loose.both k).2
theorem ref_part.recOk (k : Nat) : CallOkL Tryz.prog C0 97 (ref_part.specR k) := ref_part.step k (ref_loose.both k).1
theorem ref_part.ok : AllOk specs_ref_part := allOk_cons ref_operator.ok (fnOk_of (by kernel_rfl)) fun args cs n K r h => by
 unfold ref_part.spec at h
 dsimp only [lcSt] at h
 split at h
 · rename_i l q
   refine ref_part.recOk (9*l.length+9) _ _ _ K r ?_
   unfold ref_part.specR
   exact h
 · cases h
theorem ref_factor.ok : AllOk specs_ref_factor := allOk_cons ref_part.ok (fnOk_of (by kernel_rfl)) fun args cs n K r h => by
 unfold ref_factor.spec at h
 dsimp only [lcSt] at h
 split at h
 · rename_i l q
   refine ref_factor.recOk (9*l.length+9) _ _ _ K r ?_
   unfold ref_factor.specR
   exact h
 · cases h
theorem ref_loose.ok : AllOk specs_ref_loose := allOk_cons ref_factor.ok (fnOk_of (by kernel_rfl)) fun args cs n K r h => by
 unfold ref_loose.spec at h
 dsimp only [lcSt] at h
 split at h
 · rename_i own l q
   refine ref_loose.recOk (9*l.length+9) _ _ _ K r ?_
   unfold ref_loose.specR
   exact h
 · cases h
end Go.Proofs.YtbcpnpbkbndkjaaGreatDoor.Ev
end
section
/- Whole texts. -/
-- prev ref_loose
-- irreducible pathQ pathRQ kwP idxP stP nmP isW atP takeP nameP moreP pathP mustP thenP partP opP loopP exprB exprP partK deepL deepP takeR needR nameR moreR pathR partR tightP signP opR loopR looseR factorR partRK sameL sameP nd vI vT vB nilN lim parseP parseR awakeP parsesP big
-- map words %s.map fun x : Q.S69 => (x.f0,x.f1,x.f2)
set_option linter.unusedVariables false
namespace Go.Proofs.YtbcpnpbkbndkjaaGreatDoor.Ev
open Go Go.RowKit Go.Proofs.YtbcpnpbkbndkjaaGreatDoorW.PrintWords
noncomputable def parseP (s : ByteArray) : Option (Node × Int) := (lim fun k => Q.lexer_Words.f k s).bind fun w => if w.2.2 = 0 then (exprP (9 * (w.1.map fun x : Q.S69 => (x.f0,x.f1,x.f2)).length + 9) 1 (w.1.map fun x : Q.S69 => (x.f0,x.f1,x.f2))).bind fun v => if v.1 = true then (nth v.2.2 0).bind fun u => if u.1 = 0 then (deepP (big v.2.1.x.2.2.2.2) v.2.1.x.2.2.2.2).bind fun d => if d > 24 then some (nilN,4) else some (v.2.1,0) else some (nilN,21) else some (nilN,21) else some (nilN,w.2.2)
noncomputable def parseR (s : ByteArray) : Option (Node × Int) := (lim fun k => Q.dossierref08_Words.f k s).bind fun w => if w.2.2 = 0 then (looseR (9 * (w.1.map fun x : Q.S69 => (x.f0,x.f1,x.f2)).length + 9) 1 (w.1.map fun x : Q.S69 => (x.f0,x.f1,x.f2)) false).bind fun v => if v.2.2 = true then some (nilN,21) else (nth v.2.1 0).bind fun u => if u.1 = 0 then (deepP (big v.1.x.2.2.2.2) v.1.x.2.2.2.2).bind fun d => if d > 24 then some (nilN,4) else some (v.1,0) else some (nilN,21) else some (nilN,w.2.2)
noncomputable def cx_expr_Parse : Cx U0 (Rr U0) := cxOf specs_ref_loose
noncomputable def expr_Parse.spec : Spec := fun args st K => match args,st.box,st.nt with
 | [.str s],[],0 => (parseP s).bind fun v => K (.ret (.tup [.agg (C0.flat 0 (v.1)),.int .i64 v.2])) (lcRet [] [] 0)
 | _,_,_ => none
noncomputable def specs_expr_Parse : List (FuncId × Bool × Spec) := (14,false,expr_Parse.spec) :: specs_ref_loose
noncomputable def cx_ref_Parse : Cx U0 (Rr U0) := cxOf specs_expr_Parse
noncomputable def ref_Parse.spec : Spec := fun args st K => match args,st.box,st.nt with
 | [.str s],[],0 => (parseR s).bind fun v => K (.ret (.tup [.agg (C0.flat 0 (v.1)),.int .i64 v.2])) (lcRet [] [] 0)
 | _,_,_ => none
noncomputable def specs_ref_Parse : List (FuncId × Bool × Spec) := (16,false,ref_Parse.spec) :: specs_expr_Parse
end Go.Proofs.YtbcpnpbkbndkjaaGreatDoor.Ev
end
section
/- What each function comes to, one step of it at a time: the kernel's own reckoning. -/
set_option linter.unusedVariables false
set_option maxRecDepth 100000
namespace Go.Proofs.YtbcpnpbkbndkjaaGreatDoor.Ev
open Go Go.RowKit
theorem expr_Parse.top (n : Nat) (s : ByteArray) : callX false (fnF cx_expr_Parse noCalls n 14) ([AVal.str s]) (lcSt ([]) (0 : Nat)) out = ((lim fun k => Q.lexer_Words.f k s).bind fun v0 => (if (v0.2.2 != (0 : Int)) = true then some (Res.ret (AVal.tup [AVal.agg [AVal.int IntKind.i64 (0 : Int),AVal.int IntKind.i64 (0 : Int),AVal.int IntKind.i64 (0 : Int),AVal.bool false,AVal.str (ByteArray.mk #[]),AVal.str (ByteArray.mk #[]),AVal.int IntKind.i64 (0 : Int),AVal.sl (Ty.user (0 : Nat)) [] Perm.no],AVal.int IntKind.i64 v0.2.2]),lcRet ([]) ([]) ((0 : Nat))) else ((exprP ((9 : Nat) * (List.map (fun x => (x.1,x.2,x.3)) v0.1).length + (9 : Nat)) (1 : Int) (List.map (fun x => (x.1,x.2,x.3)) v0.1)).bind fun v1 => (if v1.1 = true then ((nth v1.2.2 (0 : Nat)).bind fun v2 => (if (v2.1 == (0 : Int)) = true then ((deepP (big v1.2.1.x.2.2.2.2) v1.2.1.x.2.2.2.2).bind fun v3 => (if decide (v3 > (24 : Int)) = true then some (Res.ret (AVal.tup [AVal.agg [AVal.int IntKind.i64 (0 : Int),AVal.int IntKind.i64 (0 : Int),AVal.int IntKind.i64 (0 : Int),AVal.bool false,AVal.str (ByteArray.mk #[]),AVal.str (ByteArray.mk #[]),AVal.int IntKind.i64 (0 : Int),AVal.sl (Ty.user (0 : Nat)) [] Perm.no],AVal.int IntKind.i64 (4 : Int)]),lcRet ([]) ([]) ((0 : Nat))) else some (Res.ret (AVal.tup [AVal.agg [AVal.int IntKind.i64 v1.2.1.x.1,AVal.int IntKind.i64 v1.2.1.x.2.1.1,AVal.int IntKind.i64 v1.2.1.x.2.1.2.1,AVal.bool v1.2.1.x.2.1.2.2.1,AVal.str v1.2.1.x.2.1.2.2.2,AVal.str v1.2.1.x.2.2.1,AVal.int IntKind.i64 v1.2.1.x.2.2.2.1,AVal.sl (Ty.user (0 : Nat)) v1.2.1.x.2.2.2.2 Perm.no],AVal.int IntKind.i64 (0 : Int)]),lcRet ([]) ([]) ((0 : Nat))))) else some (Res.ret (AVal.tup [AVal.agg [AVal.int IntKind.i64 (0 : Int),AVal.int IntKind.i64 (0 : Int),AVal.int IntKind.i64 (0 : Int),AVal.bool false,AVal.str (ByteArray.mk #[]),AVal.str (ByteArray.mk #[]),AVal.int IntKind.i64 (0 : Int),AVal.sl (Ty.user (0 : Nat)) [] Perm.no],AVal.int IntKind.i64 (21 : Int)]),lcRet ([]) ([]) ((0 : Nat))))) else some (Res.ret (AVal.tup [AVal.agg [AVal.int IntKind.i64 (0 : Int),AVal.int IntKind.i64 (0 : Int),AVal.int IntKind.i64 (0 : Int),AVal.bool false,AVal.str (ByteArray.mk #[]),AVal.str (ByteArray.mk #[]),AVal.int IntKind.i64 (0 : Int),AVal.sl (Ty.user (0 : Nat)) [] Perm.no],AVal.int IntKind.i64 (21 : Int)]),lcRet ([]) ([]) ((0 : Nat))))))) := by kernel_rfl
theorem ref_Parse.top (n : Nat) (s : ByteArray) : callX false (fnF cx_ref_Parse noCalls n 16) ([AVal.str s]) (lcSt ([]) (0 : Nat)) out = ((lim fun k => Q.dossierref08_Words.f k s).bind fun v0 => (if (v0.2.2 != (0 : Int)) = true then some (Res.ret (AVal.tup [AVal.agg [AVal.int IntKind.i64 (0 : Int),AVal.int IntKind.i64 (0 : Int),AVal.int IntKind.i64 (0 : Int),AVal.bool false,AVal.str (ByteArray.mk #[]),AVal.str (ByteArray.mk #[]),AVal.int IntKind.i64 (0 : Int),AVal.sl (Ty.user (0 : Nat)) [] Perm.no],AVal.int IntKind.i64 v0.2.2]),lcRet ([]) ([]) ((0 : Nat))) else ((looseR ((9 : Nat) * (List.map (fun x => (x.1,x.2,x.3)) v0.1).length + (9 : Nat)) (1 : Int) (List.map (fun x => (x.1,x.2,x.3)) v0.1) false).bind fun v1 => (if v1.2.2 = true then some (Res.ret (AVal.tup [AVal.agg [AVal.int IntKind.i64 (0 : Int),AVal.int IntKind.i64 (0 : Int),AVal.int IntKind.i64 (0 : Int),AVal.bool false,AVal.str (ByteArray.mk #[]),AVal.str (ByteArray.mk #[]),AVal.int IntKind.i64 (0 : Int),AVal.sl (Ty.user (0 : Nat)) [] Perm.no],AVal.int IntKind.i64 (21 : Int)]),lcRet ([]) ([]) ((0 : Nat))) else ((nth v1.2.1 (Int.toNat (0 : Int))).bind fun v2 => (if (if false = true then true else v2.1 != (0 : Int)) = true then some (Res.ret (AVal.tup [AVal.agg [AVal.int IntKind.i64 (0 : Int),AVal.int IntKind.i64 (0 : Int),AVal.int IntKind.i64 (0 : Int),AVal.bool false,AVal.str (ByteArray.mk #[]),AVal.str (ByteArray.mk #[]),AVal.int IntKind.i64 (0 : Int),AVal.sl (Ty.user (0 : Nat)) [] Perm.no],AVal.int IntKind.i64 (21 : Int)]),lcRet ([]) ([]) ((0 : Nat))) else ((deepP (big v1.1.x.2.2.2.2) v1.1.x.2.2.2.2).bind fun v3 => (if decide (v3 > (24 : Int)) = true then some (Res.ret (AVal.tup [AVal.agg [AVal.int IntKind.i64 (0 : Int),AVal.int IntKind.i64 (0 : Int),AVal.int IntKind.i64 (0 : Int),AVal.bool false,AVal.str (ByteArray.mk #[]),AVal.str (ByteArray.mk #[]),AVal.int IntKind.i64 (0 : Int),AVal.sl (Ty.user (0 : Nat)) [] Perm.no],AVal.int IntKind.i64 (4 : Int)]),lcRet ([]) ([]) ((0 : Nat))) else some (Res.ret (AVal.tup [AVal.agg [AVal.int IntKind.i64 v1.1.x.1,AVal.int IntKind.i64 v1.1.x.2.1.1,AVal.int IntKind.i64 v1.1.x.2.1.2.1,AVal.bool v1.1.x.2.1.2.2.1,AVal.str v1.1.x.2.1.2.2.2,AVal.str v1.1.x.2.2.1,AVal.int IntKind.i64 v1.1.x.2.2.2.1,AVal.sl (Ty.user (0 : Nat)) v1.1.x.2.2.2.2 Perm.no],AVal.int IntKind.i64 (0 : Int)]),lcRet ([]) ([]) ((0 : Nat))))))))))) := by kernel_rfl
end Go.Proofs.YtbcpnpbkbndkjaaGreatDoor.Ev
end
section
/- Whole texts: the two parsers, and what the statements say. -/
set_option linter.unusedVariables false
set_option linter.unusedSimpArgs false
namespace Go.Proofs.YtbcpnpbkbndkjaaGreatDoor.Ev
open Go Go.RowKit Go.Proofs.YtbcpnpbkbndkjaaGreatDoorW.PrintWords
theorem bne_neg (a b : Int) : ((a != b) = true) = ¬ (a = b) := by simp
theorem ite_neg {α : Type} (c : Prop) [Decidable c] (a b : α) : (if ¬ c then a else b) = if c then b else a := by by_cases h : c <;> simp [h]
theorem expr_Parse.ev (s : ByteArray) (v : Node × Int) (h : (parseP s) = some v) : ∃ m,callX false (fnF cx_expr_Parse noCalls m 14) [.str s] (lcSt [] 0) out = some (.ret (.tup [.agg (C0.flat 0 (v.1)),.int .i64 v.2]),lcRet [] [] 0) := by
 refine ⟨0,?_⟩
 rw [expr_Parse.top]
 show _ = Option.bind (some v) (fun v : Node × Int => (some (.ret (.tup [.agg (C0.flat 0 (v.1)),.int .i64 v.2]),lcRet [] [] 0) : Option (Rr U0)))
 rw [← h]
 unfold parseP
 simp only [bne_neg,ite_neg,beq_iff_eq,if_true,bind_ite,Option.bind_assoc,Option.bind_some,decide_eq_true_eq]
 rfl
theorem expr_Parse.ok : AllOk specs_expr_Parse := allOk_cons ref_loose.ok (fnOk_of (by kernel_rfl)) (sealed_of (kp := false) (ok_ext _) (cok_of ref_loose.ok) fun args cs n K r h => by
 unfold expr_Parse.spec at h
 dsimp only [lcSt] at h
 split at h
 · obtain ⟨v,h1,h2⟩ := bind2 h
   obtain ⟨m,h4⟩ := expr_Parse.ev _ v h1
   exact ⟨m,_,_,h4,h2⟩
 · cases h)
theorem ref_Parse.ev (s : ByteArray) (v : Node × Int) (h : (parseR s) = some v) : ∃ m,callX false (fnF cx_ref_Parse noCalls m 16) [.str s] (lcSt [] 0) out = some (.ret (.tup [.agg (C0.flat 0 (v.1)),.int .i64 v.2]),lcRet [] [] 0) := by
 refine ⟨0,?_⟩
 rw [ref_Parse.top]
 show _ = Option.bind (some v) (fun v : Node × Int => (some (.ret (.tup [.agg (C0.flat 0 (v.1)),.int .i64 v.2]),lcRet [] [] 0) : Option (Rr U0)))
 rw [← h]
 unfold parseR
 simp only [bne_neg,ite_neg,beq_iff_eq,if_true,Bool.false_eq_true,if_false,bind_ite,Option.bind_assoc,Option.bind_some,decide_eq_true_eq]
 rfl
theorem ref_Parse.ok : AllOk specs_ref_Parse := allOk_cons expr_Parse.ok (fnOk_of (by kernel_rfl)) (sealed_of (kp := false) (ok_ext _) (cok_of expr_Parse.ok) fun args cs n K r h => by
 unfold ref_Parse.spec at h
 dsimp only [lcSt] at h
 split at h
 · obtain ⟨v,h1,h2⟩ := bind2 h
   obtain ⟨m,h4⟩ := ref_Parse.ev _ v h1
   exact ⟨m,_,_,h4,h2⟩
 · cases h)
end Go.Proofs.YtbcpnpbkbndkjaaGreatDoor.Ev
end
