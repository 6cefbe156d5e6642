/- Several texts in one, in their order. -/
import Derived.Test.YtbcpnpbkbndkjaaGreatDoorBCheckTruths6
section
/- The evaluator's trees are the functions that were printed: characters, words. -/
set_option linter.unusedVariables false
set_option linter.unusedSimpArgs false
namespace Go.Proofs.YtbcpnpbkbndkjaaGreatDoor.Ev
open Go Go.RowKit Go.Proofs.YtbcpnpbkbndkjaaGreatDoorW.PrintWords
theorem chars_Decode.ev (b : List (Int)) (v : Int × Int) (h : (Q.chars_Decode.f b) = some v) : ∃ m,callX false (fnF cx_chars_Decode noCalls m 144) [.sl (.int .u8) b .no] (lcSt [] 0) out = some (.ret (.tup [.int .i64 v.1,.int .i64 v.2]),lcRet [] [] 0) := by
 refine ⟨0,?_⟩
 rw [chars_Decode.top]
 unfold Q.chars_Decode.f at h
 simp only [ite_or,ite_and,seq_list,wrap_64,ba_list,decide_eq_true_eq,beq_iff_eq] at h ⊢
 grind [→ bindE]
theorem chars_Decode.ok : AllOk specs_chars_Decode := allOk_cons lib_ok (fnOk_of (by kernel_rfl)) (sealed_of (kp := false) (ok_ext _) (cok_of lib_ok) fun args cs n K r h => by
 unfold chars_Decode.spec at h
 dsimp only [lcSt] at h
 split at h
 · obtain ⟨v,h1,h2⟩ := bind2 h
   obtain ⟨m,h4⟩ := chars_Decode.ev _ v h1
   exact ⟨m,_,_,h4,h2⟩
 · cases h)
theorem chars_in.l_ev (n : Nat) (r : Int) (l0 : List (Int × Int)) : ∀ (k m : Nat) (x : Int) (l : List (Int × Int)) (c i : Int) (v : Bool),k ≤ m → Q.chars_in.l0 k x (l.map fun p => ⟨p.1,p.2⟩) c i = some v → chars_in.L0 n m r l0 x l c i = some (.ret (.bool v),lcRet [] [] 0) := by
 intro k
 induction k with
 | zero => intro m x l c i v _ h; simp [Q.chars_in.l0] at h
 | succ k ih =>
  intro m x l c i v hk h
  obtain ⟨m,rfl⟩ : ∃ m',m = m' + 1 := ⟨m - 1,by omega⟩
  rw [Q.chars_in.l0] at h
  rw [chars_in.L0_s]
  have hg : ∀ (i : Int),0 ≤ i → i < l.length → nth l i.toNat = some (l.getD i.toNat (0,0)) ∧ (Q.rd_T182 (l.map fun p => ⟨p.1,p.2⟩) i) = ⟨(l.getD i.toNat (0,0)).1,(l.getD i.toNat (0,0)).2⟩ := by
   intro i h0 h1
   have hlt : i.toNat < l.length := by omega
   rw [nth_get,List.getElem?_eq_getElem hlt]
   unfold Q.rd_T182
   rw [List.getD_eq_getElem?_getD,List.getD_eq_getElem?_getD,List.getElem?_map,List.getElem?_eq_getElem hlt]
   exact ⟨rfl,rfl⟩
  have hlen : (l.map fun p => (⟨p.1,p.2⟩ : Q.S182)).length = l.length := List.length_map _
  rw [hlen] at h
  simp only [ite_or,ite_and,seq_list,wrap_64,ba_list,decide_eq_true_eq,beq_iff_eq] at h ⊢
  grind [→ bindE]
theorem chars_in.ev (r : Int) (l : List (Int × Int)) (k : Nat) (hk : k ≤ 1000000) (v : Bool) (h : (Q.chars_in.f k r (l.map fun p => ⟨p.1,p.2⟩)) = some v) : ∃ m,callX false (fnF cx_chars_in noCalls m 167) [.int .i64 r,.sl (.pair (.int .i64) (.int .i64)) l .no] (lcSt [] 0) out = some (.ret (.bool v),lcRet [] [] 0) := by
 refine ⟨k,?_⟩
 rw [chars_in.top]
 unfold Q.chars_in.f at h
 rw [List.length_map] at h
 exact chars_in.l_ev k r l k k r l _ 0 v (Nat.le_refl _) h
theorem chars_in.ok : AllOk specs_chars_in := allOk_cons chars_Decode.ok (fnOk_of (by kernel_rfl)) (sealed_of (kp := false) (ok_ext _) (cok_of chars_Decode.ok) fun args cs n K r h => by
 unfold chars_in.spec at h
 dsimp only [lcSt] at h
 split at h
 · obtain ⟨v,h1,h2⟩ := bind2 h
   obtain ⟨k,hk,h3⟩ := lim_some h1
   obtain ⟨m,h4⟩ := chars_in.ev _ _ k hk v h3
   exact ⟨m,_,_,h4,h2⟩
 · cases h)
theorem chars_ofXML.ev (r : Int) (k : Nat) (hk : k ≤ 1000000) (v : Bool) (h : (Q.chars_ofXML.f k r) = some v) : ∃ m,callX false (fnF cx_chars_ofXML noCalls m 145) [.int .i64 r] (lcSt [] 0) out = some (.ret (.bool v),lcRet [] [] 0) := by
 refine ⟨0,?_⟩
 rw [chars_ofXML.top]
 unfold Q.chars_ofXML.f at h
 obtain ⟨b,h1,h2⟩ := bind2 h
 obtain rfl := Option.some.inj h2
 have := lim_of (X := fun k => Q.chars_in.f k r [⟨32,55295⟩,⟨9,10⟩,⟨13,13⟩,⟨57344,65533⟩,⟨65536,1114111⟩]) (fun k => Q.chars_in.mono r _ k) hk h1
 simp only [List.map] 
 rw [this]
 rfl
theorem chars_ofXML.ok : AllOk specs_chars_ofXML := allOk_cons chars_in.ok (fnOk_of (by kernel_rfl)) (sealed_of (kp := false) (ok_ext _) (cok_of chars_in.ok) fun args cs n K r h => by
 unfold chars_ofXML.spec at h
 dsimp only [lcSt] at h
 split at h
 · obtain ⟨v,h1,h2⟩ := bind2 h
   obtain ⟨k,hk,h3⟩ := lim_some h1
   obtain ⟨m,h4⟩ := chars_ofXML.ev _ k hk v h3
   exact ⟨m,_,_,h4,h2⟩
 · cases h)
theorem chars_Wrong.l_ev (n : Nat) (b : List Int) : ∀ (k m : Nat) (l : List Int) (i : Int) (v : Int),k ≤ 1000000 → k ≤ m → Q.chars_Wrong.l0 k l i = some v → chars_Wrong.L0 n m b l i = some (.ret (.int .i64 v),lcRet [] [] 0) := by
 intro k
 induction k with
 | zero => intro m l i v _ _ h; simp [Q.chars_Wrong.l0] at h
 | succ k ih =>
  intro m l i v hk0 hk h
  obtain ⟨m,rfl⟩ : ∃ m',m = m' + 1 := ⟨m - 1,by omega⟩
  rw [Q.chars_Wrong.l0] at h
  rw [chars_Wrong.L0_s]
  have hx : ∀ r v,Q.chars_ofXML.f k r = some v → lim (fun k => Q.chars_ofXML.f k r) = some v := fun r v h => lim_of (fun k => Q.chars_ofXML.mono r k) (by omega) h
  simp only [ite_or,ite_and,seq_list,wrap_64,ba_list,decide_eq_true_eq,beq_iff_eq] at h ⊢
  grind [→ bindE]
theorem chars_Wrong.ev (b : List (Int)) (k : Nat) (hk : k ≤ 1000000) (v : Int) (h : (Q.chars_Wrong.f k b) = some v) : ∃ m,callX false (fnF cx_chars_Wrong noCalls m 115) [.sl (.int .u8) b .no] (lcSt [] 0) out = some (.ret (.int .i64 v),lcRet [] [] 0) := by
 refine ⟨k,?_⟩
 rw [chars_Wrong.top]
 exact chars_Wrong.l_ev k b k k b 0 v hk (Nat.le_refl _) h
theorem chars_Wrong.ok : AllOk specs_chars_Wrong := allOk_cons chars_ofXML.ok (fnOk_of (by kernel_rfl)) (sealed_of (kp := false) (ok_ext _) (cok_of chars_ofXML.ok) fun args cs n K r h => by
 unfold chars_Wrong.spec at h
 dsimp only [lcSt] at h
 split at h
 · obtain ⟨v,h1,h2⟩ := bind2 h
   obtain ⟨k,hk,h3⟩ := lim_some h1
   obtain ⟨m,h4⟩ := chars_Wrong.ev _ k hk v h3
   exact ⟨m,_,_,h4,h2⟩
 · cases h)
theorem chars_Number.l_ev (n : Nat) (s0 : ByteArray) : ∀ (k m : Nat) (x4 : Bool) (x6 : Int) (x7 : Bool) (s : ByteArray) (c i : Int) (v : Int × Int),k ≤ m → Q.chars_Number.l0 k x4 x6 x7 s c i = some v → c = s.size → chars_Number.L0 n m s0 x4 x6 x7 (toBytes s) c i = some (.ret (.tup [.int .i64 v.1,.int .i64 v.2]),lcRet [] [] 0) := by
 intro k
 induction k using Nat.strongRecOn with
 | _ k ih =>
  intro m x4 x6 x7 s c i v hk h hc
  rcases k with _ | k
  · simp [Q.chars_Number.l0] at h
  obtain ⟨m,rfl⟩ : ∃ m',m = m' + 1 := ⟨m - 1,by omega⟩
  rw [Q.chars_Number.l0] at h
  rw [chars_Number.L0_s]
  have hn := nth_bytes s i
  rcases k with _ | _ | k <;> simp only [Q.chars_Number.j4,Q.chars_Number.j5,Q.chars_Number.j6] at h <;> simp only [ite_or,ite_and,seq_list,wrap_64,wrap_8,wrap_u64_mod,ba_list,decide_eq_true_eq,beq_iff_eq,Bool.not_eq_true',Int.zero_sub] at h ⊢
  · grind [→ bindE,Q.chars_Number.l0]
  · grind [→ bindE,Q.chars_Number.l0]
  · have ih0 := ih (k + 1) (by omega) m
    grind [→ bindE]
theorem chars_Number.ev (s : ByteArray) (k : Nat) (hk : k ≤ 1000000) (v : Int × Int) (h : (Q.chars_Number.f k s) = some v) : ∃ m,callX false (fnF cx_chars_Number noCalls m 70) [.str s] (lcSt [] 0) out = some (.ret (.tup [.int .i64 v.1,.int .i64 v.2]),lcRet [] [] 0) := by
 refine ⟨k,?_⟩
 rw [chars_Number.top]
 have key := chars_Number.l_ev k s
 unfold Q.chars_Number.f at h
 have hx : (s.extract 1 s.size).size = s.size - 1 := by rw [ByteArray.size_extract]; omega
 rcases k with _ | _ | _ | k <;> simp only [Q.chars_Number.j0,Q.chars_Number.j1,Q.chars_Number.j2] at h <;> simp only [ite_or,ite_and,seq_list,wrap_64,wrap_8,ba_list,decide_eq_true_eq,beq_iff_eq,Bool.not_eq_true',toBytes_len,bt_eq] at h ⊢
 · grind
 · grind
 · grind
 · grind (splits := 20)
theorem chars_Number.ok : AllOk specs_chars_Number := allOk_cons chars_Wrong.ok (fnOk_of (by kernel_rfl)) (sealed_of (kp := false) (ok_ext _) (cok_of chars_Wrong.ok) fun args cs n K r h => by
 unfold chars_Number.spec at h
 dsimp only [lcSt] at h
 split at h
 · obtain ⟨v,h1,h2⟩ := bind2 h
   obtain ⟨k,hk,h3⟩ := lim_some h1
   obtain ⟨m,h4⟩ := chars_Number.ev _ k hk v h3
   exact ⟨m,_,_,h4,h2⟩
 · cases h)
theorem lexer_is.ev (x : Int) (s : ByteArray) (v : Bool) (h : (Q.lexer_is.f x s) = some v) : ∃ m,callX false (fnF cx_lexer_is noCalls m 68) [.int .u8 x,.str s] (lcSt [] 0) out = some (.ret (.bool v),lcRet [] [] 0) := by
 refine ⟨0,?_⟩
 rw [lexer_is.top]
 unfold Q.lexer_is.f at h
 grind [→ bindE]
theorem lexer_is.ok : AllOk specs_lexer_is := allOk_cons chars_Number.ok (fnOk_of (by kernel_rfl)) (sealed_of (kp := false) (ok_ext _) (cok_of chars_Number.ok) fun args cs n K r h => by
 unfold lexer_is.spec at h
 dsimp only [lcSt] at h
 split at h
 · obtain ⟨v,h1,h2⟩ := bind2 h
   obtain ⟨m,h4⟩ := lexer_is.ev _ _ v h1
   exact ⟨m,_,_,h4,h2⟩
 · cases h)
theorem lexer_run.l_ev (n : Nat) (s0 t0 : ByteArray) : ∀ (k m : Nat) (s t : ByteArray) (i : Int) (v : ByteArray),k ≤ m → Q.lexer_run.l0 k s t i = some v → lexer_run.L0 n m s0 t0 s t i = some (.ret (.str v),lcRet [] [] 0) := by
 intro k
 induction k with
 | zero => intro m s t i v _ h; simp [Q.lexer_run.l0] at h
 | succ k ih =>
  intro m s t i v hk h
  obtain ⟨m,rfl⟩ : ∃ m',m = m' + 1 := ⟨m - 1,by omega⟩
  rw [Q.lexer_run.l0] at h
  rw [lexer_run.L0_s]
  simp only [ite_or,ite_and,false_or_b,true_and_b,seq_list,seq_false,wrap_64,wrap_8,wrap_u64_mod,ba_list,decide_eq_true_eq,beq_iff_eq,Bool.not_eq_true',Int.zero_sub,toBytes_len,bt_eq,shr_6,shr_12,shr_18,wrap64_mod,toNat0,toNat1,toNat2,most,List.length_cons,List.length_nil,ofBytes_eq] at h ⊢
  grind [→ bindE]
theorem lexer_run.ev (s : ByteArray) (t : ByteArray) (k : Nat) (hk : k ≤ 1000000) (v : ByteArray) (h : (Q.lexer_run.f k s t) = some v) : ∃ m,callX false (fnF cx_lexer_run noCalls m 69) [.str s,.str t] (lcSt [] 0) out = some (.ret (.str v),lcRet [] [] 0) := by
 refine ⟨k,?_⟩
 rw [lexer_run.top]
 exact lexer_run.l_ev k s t k k s t 0 v (Nat.le_refl _) h
theorem lexer_run.ok : AllOk specs_lexer_run := allOk_cons lexer_is.ok (fnOk_of (by kernel_rfl)) (sealed_of (kp := false) (ok_ext _) (cok_of lexer_is.ok) fun args cs n K r h => by
 unfold lexer_run.spec at h
 dsimp only [lcSt] at h
 split at h
 · obtain ⟨v,h1,h2⟩ := bind2 h
   obtain ⟨k,hk,h3⟩ := lim_some h1
   obtain ⟨m,h4⟩ := lexer_run.ev _ _ k hk v h3
   exact ⟨m,_,_,h4,h2⟩
 · cases h)
theorem lexer_quoted.l_ev (n : Nat) (s0 : ByteArray) : ∀ (k m : Nat) (s : ByteArray) (l : List Int) (i : Int) (v : ByteArray × Int),k ≤ m → l.length + k ≤ 1000000 → Q.lexer_quoted.l0 k s l i = some v → lexer_quoted.L0 n m s0 s l i = some (.ret (.tup [.str v.1,.int .i64 v.2]),lcRet [] [] 0) := by
 intro k
 induction k using Nat.strongRecOn with
 | _ k ih =>
  intro m s l i v hk hl h
  rcases k with _ | k
  · simp [Q.lexer_quoted.l0] at h
  obtain ⟨m,rfl⟩ : ∃ m',m = m' + 1 := ⟨m - 1,by omega⟩
  rw [Q.lexer_quoted.l0] at h
  rw [lexer_quoted.L0_s]
  have hx : ∀ v,Q.chars_Wrong.f k l = some v → lim (fun k => Q.chars_Wrong.f k l) = some v := fun v h => lim_of (fun k => Q.chars_Wrong.mono l k) (by omega) h
  have ih0 := ih k (by omega) m
  have hla : ∀ x : Int,(l ++ [x]).length = l.length + 1 := by intro x; simp
  rcases k with _ | k <;> simp only [Q.lexer_quoted.j1] at h <;> simp only [ite_or,ite_and,false_or_b,true_and_b,seq_list,seq_false,wrap_64,wrap_8,wrap_u64_mod,ba_list,decide_eq_true_eq,beq_iff_eq,Bool.not_eq_true',Int.zero_sub,toBytes_len,bt_eq,shr_6,shr_12,shr_18,wrap64_mod,toNat0,toNat1,toNat2,most,List.length_cons,List.length_nil,ofBytes_eq] at h ⊢ <;> grind [→ bindE]
theorem lexer_quoted.ev (s : ByteArray) (k : Nat) (hk : k ≤ 1000000) (v : ByteArray × Int) (h : (Q.lexer_quoted.f k s) = some v) : ∃ m,callX false (fnF cx_lexer_quoted noCalls m 71) [.str s] (lcSt [] 0) out = some (.ret (.tup [.str v.1,.int .i64 v.2]),lcRet [] [] 0) := by
 refine ⟨k,?_⟩
 rw [lexer_quoted.top]
 exact lexer_quoted.l_ev k s k k s [] 1 v (Nat.le_refl _) (by simpa using hk) h
theorem lexer_quoted.ok : AllOk specs_lexer_quoted := allOk_cons lexer_run.ok (fnOk_of (by kernel_rfl)) (sealed_of (kp := false) (ok_ext _) (cok_of lexer_run.ok) fun args cs n K r h => by
 unfold lexer_quoted.spec at h
 dsimp only [lcSt] at h
 split at h
 · obtain ⟨v,h1,h2⟩ := bind2 h
   obtain ⟨k,hk,h3⟩ := lim_some h1
   obtain ⟨m,h4⟩ := lexer_quoted.ev _ k hk v h3
   exact ⟨m,_,_,h4,h2⟩
 · cases h)
theorem lexer_sign.l_ev (n : Nat) (s0 : ByteArray) : ∀ (k m : Nat) (s : ByteArray) (i : Int) (v : ByteArray),k ≤ m → Q.lexer_sign.l0 k s i = some v → lexer_sign.L0 n m s0 s i = some (.ret (.str v),lcRet [] [] 0) := by
 intro k
 induction k with
 | zero => intro m s i v _ h; simp [Q.lexer_sign.l0] at h
 | succ k ih =>
  intro m s i v hk h
  obtain ⟨m,rfl⟩ : ∃ m',m = m' + 1 := ⟨m - 1,by omega⟩
  rw [Q.lexer_sign.l0] at h
  rw [lexer_sign.L0_s]
  simp only [ite_or,ite_and,false_or_b,true_and_b,seq_list,seq_false,wrap_64,wrap_8,wrap_u64_mod,ba_list,decide_eq_true_eq,beq_iff_eq,Bool.not_eq_true',Int.zero_sub,toBytes_len,bt_eq,shr_6,shr_12,shr_18,wrap64_mod,toNat0,toNat1,toNat2,most,List.length_cons,List.length_nil,ofBytes_eq] at h ⊢
  grind (splits := 40)
theorem lexer_sign.ev (s : ByteArray) (k : Nat) (hk : k ≤ 1000000) (v : ByteArray) (h : (Q.lexer_sign.f k s) = some v) : ∃ m,callX false (fnF cx_lexer_sign noCalls m 72) [.str s] (lcSt [] 0) out = some (.ret (.str v),lcRet [] [] 0) := by
 refine ⟨k,?_⟩
 rw [lexer_sign.top]
 exact lexer_sign.l_ev k s k k s _ v (Nat.le_refl _) h
theorem lexer_sign.ok : AllOk specs_lexer_sign := allOk_cons lexer_quoted.ok (fnOk_of (by kernel_rfl)) (sealed_of (kp := false) (ok_ext _) (cok_of lexer_quoted.ok) fun args cs n K r h => by
 unfold lexer_sign.spec at h
 dsimp only [lcSt] at h
 split at h
 · obtain ⟨v,h1,h2⟩ := bind2 h
   obtain ⟨k,hk,h3⟩ := lim_some h1
   obtain ⟨m,h4⟩ := lexer_sign.ev _ k hk v h3
   exact ⟨m,_,_,h4,h2⟩
 · cases h)
theorem lexer_word.ev (s : ByteArray) (k : Nat) (hk : k ≤ 1000000) (v : Int × ByteArray × Int × Int) (h : (Q.lexer_word.f k s) = some v) : ∃ m,callX false (fnF cx_lexer_word noCalls m 37) [.str s] (lcSt [] 0) out = some (.ret (.tup [.agg [.int .i64 v.1,.str v.2.1,.int .i64 v.2.2.1],.int .i64 v.2.2.2]),lcRet [] [] 0) := by
 refine ⟨0,?_⟩
 rw [lexer_word.top]
 unfold Q.lexer_word.f at h
 have h1 : ∀ t v,Q.lexer_run.f k s t = some v → lim (fun k => Q.lexer_run.f k s t) = some v := fun t v h => lim_of (fun k => Q.lexer_run.mono s t k) hk h
 have h2 : ∀ t v,Q.chars_Number.f k t = some v → lim (fun k => Q.chars_Number.f k t) = some v := fun t v h => lim_of (fun k => Q.chars_Number.mono t k) hk h
 have h3 : ∀ t v,Q.lexer_quoted.f k t = some v → lim (fun k => Q.lexer_quoted.f k t) = some v := fun t v h => lim_of (fun k => Q.lexer_quoted.mono t k) hk h
 have h4 : ∀ t v,Q.lexer_sign.f k t = some v → lim (fun k => Q.lexer_sign.f k t) = some v := fun t v h => lim_of (fun k => Q.lexer_sign.mono t k) hk h
 simp only [ite_or,ite_and,false_or_b,true_and_b,seq_list,seq_false,wrap_64,wrap_8,wrap_u64_mod,ba_list,decide_eq_true_eq,beq_iff_eq,Bool.not_eq_true',Int.zero_sub,toBytes_len,bt_eq,shr_6,shr_12,shr_18,wrap64_mod,toNat0,toNat1,toNat2,most,List.length_cons,List.length_nil,ofBytes_eq] at h ⊢
 grind [→ bindE]
theorem lexer_word.ok : AllOk specs_lexer_word := allOk_cons lexer_sign.ok (fnOk_of (by kernel_rfl)) (sealed_of (kp := false) (ok_ext _) (cok_of lexer_sign.ok) fun args cs n K r h => by
 unfold lexer_word.spec at h
 dsimp only [lcSt] at h
 split at h
 · obtain ⟨v,h1,h2⟩ := bind2 h
   obtain ⟨k,hk,h3⟩ := lim_some h1
   obtain ⟨m,h4⟩ := lexer_word.ev _ k hk v h3
   exact ⟨m,_,_,h4,h2⟩
 · cases h)
theorem lexer_Words.l_ev (n : Nat) (s0 : ByteArray) : ∀ (k m : Nat) (s : ByteArray) (l : List Q.S69) (t : ByteArray) (v : List Q.S69 × Int × Int),k ≤ m → l.length + k ≤ 1000000 → Q.lexer_Words.l0 k s l t = some v → lexer_Words.L0 n m s0 s (l.map fun x => (x.f0,x.f1,x.f2)) t = some (.ret (.tup [.sl W (v.1.map fun x => (x.f0,x.f1,x.f2)) .no,.int .i64 v.2.1,.int .i64 v.2.2]),lcRet [] [] 0) := by
 intro k
 induction k with
 | zero => intro m s l t v _ _ h; simp [Q.lexer_Words.l0] at h
 | succ k ih =>
  intro m s l t v hk hl h
  obtain ⟨m,rfl⟩ : ∃ m',m = m' + 1 := ⟨m - 1,by omega⟩
  rw [Q.lexer_Words.l0] at h
  rw [lexer_Words.L0_s]
  have hx : ∀ t v,Q.lexer_word.f k t = some v → lim (fun k => Q.lexer_word.f k t) = some v := fun t v h => lim_of (fun k => Q.lexer_word.mono t k) (by omega) h
  have ih0 := ih m s
  have hla : ∀ x : Q.S69,(l ++ [x]).length = l.length + 1 := by intro x; simp
  have hma : ∀ x : Q.S69,(l ++ [x]).map (fun x => (x.f0,x.f1,x.f2)) = l.map (fun x => (x.f0,x.f1,x.f2)) ++ [(x.f0,x.f1,x.f2)] := by intro x; simp
  have hml : (l.map fun x => (x.f0,x.f1,x.f2)).length = l.length := List.length_map _
  simp only [W] at ih0 ⊢
  simp only [ite_or,ite_and,false_or_b,true_and_b,seq_list,seq_false,wrap_64,wrap_8,wrap_u64_mod,ba_list,decide_eq_true_eq,beq_iff_eq,Bool.not_eq_true',Int.zero_sub,toBytes_len,bt_eq,shr_6,shr_12,shr_18,wrap64_mod,toNat0,toNat1,toNat2,most,List.length_cons,List.length_nil,ofBytes_eq] at h ⊢
  grind [→ bindE]
theorem lexer_Words.ev (s : ByteArray) (k : Nat) (hk : k ≤ 1000000) (v : List (Q.S69) × Int × Int) (h : (Q.lexer_Words.f k s) = some v) : ∃ m,callX false (fnF cx_lexer_Words noCalls m 22) [.str s] (lcSt [] 0) out = some (.ret (.tup [.sl W (v.1.map fun x : Q.S69 => (x.f0,x.f1,x.f2)) .no,.int .i64 v.2.1,.int .i64 v.2.2]),lcRet [] [] 0) := by
 refine ⟨k,?_⟩
 rw [lexer_Words.top]
 unfold Q.lexer_Words.f at h
 have key := lexer_Words.l_ev k s k k s []
 simp only [ite_or,ite_and,false_or_b,true_and_b,seq_list,seq_false,wrap_64,wrap_8,wrap_u64_mod,ba_list,decide_eq_true_eq,beq_iff_eq,Bool.not_eq_true',Int.zero_sub,toBytes_len,bt_eq,shr_6,shr_12,shr_18,wrap64_mod,toNat0,toNat1,toNat2,most,List.length_cons,List.length_nil,ofBytes_eq] at h ⊢
 grind [→ bindE]
theorem lexer_Words.ok : AllOk specs_lexer_Words := allOk_cons lexer_word.ok (fnOk_of (by kernel_rfl)) (sealed_of (kp := false) (ok_ext _) (cok_of lexer_word.ok) fun args cs n K r h => by
 unfold lexer_Words.spec at h
 dsimp only [lcSt] at h
 split at h
 · obtain ⟨v,h1,h2⟩ := bind2 h
   obtain ⟨k,hk,h3⟩ := lim_some h1
   obtain ⟨m,h4⟩ := lexer_Words.ev _ k hk v h3
   exact ⟨m,_,_,h4,h2⟩
 · cases h)
theorem dossierref01_Space.ev (r : Int) (v : Bool) (h : (Q.dossierref01_Space.f r) = some v) : ∃ m,callX false (fnF cx_dossierref01_Space noCalls m 45) [.int .i64 r] (lcSt [] 0) out = some (.ret (.bool v),lcRet [] [] 0) := by
 refine ⟨0,?_⟩
 rw [dossierref01_Space.top]
 unfold Q.dossierref01_Space.f at h
 simp only [ite_or,ite_and,false_or_b,true_and_b,seq_list,seq_false,wrap_64,wrap_8,wrap_u64_mod,ba_list,decide_eq_true_eq,beq_iff_eq,Bool.not_eq_true',Int.zero_sub,toBytes_len,bt_eq,shr_6,shr_12,shr_18,wrap64_mod,toNat0,toNat1,toNat2,most,List.length_cons,List.length_nil,ofBytes_eq] at h ⊢
 grind [→ bindE]
theorem dossierref01_Space.ok : AllOk specs_dossierref01_Space := allOk_cons lexer_Words.ok (fnOk_of (by kernel_rfl)) (sealed_of (kp := false) (ok_ext _) (cok_of lexer_Words.ok) fun args cs n K r h => by
 unfold dossierref01_Space.spec at h
 dsimp only [lcSt] at h
 split at h
 · obtain ⟨v,h1,h2⟩ := bind2 h
   obtain ⟨m,h4⟩ := dossierref01_Space.ev _ v h1
   exact ⟨m,_,_,h4,h2⟩
 · cases h)
theorem dossierref01_Encode.ev (r : Int) (k : Nat) (hk : k ≤ 1000000) (v : List (Int)) (h : (Q.dossierref01_Encode.f k r) = some v) : ∃ m,callX false (fnF cx_dossierref01_Encode noCalls m 153) [.int .i64 r] (lcSt [] 0) out = some (.ret (.sl (.int .u8) (v) .no),lcRet [] [] 0) := by
 refine ⟨0,?_⟩
 rw [dossierref01_Encode.top]
 unfold Q.dossierref01_Encode.f at h
 rcases k with _ | k <;> simp only [Q.dossierref01_Encode.j0] at h <;> simp only [ite_or,ite_and,false_or_b,true_and_b,seq_list,seq_false,wrap_64,wrap_8,wrap_u64_mod,ba_list,decide_eq_true_eq,beq_iff_eq,Bool.not_eq_true',Int.zero_sub,toBytes_len,bt_eq,shr_6,shr_12,shr_18,wrap64_mod,toNat0,toNat1,toNat2,most,List.length_cons,List.length_nil,ofBytes_eq] at h ⊢ <;> grind
theorem dossierref01_Encode.ok : AllOk specs_dossierref01_Encode := allOk_cons dossierref01_Space.ok (fnOk_of (by kernel_rfl)) (sealed_of (kp := false) (ok_ext _) (cok_of dossierref01_Space.ok) fun args cs n K r h => by
 unfold dossierref01_Encode.spec at h
 dsimp only [lcSt] at h
 split at h
 · obtain ⟨v,h1,h2⟩ := bind2 h
   obtain ⟨k,hk,h3⟩ := lim_some h1
   obtain ⟨m,h4⟩ := dossierref01_Encode.ev _ k hk v h3
   exact ⟨m,_,_,h4,h2⟩
 · cases h)
theorem dossierref01_Decode.l_ev (n : Nat) (b0 : List Int) : ∀ (k m : Nat) (b : List Int) (x4 x5 : Int) (l : List Int) (c i : Int) (v : Int × Int),k ≤ 1000000 → k ≤ m → Q.dossierref01_Decode.l0 k b x4 x5 l c i = some v → dossierref01_Decode.L0 n m b0 b x4 x5 l c i = some (.ret (.tup [.int .i64 v.1,.int .i64 v.2]),lcRet [] [] 0) := by
 intro k
 induction k with
 | zero => intro m b x4 x5 l c i v _ _ h; simp [Q.dossierref01_Decode.l0] at h
 | succ k ih =>
  intro m b x4 x5 l c i v hk0 hk h
  obtain ⟨m,rfl⟩ : ∃ m',m = m' + 1 := ⟨m - 1,by omega⟩
  rw [Q.dossierref01_Decode.l0] at h
  rw [dossierref01_Decode.L0_s]
  have hx : ∀ t v,Q.dossierref01_Encode.f k t = some v → lim (fun k => Q.dossierref01_Encode.f k t) = some v := fun t v h => lim_of (fun k => Q.dossierref01_Encode.mono t k) (by omega) h
  have hn := nth_rd l i
  simp only [ite_or,ite_and,false_or_b,true_and_b,seq_list,seq_false,wrap_64,wrap_8,wrap_u64_mod,ba_list,decide_eq_true_eq,beq_iff_eq,Bool.not_eq_true',Int.zero_sub,toBytes_len,bt_eq,shr_6,shr_12,shr_18,wrap64_mod,toNat0,toNat1,toNat2,most,List.length_cons,List.length_nil,ofBytes_eq] at h ⊢
  grind [→ bindE]
theorem dossierref01_Decode.ev (b : List (Int)) (k : Nat) (hk : k ≤ 1000000) (v : Int × Int) (h : (Q.dossierref01_Decode.f k b) = some v) : ∃ m,callX false (fnF cx_dossierref01_Decode noCalls m 123) [.sl (.int .u8) b .no] (lcSt [] 0) out = some (.ret (.tup [.int .i64 v.1,.int .i64 v.2]),lcRet [] [] 0) := by
 refine ⟨k,?_⟩
 rw [dossierref01_Decode.top]
 unfold Q.dossierref01_Decode.f at h
 have key := dossierref01_Decode.l_ev k b
 have hn := nth_rd0 b
 rcases k with _ | k <;> simp only [Q.dossierref01_Decode.j0] at h <;> simp only [ite_or,ite_and,false_or_b,true_and_b,seq_list,seq_false,wrap_64,wrap_8,wrap_u64_mod,ba_list,decide_eq_true_eq,beq_iff_eq,Bool.not_eq_true',Int.zero_sub,toBytes_len,bt_eq,shr_6,shr_12,shr_18,wrap64_mod,toNat0,toNat1,toNat2,most,List.length_cons,List.length_nil,ofBytes_eq] at h ⊢ <;> grind [→ bindE]
theorem dossierref01_Decode.ok : AllOk specs_dossierref01_Decode := allOk_cons dossierref01_Encode.ok (fnOk_of (by kernel_rfl)) (sealed_of (kp := false) (ok_ext _) (cok_of dossierref01_Encode.ok) fun args cs n K r h => by
 unfold dossierref01_Decode.spec at h
 dsimp only [lcSt] at h
 split at h
 · obtain ⟨v,h1,h2⟩ := bind2 h
   obtain ⟨k,hk,h3⟩ := lim_some h1
   obtain ⟨m,h4⟩ := dossierref01_Decode.ev _ k hk v h3
   exact ⟨m,_,_,h4,h2⟩
 · cases h)
theorem dossierref01_within.l_ev (n : Nat) (r0 : Int) (l0 : List Int) : ∀ (k m : Nat) (r : Int) (l : List Int) (i : Int) (v : Bool),k ≤ m → Q.dossierref01_within.l0 k r l i = some v → dossierref01_within.L0 n m r0 l0 r l i = some (.ret (.bool v),lcRet [] [] 0) := by
 intro k
 induction k with
 | zero => intro m r l i v _ h; simp [Q.dossierref01_within.l0] at h
 | succ k ih =>
  intro m r l i v hk h
  obtain ⟨m,rfl⟩ : ∃ m',m = m' + 1 := ⟨m - 1,by omega⟩
  rw [Q.dossierref01_within.l0] at h
  rw [dossierref01_within.L0_s]
  have hn := nth_rd l i
  have hn1 := nth_rd l (wrap64 (i + 1))
  simp only [ite_or,ite_and,false_or_b,true_and_b,seq_list,seq_false,wrap_64,wrap_8,wrap_u64_mod,ba_list,decide_eq_true_eq,beq_iff_eq,Bool.not_eq_true',Int.zero_sub,toBytes_len,bt_eq,shr_6,shr_12,shr_18,wrap64_mod,toNat0,toNat1,toNat2,most,List.length_cons,List.length_nil,ofBytes_eq] at h ⊢
  grind [→ bindE]
theorem dossierref01_within.ev (r : Int) (l : List (Int)) (k : Nat) (hk : k ≤ 1000000) (v : Bool) (h : (Q.dossierref01_within.f k r l) = some v) : ∃ m,callX false (fnF cx_dossierref01_within noCalls m 154) [.int .i64 r,.sl (.int .i64) l .no] (lcSt [] 0) out = some (.ret (.bool v),lcRet [] [] 0) := by
 refine ⟨k,?_⟩
 rw [dossierref01_within.top]
 exact dossierref01_within.l_ev k r l k k r l 0 v (Nat.le_refl _) h
theorem dossierref01_within.ok : AllOk specs_dossierref01_within := allOk_cons dossierref01_Decode.ok (fnOk_of (by kernel_rfl)) (sealed_of (kp := false) (ok_ext _) (cok_of dossierref01_Decode.ok) fun args cs n K r h => by
 unfold dossierref01_within.spec at h
 dsimp only [lcSt] at h
 split at h
 · obtain ⟨v,h1,h2⟩ := bind2 h
   obtain ⟨k,hk,h3⟩ := lim_some h1
   obtain ⟨m,h4⟩ := dossierref01_within.ev _ _ k hk v h3
   exact ⟨m,_,_,h4,h2⟩
 · cases h)
theorem dossierref01_OfXML.ev (r : Int) (k : Nat) (hk : k ≤ 1000000) (v : Bool) (h : (Q.dossierref01_OfXML.f k r) = some v) : ∃ m,callX false (fnF cx_dossierref01_OfXML noCalls m 124) [.int .i64 r] (lcSt [] 0) out = some (.ret (.bool v),lcRet [] [] 0) := by
 refine ⟨0,?_⟩
 rw [dossierref01_OfXML.top]
 unfold Q.dossierref01_OfXML.f at h
 obtain ⟨b,h1,h2⟩ := bind2 h
 obtain rfl := Option.some.inj h2
 have := lim_of (fun k => Q.dossierref01_within.mono r _ k) hk h1
 rw [this]
 rfl
theorem dossierref01_OfXML.ok : AllOk specs_dossierref01_OfXML := allOk_cons dossierref01_within.ok (fnOk_of (by kernel_rfl)) (sealed_of (kp := false) (ok_ext _) (cok_of dossierref01_within.ok) fun args cs n K r h => by
 unfold dossierref01_OfXML.spec at h
 dsimp only [lcSt] at h
 split at h
 · obtain ⟨v,h1,h2⟩ := bind2 h
   obtain ⟨k,hk,h3⟩ := lim_some h1
   obtain ⟨m,h4⟩ := dossierref01_OfXML.ev _ k hk v h3
   exact ⟨m,_,_,h4,h2⟩
 · cases h)
theorem dossierref01_Text.ev (k : Nat) (r : Int) (v : ByteArray) (h : (Q.dossierref01_Text.f (k + 1) r) = some v) : ∃ m,callX false (fnF cx_dossierref01_Text (dossierref01_Text.rec k) m 152) [.int .i64 r] (lcSt [] 0) out = some (.ret (.str v),lcRet [] [] 0) := by
 refine ⟨0,?_⟩
 rw [dossierref01_Text.top]
 rw [Q.dossierref01_Text.f] at h
 have hs : (ByteArray.mk #[(45 : UInt8)]).size = 1 := rfl
 have hd : ((ByteArray.mk #[48,49,50,51,52,53,54,55,56,57]).size : Int) = 10 := rfl
 simp only [hs,hd] at h ⊢
 simp only [ite_or,ite_and,false_or_b,true_and_b,seq_list,seq_false,wrap_64,wrap_8,wrap_u64_mod,ba_list,decide_eq_true_eq,beq_iff_eq,Bool.not_eq_true',Int.zero_sub,toBytes_len,bt_eq,shr_6,shr_12,shr_18,wrap64_mod,toNat0,toNat1,toNat2,most,List.length_cons,List.length_nil,ofBytes_eq] at h ⊢
 grind [→ bindE]
theorem dossierref01_Text.step (k : Nat) (h0 : CallOkL Tryz.prog C0 152 (dossierref01_Text.specR k)) : CallOkL Tryz.prog C0 152 (dossierref01_Text.specR (k + 1)) :=
 sealed_of (kp := false) (ok_ext _) (rec_cok (l := [(152,dossierref01_Text.specR k)]) dossierref01_OfXML.ok (fun x hx => by
  obtain rfl := List.mem_singleton.1 hx
  exact ⟨fnOk_of (by kernel_rfl),h0⟩)) fun args cs n K r h => by
  unfold dossierref01_Text.specR at h
  dsimp only [lcSt] at h
  split at h
  · obtain ⟨v,h1,h2⟩ := bind2 h
    obtain ⟨m,h4⟩ := dossierref01_Text.ev k _ v h1
    exact ⟨m,_,_,h4,h2⟩
  · cases h
theorem dossierref01_Text.zero : CallOkL Tryz.prog C0 152 (dossierref01_Text.specR 0) := fun args cs n K r h => by
 unfold dossierref01_Text.specR at h
 dsimp only [lcSt] at h
 split at h
 · obtain ⟨v,h1,h2⟩ := bind2 h
   exact absurd h1 (by first | (simp [Q.dossierref01_Text.f]; done) | (unfold Q.dossierref01_Text.f; simp))
 · cases h
theorem dossierref01_Text.recOk : ∀ k,CallOkL Tryz.prog C0 152 (dossierref01_Text.specR k)
 | 0 => dossierref01_Text.zero
 | k + 1 => dossierref01_Text.step k (dossierref01_Text.recOk k)
theorem dossierref01_Text.ok : AllOk specs_dossierref01_Text := allOk_cons dossierref01_OfXML.ok (fnOk_of (by kernel_rfl)) fun args cs n K r h => by
 unfold dossierref01_Text.spec at h
 dsimp only [lcSt] at h
 split at h
 · obtain ⟨v,h1,h2⟩ := bind2 h
   obtain ⟨k,hk,h3⟩ := lim_some h1
   refine dossierref01_Text.recOk k _ _ _ K r ?_
   unfold dossierref01_Text.specR
   dsimp only [lcSt]
   show Option.bind _ _ = some r
   rw [h3]
   exact h2
 · cases h
theorem dossierref01_Number.l1_ev (n : Nat) (s0 : ByteArray) : ∀ (k m : Nat) (s d : ByteArray) (x c i : Int) (v : Int × Int),k ≤ 1000000 → k ≤ m → Q.dossierref01_Number.l1 k s d x c i = some v → dossierref01_Number.L1 n m s0 s d x c i = some (.ret (.tup [.int .i64 v.1,.int .i64 v.2]),lcRet [] [] 0) := by
 intro k
 induction k with
 | zero => intro m s d x c i v _ _ h; simp [Q.dossierref01_Number.l1] at h
 | succ k ih =>
  intro m s d x c i v hk0 hk h
  obtain ⟨m,rfl⟩ : ∃ m',m = m' + 1 := ⟨m - 1,by omega⟩
  rw [Q.dossierref01_Number.l1] at h
  rw [dossierref01_Number.L1_s]
  have hx : ∀ t v,Q.dossierref01_Text.f k t = some v → lim (fun k => Q.dossierref01_Text.f k t) = some v := fun t v h => lim_of (fun k => Q.dossierref01_Text.mono t k) (by omega) h
  simp only [ite_or,ite_and,false_or_b,true_and_b,seq_list,seq_false,wrap_64,wrap_8,wrap_u64_mod,ba_list,decide_eq_true_eq,beq_iff_eq,Bool.not_eq_true',Int.zero_sub,toBytes_len,bt_eq,shr_6,shr_12,shr_18,wrap64_mod,toNat0,toNat1,toNat2,most,List.length_cons,List.length_nil,ofBytes_eq] at h ⊢
  grind [→ bindE]
theorem dossierref01_Number.l0_ev (n : Nat) (s0 : ByteArray) : ∀ (k m : Nat) (s d : ByteArray) (c i : Int) (v : Int × Int),n ≤ 1000000 → k ≤ n → k ≤ m → Q.dossierref01_Number.l0 k s d c i = some v → dossierref01_Number.L0 n m s0 s d c i = some (.ret (.tup [.int .i64 v.1,.int .i64 v.2]),lcRet [] [] 0) := by
 intro k
 induction k with
 | zero => intro m s d c i v _ _ _ h; simp [Q.dossierref01_Number.l0] at h
 | succ k ih =>
  intro m s d c i v hk0 hk1 hk h
  obtain ⟨m,rfl⟩ : ∃ m',m = m' + 1 := ⟨m - 1,by omega⟩
  rw [Q.dossierref01_Number.l0] at h
  rw [dossierref01_Number.L0_s]
  have key := dossierref01_Number.l1_ev n s0 k n s d
  simp only [ite_or,ite_and,false_or_b,true_and_b,seq_list,seq_false,wrap_64,wrap_8,wrap_u64_mod,ba_list,decide_eq_true_eq,beq_iff_eq,Bool.not_eq_true',Int.zero_sub,toBytes_len,bt_eq,shr_6,shr_12,shr_18,wrap64_mod,toNat0,toNat1,toNat2,most,List.length_cons,List.length_nil,ofBytes_eq] at h ⊢
  grind [→ bindE]
theorem dossierref01_Number.ev (s : ByteArray) (k : Nat) (hk : k ≤ 1000000) (v : Int × Int) (h : (Q.dossierref01_Number.f k s) = some v) : ∃ m,callX false (fnF cx_dossierref01_Number noCalls m 122) [.str s] (lcSt [] 0) out = some (.ret (.tup [.int .i64 v.1,.int .i64 v.2]),lcRet [] [] 0) := by
 refine ⟨k,?_⟩
 rw [dossierref01_Number.top]
 have key := dossierref01_Number.l0_ev k s
 unfold Q.dossierref01_Number.f at h
 have hx : (s.extract 1 s.size).size = s.size - 1 := by rw [ByteArray.size_extract]; omega
 rcases k with _ | _ | _ | k <;> simp only [Q.dossierref01_Number.j0,Q.dossierref01_Number.j1,Q.dossierref01_Number.j2] at h <;> simp only [ite_or,ite_and,false_or_b,true_and_b,seq_list,seq_false,wrap_64,wrap_8,wrap_u64_mod,ba_list,decide_eq_true_eq,beq_iff_eq,Bool.not_eq_true',Int.zero_sub,toBytes_len,bt_eq,shr_6,shr_12,shr_18,wrap64_mod,toNat0,toNat1,toNat2,most,List.length_cons,List.length_nil,ofBytes_eq] at h ⊢
 · grind
 · grind
 · grind
 · grind (splits := 20)
theorem dossierref01_Number.ok : AllOk specs_dossierref01_Number := allOk_cons dossierref01_Text.ok (fnOk_of (by kernel_rfl)) (sealed_of (kp := false) (ok_ext _) (cok_of dossierref01_Text.ok) fun args cs n K r h => by
 unfold dossierref01_Number.spec at h
 dsimp only [lcSt] at h
 split at h
 · obtain ⟨v,h1,h2⟩ := bind2 h
   obtain ⟨k,hk,h3⟩ := lim_some h1
   obtain ⟨m,h4⟩ := dossierref01_Number.ev _ k hk v h3
   exact ⟨m,_,_,h4,h2⟩
 · cases h)
theorem dossierref08_digit.ev (x : Int) (v : Bool) (h : (Q.dossierref08_digit.f x) = some v) : ∃ m,callX false (fnF cx_dossierref08_digit noCalls m 91) [.int .u8 x] (lcSt [] 0) out = some (.ret (.bool v),lcRet [] [] 0) := by
 refine ⟨0,?_⟩
 rw [dossierref08_digit.top]
 unfold Q.dossierref08_digit.f at h
 simp only [ite_or,ite_and,false_or_b,true_and_b,seq_list,seq_false,wrap_64,wrap_8,wrap_u64_mod,ba_list,decide_eq_true_eq,beq_iff_eq,Bool.not_eq_true',Int.zero_sub,toBytes_len,bt_eq,shr_6,shr_12,shr_18,wrap64_mod,toNat0,toNat1,toNat2,most,List.length_cons,List.length_nil,ofBytes_eq] at h ⊢
 grind [→ bindE]
theorem dossierref08_digit.ok : AllOk specs_dossierref08_digit := allOk_cons dossierref01_Number.ok (fnOk_of (by kernel_rfl)) (sealed_of (kp := false) (ok_ext _) (cok_of dossierref01_Number.ok) fun args cs n K r h => by
 unfold dossierref08_digit.spec at h
 dsimp only [lcSt] at h
 split at h
 · obtain ⟨v,h1,h2⟩ := bind2 h
   obtain ⟨m,h4⟩ := dossierref08_digit.ev _ v h1
   exact ⟨m,_,_,h4,h2⟩
 · cases h)
theorem dossierref08_letter.ev (x : Int) (v : Bool) (h : (Q.dossierref08_letter.f x) = some v) : ∃ m,callX false (fnF cx_dossierref08_letter noCalls m 94) [.int .u8 x] (lcSt [] 0) out = some (.ret (.bool v),lcRet [] [] 0) := by
 refine ⟨0,?_⟩
 rw [dossierref08_letter.top]
 unfold Q.dossierref08_letter.f at h
 simp only [ite_or,ite_and,false_or_b,true_and_b,seq_list,seq_false,wrap_64,wrap_8,wrap_u64_mod,ba_list,decide_eq_true_eq,beq_iff_eq,Bool.not_eq_true',Int.zero_sub,toBytes_len,bt_eq,shr_6,shr_12,shr_18,wrap64_mod,toNat0,toNat1,toNat2,most,List.length_cons,List.length_nil,ofBytes_eq] at h ⊢
 grind [→ bindE]
theorem dossierref08_letter.ok : AllOk specs_dossierref08_letter := allOk_cons dossierref08_digit.ok (fnOk_of (by kernel_rfl)) (sealed_of (kp := false) (ok_ext _) (cok_of dossierref08_digit.ok) fun args cs n K r h => by
 unfold dossierref08_letter.spec at h
 dsimp only [lcSt] at h
 split at h
 · obtain ⟨v,h1,h2⟩ := bind2 h
   obtain ⟨m,h4⟩ := dossierref08_letter.ev _ v h1
   exact ⟨m,_,_,h4,h2⟩
 · cases h)
theorem dossierref08_integer.l1_ev (n : Nat) (s0 : ByteArray) : ∀ (k m : Nat) (s : ByteArray) (i a : Int) (b : ByteArray) (c : Int) (v : Int × ByteArray × Int × Int × Bool),k ≤ 1000000 → k ≤ m → Q.dossierref08_integer.l0 k s i = some v → dossierref08_integer.L1 n m s0 s i a b c = some (.ret (.tup [.agg [.int .i64 v.1,.str v.2.1,.int .i64 v.2.2.1],.int .i64 v.2.2.2.1,.bool v.2.2.2.2]),lcRet [] [] 0) := by
 intro k
 induction k with
 | zero => intro m s i a b c v _ _ h; simp [Q.dossierref08_integer.l0] at h
 | succ k ih =>
  intro m s i a b c v hk0 hk h
  obtain ⟨m,rfl⟩ : ∃ m',m = m' + 1 := ⟨m - 1,by omega⟩
  rw [Q.dossierref08_integer.l0] at h
  rw [dossierref08_integer.L1_s]
  have hx : ∀ t v,Q.dossierref01_Number.f k t = some v → lim (fun k => Q.dossierref01_Number.f k t) = some v := fun t v h => lim_of (fun k => Q.dossierref01_Number.mono t k) (by omega) h
  simp only [ite_or,ite_and,false_or_b,true_and_b,seq_list,seq_false,wrap_64,wrap_8,wrap_u64_mod,ba_list,decide_eq_true_eq,beq_iff_eq,Bool.not_eq_true',Int.zero_sub,toBytes_len,bt_eq,shr_6,shr_12,shr_18,wrap64_mod,toNat0,toNat1,toNat2,most,List.length_cons,List.length_nil,ofBytes_eq] at h ⊢
  grind [→ bindE]
theorem dossierref08_integer.ev (s : ByteArray) (k : Nat) (hk : k ≤ 1000000) (v : Int × ByteArray × Int × Int × Bool) (h : (Q.dossierref08_integer.f k s) = some v) : ∃ m,callX false (fnF cx_dossierref08_integer noCalls m 92) [.str s] (lcSt [] 0) out = some (.ret (.tup [.agg [.int .i64 v.1,.str v.2.1,.int .i64 v.2.2.1],.int .i64 v.2.2.2.1,.bool v.2.2.2.2]),lcRet [] [] 0) := by
 refine ⟨k,?_⟩
 rw [dossierref08_integer.top]
 unfold Q.dossierref08_integer.f at h
 have key := dossierref08_integer.l1_ev k s
 rcases k with _ | k
 · simp [Q.dossierref08_integer.l0] at h
 rw [Q.dossierref08_integer.l0] at h
 rw [dossierref08_integer.L0_s]
 have hx : ∀ t v,Q.dossierref01_Number.f k t = some v → lim (fun k => Q.dossierref01_Number.f k t) = some v := fun t v h => lim_of (fun k => Q.dossierref01_Number.mono t k) (by omega) h
 simp only [ite_or,ite_and,false_or_b,true_and_b,seq_list,seq_false,wrap_64,wrap_8,wrap_u64_mod,ba_list,decide_eq_true_eq,beq_iff_eq,Bool.not_eq_true',Int.zero_sub,toBytes_len,bt_eq,shr_6,shr_12,shr_18,wrap64_mod,toNat0,toNat1,toNat2,most,List.length_cons,List.length_nil,ofBytes_eq] at h ⊢
 grind [→ bindE]
theorem dossierref08_integer.ok : AllOk specs_dossierref08_integer := allOk_cons dossierref08_letter.ok (fnOk_of (by kernel_rfl)) (sealed_of (kp := false) (ok_ext _) (cok_of dossierref08_letter.ok) fun args cs n K r h => by
 unfold dossierref08_integer.spec at h
 dsimp only [lcSt] at h
 split at h
 · obtain ⟨v,h1,h2⟩ := bind2 h
   obtain ⟨k,hk,h3⟩ := lim_some h1
   obtain ⟨m,h4⟩ := dossierref08_integer.ev _ k hk v h3
   exact ⟨m,_,_,h4,h2⟩
 · cases h)
theorem dossierref08_text.l1_ev (n : Nat) (s0 : ByteArray) : ∀ (k m : Nat) (s x5 : ByteArray) (i a : Int) (b : ByteArray) (c : Int) (v : Int × ByteArray × Int × Int × Bool),k ≤ 1000000 → k ≤ m → Q.dossierref08_text.l0 k s x5 i = some v → dossierref08_text.L1 n m s0 s x5 i a b c = some (.ret (.tup [.agg [.int .i64 v.1,.str v.2.1,.int .i64 v.2.2.1],.int .i64 v.2.2.2.1,.bool v.2.2.2.2]),lcRet [] [] 0) := by
 intro k
 induction k with
 | zero => intro m s x5 i a b c v _ _ h; simp [Q.dossierref08_text.l0] at h
 | succ k ih =>
  intro m s x5 i a b c v hk0 hk h
  obtain ⟨m,rfl⟩ : ∃ m',m = m' + 1 := ⟨m - 1,by omega⟩
  rw [Q.dossierref08_text.l0] at h
  rw [dossierref08_text.L1_s]
  have hx : ∀ t v,Q.dossierref01_Decode.f k t = some v → lim (fun k => Q.dossierref01_Decode.f k t) = some v := fun t v h => lim_of (fun k => Q.dossierref01_Decode.mono t k) (by omega) h
  have hy : ∀ t v,Q.dossierref01_OfXML.f k t = some v → lim (fun k => Q.dossierref01_OfXML.f k t) = some v := fun t v h => lim_of (fun k => Q.dossierref01_OfXML.mono t k) (by omega) h
  simp only [toBytes_eq]
  simp only [ite_or,ite_and,false_or_b,true_and_b,seq_list,seq_false,wrap_64,wrap_8,wrap_u64_mod,ba_list,decide_eq_true_eq,beq_iff_eq,Bool.not_eq_true',Int.zero_sub,toBytes_len,bt_eq,shr_6,shr_12,shr_18,wrap64_mod,toNat0,toNat1,toNat2,most,List.length_cons,List.length_nil,ofBytes_eq] at h ⊢
  grind (splits := 30) [→ bindE]
theorem dossierref08_text.ev (s : ByteArray) (k : Nat) (hk : k ≤ 1000000) (v : Int × ByteArray × Int × Int × Bool) (h : (Q.dossierref08_text.f k s) = some v) : ∃ m,callX false (fnF cx_dossierref08_text noCalls m 93) [.str s] (lcSt [] 0) out = some (.ret (.tup [.agg [.int .i64 v.1,.str v.2.1,.int .i64 v.2.2.1],.int .i64 v.2.2.2.1,.bool v.2.2.2.2]),lcRet [] [] 0) := by
 refine ⟨k,?_⟩
 rw [dossierref08_text.top]
 unfold Q.dossierref08_text.f at h
 have key := dossierref08_text.l1_ev k s
 rcases k with _ | k
 · simp [Q.dossierref08_text.l0] at h
 rw [Q.dossierref08_text.l0] at h
 rw [dossierref08_text.L0_s]
 have hx : ∀ t v,Q.dossierref01_Decode.f k t = some v → lim (fun k => Q.dossierref01_Decode.f k t) = some v := fun t v h => lim_of (fun k => Q.dossierref01_Decode.mono t k) (by omega) h
 have hy : ∀ t v,Q.dossierref01_OfXML.f k t = some v → lim (fun k => Q.dossierref01_OfXML.f k t) = some v := fun t v h => lim_of (fun k => Q.dossierref01_OfXML.mono t k) (by omega) h
 simp only [toBytes_eq]
 simp only [ite_or,ite_and,false_or_b,true_and_b,seq_list,seq_false,wrap_64,wrap_8,wrap_u64_mod,ba_list,decide_eq_true_eq,beq_iff_eq,Bool.not_eq_true',Int.zero_sub,toBytes_len,bt_eq,shr_6,shr_12,shr_18,wrap64_mod,toNat0,toNat1,toNat2,most,List.length_cons,List.length_nil,ofBytes_eq] at h ⊢
 grind (splits := 30) [→ bindE]
theorem dossierref08_text.ok : AllOk specs_dossierref08_text := allOk_cons dossierref08_integer.ok (fnOk_of (by kernel_rfl)) (sealed_of (kp := false) (ok_ext _) (cok_of dossierref08_integer.ok) fun args cs n K r h => by
 unfold dossierref08_text.spec at h
 dsimp only [lcSt] at h
 split at h
 · obtain ⟨v,h1,h2⟩ := bind2 h
   obtain ⟨k,hk,h3⟩ := lim_some h1
   obtain ⟨m,h4⟩ := dossierref08_text.ev _ k hk v h3
   exact ⟨m,_,_,h4,h2⟩
 · cases h)
theorem dossierref08_sign.l1_ev (n : Nat) (s0 : ByteArray) : ∀ (k m : Nat) (s : ByteArray) (l : List ByteArray) (c i a : Int) (b : ByteArray) (d : Int) (v : Int × ByteArray × Int × Int × Bool),k ≤ m → Q.dossierref08_sign.l0 k s l c i = some v → dossierref08_sign.L1 n m s0 s l c i a b d = some (.ret (.tup [.agg [.int .i64 v.1,.str v.2.1,.int .i64 v.2.2.1],.int .i64 v.2.2.2.1,.bool v.2.2.2.2]),lcRet [] [] 0) := by
 intro k
 induction k with
 | zero => intro m s l c i a b d v _ h; simp [Q.dossierref08_sign.l0] at h
 | succ k ih =>
  intro m s l c i a b d v hk h
  obtain ⟨m,rfl⟩ : ∃ m',m = m' + 1 := ⟨m - 1,by omega⟩
  rw [Q.dossierref08_sign.l0] at h
  rw [dossierref08_sign.L1_s]
  have hn := nth_strs l i
  simp only [ite_or,ite_and,false_or_b,true_and_b,seq_list,seq_false,wrap_64,wrap_8,wrap_u64_mod,ba_list,decide_eq_true_eq,beq_iff_eq,Bool.not_eq_true',Int.zero_sub,toBytes_len,bt_eq,shr_6,shr_12,shr_18,wrap64_mod,toNat0,toNat1,toNat2,most,List.length_cons,List.length_nil,ofBytes_eq] at h ⊢
  grind (splits := 30) [→ bindE]
theorem dossierref08_sign.ev (s : ByteArray) (k : Nat) (hk : k ≤ 1000000) (v : Int × ByteArray × Int × Int × Bool) (h : (Q.dossierref08_sign.f k s) = some v) : ∃ m,callX false (fnF cx_dossierref08_sign noCalls m 95) [.str s] (lcSt [] 0) out = some (.ret (.tup [.agg [.int .i64 v.1,.str v.2.1,.int .i64 v.2.2.1],.int .i64 v.2.2.2.1,.bool v.2.2.2.2]),lcRet [] [] 0) := by
 refine ⟨k,?_⟩
 rw [dossierref08_sign.top]
 unfold Q.dossierref08_sign.f at h
 have key : ∀ (k m : Nat) (l : List ByteArray) (c a : Int) (b : ByteArray) (d : Int) (v : Int × ByteArray × Int × Int × Bool),k ≤ m → Q.dossierref08_sign.l0 k s l c 0 = some v → dossierref08_sign.L0 (k + 1) m s s l c 0 a b d = some (.ret (.tup [.agg [.int .i64 v.1,.str v.2.1,.int .i64 v.2.2.1],.int .i64 v.2.2.2.1,.bool v.2.2.2.2]),lcRet [] [] 0) := by
  intro k m l c a b d v hk h
  have key := dossierref08_sign.l1_ev (k + 1) s
  rcases k with _ | k
  · simp [Q.dossierref08_sign.l0] at h
  obtain ⟨m,rfl⟩ : ∃ m',m = m' + 1 := ⟨m - 1,by omega⟩
  rw [Q.dossierref08_sign.l0] at h
  rw [dossierref08_sign.L0_s]
  have hn := nth_strs l 0
  simp only [ite_or,ite_and,false_or_b,true_and_b,seq_list,seq_false,wrap_64,wrap_8,wrap_u64_mod,ba_list,decide_eq_true_eq,beq_iff_eq,Bool.not_eq_true',Int.zero_sub,toBytes_len,bt_eq,shr_6,shr_12,shr_18,wrap64_mod,toNat0,toNat1,toNat2,most,List.length_cons,List.length_nil,ofBytes_eq] at h ⊢
  grind (splits := 30) [→ bindE]
 rcases k with _ | k <;> simp only [Q.dossierref08_sign.j0] at h <;> (try simp only [Option.bind_some] at h) <;> (try simp only [ite_or,ite_and,false_or_b,true_and_b,seq_list,seq_false,wrap_64,wrap_8,wrap_u64_mod,ba_list,decide_eq_true_eq,beq_iff_eq,Bool.not_eq_true',Int.zero_sub,toBytes_len,bt_eq,shr_6,shr_12,shr_18,wrap64_mod,toNat0,toNat1,toNat2,most,List.length_cons,List.length_nil,ofBytes_eq] at h ⊢)
 · grind
 · have key0 := key k (k + 1)
   grind (splits := 30)
theorem dossierref08_sign.ok : AllOk specs_dossierref08_sign := allOk_cons dossierref08_text.ok (fnOk_of (by kernel_rfl)) (sealed_of (kp := false) (ok_ext _) (cok_of dossierref08_text.ok) fun args cs n K r h => by
 unfold dossierref08_sign.spec at h
 dsimp only [lcSt] at h
 split at h
 · obtain ⟨v,h1,h2⟩ := bind2 h
   obtain ⟨k,hk,h3⟩ := lim_some h1
   obtain ⟨m,h4⟩ := dossierref08_sign.ev _ k hk v h3
   exact ⟨m,_,_,h4,h2⟩
 · cases h)
theorem dossierref08_word.l1_ev (n : Nat) (s0 : ByteArray) : ∀ (k m : Nat) (s : ByteArray) (i a : Int) (b : ByteArray) (c : Int) (v : Int × ByteArray × Int × Int × Bool),k ≤ m → Q.dossierref08_word.l0 k s i = some v → dossierref08_word.L1 n m s0 s i a b c = some (.ret (.tup [.agg [.int .i64 v.1,.str v.2.1,.int .i64 v.2.2.1],.int .i64 v.2.2.2.1,.bool v.2.2.2.2]),lcRet [] [] 0) := by
 intro k
 induction k with
 | zero => intro m s i a b c v _ h; simp [Q.dossierref08_word.l0] at h
 | succ k ih =>
  intro m s i a b c v hk h
  obtain ⟨m,rfl⟩ : ∃ m',m = m' + 1 := ⟨m - 1,by omega⟩
  rw [Q.dossierref08_word.l0] at h
  rw [dossierref08_word.L1_s]
  simp only [ite_or,ite_and,false_or_b,true_and_b,seq_list,seq_false,wrap_64,wrap_8,wrap_u64_mod,ba_list,decide_eq_true_eq,beq_iff_eq,Bool.not_eq_true',Int.zero_sub,toBytes_len,bt_eq,shr_6,shr_12,shr_18,wrap64_mod,toNat0,toNat1,toNat2,most,List.length_cons,List.length_nil,ofBytes_eq] at h ⊢
  grind [→ bindE]
theorem dossierref08_word.l0_ev (n : Nat) (s0 : ByteArray) (k : Nat) (m : Nat) (s : ByteArray) (i a : Int) (b : ByteArray) (c : Int) (v : Int × ByteArray × Int × Int × Bool) (hk : k ≤ m) (h : Q.dossierref08_word.l0 k s i = some v) : dossierref08_word.L0 n m s0 s i a b c = some (.ret (.tup [.agg [.int .i64 v.1,.str v.2.1,.int .i64 v.2.2.1],.int .i64 v.2.2.2.1,.bool v.2.2.2.2]),lcRet [] [] 0) := by
 have key := dossierref08_word.l1_ev n s0
 rcases k with _ | k
 · simp [Q.dossierref08_word.l0] at h
 obtain ⟨m,rfl⟩ : ∃ m',m = m' + 1 := ⟨m - 1,by omega⟩
 rw [Q.dossierref08_word.l0] at h
 rw [dossierref08_word.L0_s]
 simp only [ite_or,ite_and,false_or_b,true_and_b,seq_list,seq_false,wrap_64,wrap_8,wrap_u64_mod,ba_list,decide_eq_true_eq,beq_iff_eq,Bool.not_eq_true',Int.zero_sub,toBytes_len,bt_eq,shr_6,shr_12,shr_18,wrap64_mod,toNat0,toNat1,toNat2,most,List.length_cons,List.length_nil,ofBytes_eq] at h ⊢
 grind [→ bindE]
theorem dossierref08_word.ev (s : ByteArray) (k : Nat) (hk : k ≤ 1000000) (v : Int × ByteArray × Int × Int × Bool) (h : (Q.dossierref08_word.f k s) = some v) : ∃ m,callX false (fnF cx_dossierref08_word noCalls m 46) [.str s] (lcSt [] 0) out = some (.ret (.tup [.agg [.int .i64 v.1,.str v.2.1,.int .i64 v.2.2.1],.int .i64 v.2.2.2.1,.bool v.2.2.2.2]),lcRet [] [] 0) := by
 refine ⟨k,?_⟩
 rw [dossierref08_word.top]
 unfold Q.dossierref08_word.f at h
 have key := dossierref08_word.l0_ev k s k k s 1
 have h1 : ∀ v,Q.dossierref08_integer.f k s = some v → lim (fun k => Q.dossierref08_integer.f k s) = some v := fun v h => lim_of (fun k => Q.dossierref08_integer.mono s k) hk h
 have h3 : ∀ v,Q.dossierref08_text.f k s = some v → lim (fun k => Q.dossierref08_text.f k s) = some v := fun v h => lim_of (fun k => Q.dossierref08_text.mono s k) hk h
 have h4 : ∀ v,Q.dossierref08_sign.f k s = some v → lim (fun k => Q.dossierref08_sign.f k s) = some v := fun v h => lim_of (fun k => Q.dossierref08_sign.mono s k) hk h
 simp only [ite_or,ite_and,false_or_b,true_and_b,seq_list,seq_false,wrap_64,wrap_8,wrap_u64_mod,ba_list,decide_eq_true_eq,beq_iff_eq,Bool.not_eq_true',Int.zero_sub,toBytes_len,bt_eq,shr_6,shr_12,shr_18,wrap64_mod,toNat0,toNat1,toNat2,most,List.length_cons,List.length_nil,ofBytes_eq] at h ⊢
 grind [→ bindE]
theorem dossierref08_word.ok : AllOk specs_dossierref08_word := allOk_cons dossierref08_sign.ok (fnOk_of (by kernel_rfl)) (sealed_of (kp := false) (ok_ext _) (cok_of dossierref08_sign.ok) fun args cs n K r h => by
 unfold dossierref08_word.spec at h
 dsimp only [lcSt] at h
 split at h
 · obtain ⟨v,h1,h2⟩ := bind2 h
   obtain ⟨k,hk,h3⟩ := lim_some h1
   obtain ⟨m,h4⟩ := dossierref08_word.ev _ k hk v h3
   exact ⟨m,_,_,h4,h2⟩
 · cases h)
theorem dossierref08_Words.l_ev (n : Nat) (s0 : ByteArray) : ∀ (k m : Nat) (s : ByteArray) (l : List Q.S69) (i : Int) (v : List Q.S69 × Int × Int),k ≤ m → l.length + k ≤ 1000000 → Q.dossierref08_Words.l0 k s l i = some v → dossierref08_Words.L0 n m s0 s (l.map fun x => (x.f0,x.f1,x.f2)) i = some (.ret (.tup [.sl W (v.1.map fun x => (x.f0,x.f1,x.f2)) .no,.int .i64 v.2.1,.int .i64 v.2.2]),lcRet [] [] 0) := by
 intro k
 induction k with
 | zero => intro m s l i v _ _ h; simp [Q.dossierref08_Words.l0] at h
 | succ k ih =>
  intro m s l i v hk hl h
  obtain ⟨m,rfl⟩ : ∃ m',m = m' + 1 := ⟨m - 1,by omega⟩
  rw [Q.dossierref08_Words.l0] at h
  rw [dossierref08_Words.L0_s]
  have hx : ∀ t v,Q.dossierref08_word.f k t = some v → lim (fun k => Q.dossierref08_word.f k t) = some v := fun t v h => lim_of (fun k => Q.dossierref08_word.mono t k) (by omega) h
  have ih0 := ih m s
  have hla : ∀ x : Q.S69,(l ++ [x]).length = l.length + 1 := by intro x; simp
  have hma : ∀ x : Q.S69,(l ++ [x]).map (fun x => (x.f0,x.f1,x.f2)) = l.map (fun x => (x.f0,x.f1,x.f2)) ++ [(x.f0,x.f1,x.f2)] := by intro x; simp
  have hml : (l.map fun x => (x.f0,x.f1,x.f2)).length = l.length := List.length_map _
  simp only [W] at ih0 ⊢
  simp only [ite_or,ite_and,false_or_b,true_and_b,seq_list,seq_false,wrap_64,wrap_8,wrap_u64_mod,ba_list,decide_eq_true_eq,beq_iff_eq,Bool.not_eq_true',Int.zero_sub,toBytes_len,bt_eq,shr_6,shr_12,shr_18,wrap64_mod,toNat0,toNat1,toNat2,most,List.length_cons,List.length_nil,ofBytes_eq] at h ⊢
  grind [→ bindE]
theorem dossierref08_Words.ev (s : ByteArray) (k : Nat) (hk : k ≤ 1000000) (v : List (Q.S69) × Int × Int) (h : (Q.dossierref08_Words.f k s) = some v) : ∃ m,callX false (fnF cx_dossierref08_Words noCalls m 29) [.str s] (lcSt [] 0) out = some (.ret (.tup [.sl W (v.1.map fun x : Q.S69 => (x.f0,x.f1,x.f2)) .no,.int .i64 v.2.1,.int .i64 v.2.2]),lcRet [] [] 0) := by
 refine ⟨k,?_⟩
 rw [dossierref08_Words.top]
 unfold Q.dossierref08_Words.f at h
 have key := dossierref08_Words.l_ev k s k k s []
 simp only [ite_or,ite_and,false_or_b,true_and_b,seq_list,seq_false,wrap_64,wrap_8,wrap_u64_mod,ba_list,decide_eq_true_eq,beq_iff_eq,Bool.not_eq_true',Int.zero_sub,toBytes_len,bt_eq,shr_6,shr_12,shr_18,wrap64_mod,toNat0,toNat1,toNat2,most,List.length_cons,List.length_nil,ofBytes_eq] at h ⊢
 grind [→ bindE]
theorem dossierref08_Words.ok : AllOk specs_dossierref08_Words := allOk_cons dossierref08_word.ok (fnOk_of (by kernel_rfl)) (sealed_of (kp := false) (ok_ext _) (cok_of dossierref08_word.ok) fun args cs n K r h => by
 unfold dossierref08_Words.spec at h
 dsimp only [lcSt] at h
 split at h
 · obtain ⟨v,h1,h2⟩ := bind2 h
   obtain ⟨k,hk,h3⟩ := lim_some h1
   obtain ⟨m,h4⟩ := dossierref08_Words.ev _ k hk v h3
   exact ⟨m,_,_,h4,h2⟩
 · cases h)
end Go.Proofs.YtbcpnpbkbndkjaaGreatDoor.Ev
end
section
/- The grammar: what each function of the two parsers is, on lists of words. -/
-- prev dossierref08_Words
-- irreducible pathQ pathRQ kwP idxP stP nmP isW atP takeP nameP moreP pathP mustP thenP partP opP loopP exprB exprP partK deepL deepP takeR needR nameR moreR pathR partR tightP signP opR loopR looseR factorR partRK sameL sameP nd vI vT vB nilN
set_option linter.unusedVariables false
namespace Go.Proofs.YtbcpnpbkbndkjaaGreatDoor.Ev
open Go Go.RowKit Go.Proofs.YtbcpnpbkbndkjaaGreatDoorW.PrintWords
abbrev Wd := Int × ByteArray × Int
abbrev PR (α : Type) := Option (Bool × α × List Wd)
abbrev RR (α : Type) := Option (α × List Wd × Bool)
def kwP (s : ByteArray) : Bool := seq s (⟨#[97,110,100]⟩ : ByteArray) || (seq s (⟨#[111,114]⟩ : ByteArray) || (seq s (⟨#[110,111,116]⟩ : ByteArray) || (seq s (⟨#[116,114,117,101]⟩ : ByteArray) || (seq s (⟨#[102,97,108,115,101]⟩ : ByteArray) || (seq s (⟨#[99,111,117,110,116]⟩ : ByteArray) || seq s (⟨#[110,117,109,98,101,114]⟩ : ByteArray))))))
def namesL : List ByteArray := [(⟨#[97,118,97,105,108,97,98,108,101]⟩ : ByteArray),(⟨#[101,110,97,98,108,101,100]⟩ : ByteArray),(⟨#[100,105,115,97,98,108,101,100]⟩ : ByteArray),(⟨#[97,99,116,105,118,101]⟩ : ByteArray),(⟨#[102,97,105,108,101,100]⟩ : ByteArray),(⟨#[115,117,115,112,101,110,100,101,100]⟩ : ByteArray),(⟨#[99,111,109,112,108,101,116,101,100]⟩ : ByteArray),(⟨#[116,101,114,109,105,110,97,116,101,100]⟩ : ByteArray)]
def namesV : AVal U0 := .agg (namesL.map .str)
def statesL : List ByteArray := (⟨#[]⟩ : ByteArray) :: namesL
def idxP (s : ByteArray) : List ByteArray → Int → Int
 | [],_ => -1
 | x :: r,i => if seq s x = true then i else idxP s r (i + 1)
def stP (s : ByteArray) : Int := idxP s namesL 0 + 1
def nmP (n : Int) : ByteArray := if n < 1 then (⟨#[]⟩ : ByteArray) else if 8 < n then (⟨#[]⟩ : ByteArray) else namesL.getD (n - 1).toNat (⟨#[]⟩ : ByteArray)
def nd (op a b : Int) (c : Bool) (t s : ByteArray) (j : Int) (ks : List Node) : Node := .mk (op,(a,b,c,t),s,j,ks)
def nilN : Node := nd 0 0 0 false (⟨#[]⟩ : ByteArray) (⟨#[]⟩ : ByteArray) 0 []
def isW (s : ByteArray) (w : Wd) : Bool := seq w.2.1 s && (decide (w.1 = 4) || (decide (w.1 = 1) && kwP s))
def atP (s : ByteArray) (l : List Wd) : Option Bool := (nth l 0).bind fun w => some (isW s w)
def takeP (s : ByteArray) (l : List Wd) : Option (Bool × List Wd) := (nth l 0).bind fun w => if isW s w = true then some (true,l.drop 1) else some (false,l)
def nameP (l : List Wd) : PR ByteArray := (nth l 0).bind fun w => if w.1 = 1 ∧ kwP w.2.1 = false then some (true,w.2.1,l.drop 1) else some (false,(⟨#[]⟩ : ByteArray),l)
def moreP : Nat → List ByteArray → List Wd → PR (List ByteArray)
 | 0,_,_ => none
 | k + 1,ns,l => (takeP (⟨#[46]⟩ : ByteArray) l).bind fun a => if a.1 = true then (nameP a.2).bind fun b => if b.1 = true then if (ns.length + [b.2.1].length) * 16 ≤ most then moreP k (ns ++ [b.2.1]) b.2.2 else none else some (false,[],b.2.2) else some (true,ns,a.2)
noncomputable def pathP (k : Nat) (l : List Wd) : PR ByteArray := (nameP l).bind fun b => if b.1 = true then (moreP k [b.2.1] b.2.2).bind fun c => if c.1 = true then (Q.strings_Join.f c.2.1 (⟨#[46]⟩ : ByteArray)).bind fun t => some (true,t,c.2.2) else some (false,(⟨#[]⟩ : ByteArray),c.2.2) else some (false,(⟨#[]⟩ : ByteArray),b.2.2)
def vI (n : Int) : Node := nd 1 1 n false (⟨#[]⟩ : ByteArray) (⟨#[]⟩ : ByteArray) 0 []
def vT (t : ByteArray) : Node := nd 1 3 0 false t (⟨#[]⟩ : ByteArray) 0 []
def vB (b : Bool) : Node := nd 1 2 0 b (⟨#[]⟩ : ByteArray) (⟨#[]⟩ : ByteArray) 0 []
/-- A sign or a keyword must come; then on. -/
def mustP (s : ByteArray) (l : List Wd) (K : List Wd → PR Node) : PR Node := (takeP s l).bind fun a => if a.1 = true then K a.2 else some (false,nilN,a.2)
def thenP {α : Type} (x : PR α) (K : α → List Wd → PR Node) : PR Node := x.bind fun b => if b.1 = true then K b.2.1 b.2.2 else some (false,nilN,b.2.2)
noncomputable def pathQ (l : List Wd) : PR ByteArray := pathP (l.length + 1) l
noncomputable def partP (E : Int → List Wd → PR Node) (l : List Wd) : PR Node :=
 (nth l 0).bind fun w => if w.1 = 2 then some (true,vI w.2.2,l.drop 1) else if w.1 = 3 then some (true,vT w.2.1,l.drop 1)
 else (takeP (⟨#[116,114,117,101]⟩ : ByteArray) l).bind fun a => if a.1 = true then some (true,vB true,a.2)
 else (takeP (⟨#[102,97,108,115,101]⟩ : ByteArray) a.2).bind fun a => if a.1 = true then some (true,vB false,a.2)
 else (takeP (⟨#[40]⟩ : ByteArray) a.2).bind fun a => if a.1 = true then thenP (E 1 a.2) fun n r => mustP (⟨#[41]⟩ : ByteArray) r fun r => some (true,n,r)
 else (takeP (⟨#[99,111,117,110,116]⟩ : ByteArray) a.2).bind fun a => if a.1 = true then mustP (⟨#[40]⟩ : ByteArray) a.2 fun r => thenP (pathQ r) fun t r => mustP (⟨#[41]⟩ : ByteArray) r fun r => some (true,nd 3 0 0 false (⟨#[]⟩ : ByteArray) t 0 [],r)
 else (takeP (⟨#[110,117,109,98,101,114]⟩ : ByteArray) a.2).bind fun a => if a.1 = true then mustP (⟨#[40]⟩ : ByteArray) a.2 fun r => thenP (nameP r) fun t r => mustP (⟨#[44]⟩ : ByteArray) r fun r => thenP (nameP r) fun u r => if 1 ≤ stP u then mustP (⟨#[41]⟩ : ByteArray) r fun r => some (true,nd 4 0 0 false (⟨#[]⟩ : ByteArray) t (stP u) [],r) else some (false,nilN,r)
 else thenP (pathQ a.2) fun t r => some (true,nd 2 0 0 false (⟨#[]⟩ : ByteArray) t 0 [],r)
def opsL : List (Int × Int × ByteArray) := [(7,6,(⟨#[42]⟩ : ByteArray)),(8,6,(⟨#[47]⟩ : ByteArray)),(9,6,(⟨#[37]⟩ : ByteArray)),(10,5,(⟨#[43]⟩ : ByteArray)),(11,5,(⟨#[45]⟩ : ByteArray)),(12,4,(⟨#[60]⟩ : ByteArray)),(13,4,(⟨#[60,61]⟩ : ByteArray)),(14,4,(⟨#[62]⟩ : ByteArray)),(15,4,(⟨#[62,61]⟩ : ByteArray)),(16,4,(⟨#[61]⟩ : ByteArray)),(17,4,(⟨#[33,61]⟩ : ByteArray)),(18,2,(⟨#[97,110,100]⟩ : ByteArray)),(19,1,(⟨#[111,114]⟩ : ByteArray))]
def opersV : AVal U0 := .agg (opsL.flatMap fun o => [.int .i64 o.1,.int .i64 o.2.1,.str o.2.2])
def opP (own : Int) : List (Int × Int × ByteArray) → List Wd → Option (Int × Bool × List Wd)
 | [],l => some (0,false,l)
 | o :: r,l => if o.2.1 = own then (takeP o.2.2 l).bind fun a => if a.1 = true then some (o.1,true,a.2) else opP own r a.2 else opP own r l
def loopP (E : Int → List Wd → PR Node) (own : Int) : Nat → Node → List Wd → PR Node
 | 0,_,_ => none
 | m + 1,n,l => (opP own opsL l).bind fun a => if a.2.1 = true then thenP (E (IntKind.i64.wrap (own + 1)) a.2.2) fun n2 r => if own = 4 then some (true,nd a.1 0 0 false (⟨#[]⟩ : ByteArray) (⟨#[]⟩ : ByteArray) 0 [n,n2],r) else loopP E own m (nd a.1 0 0 false (⟨#[]⟩ : ByteArray) (⟨#[]⟩ : ByteArray) 0 [n,n2]) r else some (true,n,a.2.2)
def exprB (E : Int → List Wd → PR Node) (own : Int) (l : List Wd) : PR Node := thenP (E (IntKind.i64.wrap (own + 1)) l) fun n r => loopP E own (r.length + 1) n r
noncomputable def exprP : Nat → Int → List Wd → PR Node
 | 0,_,_ => none
 | k + 1,own,l => if own = 3 then (takeP (⟨#[110,111,116]⟩ : ByteArray) l).bind fun a => if a.1 = true then thenP (exprP k 3 a.2) fun n r => some (true,nd 5 0 0 false (⟨#[]⟩ : ByteArray) (⟨#[]⟩ : ByteArray) 0 [n],r) else exprB (exprP k) (IntKind.i64.wrap (own + 1)) a.2
  else if own = 7 then (takeP (⟨#[45]⟩ : ByteArray) l).bind fun a => if a.1 = true then thenP (exprP k 7 a.2) fun n r => some (true,nd 6 0 0 false (⟨#[]⟩ : ByteArray) (⟨#[]⟩ : ByteArray) 0 [n],r) else partP (exprP k) a.2
  else exprB (exprP k) own l
noncomputable def partK (k : Nat) (l : List Wd) : PR Node := partP (exprP k) l
noncomputable def big (l : List Node) : Nat := SizeOf.sizeOf l + 1
/-- How deep: the kids, one by one. -/
def deepL (D : Node → Option Int) : List Node → Int → Option Int
 | [],d => some (IntKind.i64.wrap (d + 1))
 | n :: r,d => (D n).bind fun e => deepL D r (if e > d then e else d)
def deepP : Nat → List Node → Option Int
 | 0,_ => none
 | k + 1,l => if l.length ≤ 1000000 then deepL (fun n => deepP k n.x.2.2.2.2) l 0 else none
/-! ### the reference's -/
def takeR (s : ByteArray) (l : List Wd) (q : Bool) : RR Bool := (nth l 0).bind fun w => if isW s w = true then some (true,l.drop 1,q) else some (false,l,q)
def needR (s : ByteArray) (l : List Wd) (q : Bool) : Option (List Wd × Bool) := (takeR s l q).bind fun a => if a.1 = true then some a.2 else some (a.2.1,true)
def nameR (l : List Wd) (q : Bool) : RR ByteArray := (nth l 0).bind fun w => if w.1 = 1 ∧ kwP w.2.1 = false then some (w.2.1,l.drop 1,q) else some ((⟨#[]⟩ : ByteArray),l,true)
def moreR : Nat → ByteArray → List Wd → Bool → RR ByteArray
 | 0,_,_,_ => none
 | k + 1,t,l,q => if q = true then some (t,l,q) else (takeR (⟨#[46]⟩ : ByteArray) l q).bind fun a => if a.1 = true then (nameR a.2.1 a.2.2).bind fun b => if ((⟨#[46]⟩ : ByteArray)).size + b.1.size ≤ 9223372036854775807 then if t.size + ((⟨#[46]⟩ : ByteArray) ++ b.1).size ≤ 9223372036854775807 then moreR k (t ++ ((⟨#[46]⟩ : ByteArray) ++ b.1)) b.2.1 b.2.2 else none else none else some (t,a.2.1,a.2.2)
def pathR (k : Nat) (l : List Wd) (q : Bool) : RR ByteArray := (nameR l q).bind fun b => moreR k b.1 b.2.1 b.2.2
def pathRQ (l : List Wd) (q : Bool) : RR ByteArray := pathR (l.length + 1) l q
def partR (E : Int → List Wd → Bool → RR Node) (l : List Wd) (q : Bool) : RR Node :=
 (nth l 0).bind fun w => if w.1 = 2 then some (vI w.2.2,l.drop 1,q) else if w.1 = 3 then some (vT w.2.1,l.drop 1,q)
 else (takeR (⟨#[116,114,117,101]⟩ : ByteArray) l q).bind fun a => if a.1 = true then some (vB true,a.2)
 else (takeR (⟨#[102,97,108,115,101]⟩ : ByteArray) a.2.1 a.2.2).bind fun a => if a.1 = true then some (vB false,a.2)
 else (takeR (⟨#[40]⟩ : ByteArray) a.2.1 a.2.2).bind fun a => if a.1 = true then (E 1 a.2.1 a.2.2).bind fun b => (needR (⟨#[41]⟩ : ByteArray) b.2.1 b.2.2).bind fun c => some (b.1,c)
 else (takeR (⟨#[99,111,117,110,116]⟩ : ByteArray) a.2.1 a.2.2).bind fun a => if a.1 = true then (needR (⟨#[40]⟩ : ByteArray) a.2.1 a.2.2).bind fun c => (pathRQ c.1 c.2).bind fun b => (needR (⟨#[41]⟩ : ByteArray) b.2.1 b.2.2).bind fun c => some (nd 3 0 0 false (⟨#[]⟩ : ByteArray) b.1 0 [],c)
 else (takeR (⟨#[110,117,109,98,101,114]⟩ : ByteArray) a.2.1 a.2.2).bind fun a => if a.1 = true then (needR (⟨#[40]⟩ : ByteArray) a.2.1 a.2.2).bind fun c => (nameR c.1 c.2).bind fun b => (needR (⟨#[44]⟩ : ByteArray) b.2.1 b.2.2).bind fun c => (nameR c.1 c.2).bind fun d => (needR (⟨#[41]⟩ : ByteArray) d.2.1 (if d.2.2 = true then true else !decide (1 ≤ stP d.1))).bind fun c => some (nd 4 0 0 false (⟨#[]⟩ : ByteArray) b.1 (stP d.1) [],c)
 else (pathRQ a.2.1 a.2.2).bind fun b => some (nd 2 0 0 false (⟨#[]⟩ : ByteArray) b.1 0 [],b.2)
def tightP (op : Int) : Int := if op = 19 then 1 else if op = 18 then 2 else if op = 5 then 3 else if 12 ≤ op ∧ op ≤ 17 then 4 else if 10 ≤ op ∧ op ≤ 11 then 5 else if 7 ≤ op ∧ op ≤ 9 then 6 else if op = 6 then 7 else 8
def signP (op : Int) : ByteArray := if op = 19 then (⟨#[111,114]⟩ : ByteArray) else if op = 18 then (⟨#[97,110,100]⟩ : ByteArray) else if op = 12 then (⟨#[60]⟩ : ByteArray) else if op = 13 then (⟨#[60,61]⟩ : ByteArray) else if op = 14 then (⟨#[62]⟩ : ByteArray) else if op = 15 then (⟨#[62,61]⟩ : ByteArray) else if op = 16 then (⟨#[61]⟩ : ByteArray) else if op = 17 then (⟨#[33,61]⟩ : ByteArray) else if op = 10 then (⟨#[43]⟩ : ByteArray) else if op = 11 then (⟨#[45]⟩ : ByteArray) else if op = 7 then (⟨#[42]⟩ : ByteArray) else if op = 8 then (⟨#[47]⟩ : ByteArray) else if op = 9 then (⟨#[37]⟩ : ByteArray) else (⟨#[]⟩ : ByteArray)
/-- The operator that comes: the first of those of this tightness. -/
def opR (own : Int) : List Int → List Wd → Option Int
 | [],l => some 0
 | o :: r,l => if tightP o = own then (atP (signP o) l).bind fun a => if a = true then some o else opR own r l else opR own r l
def opsR : List Int := [7,8,9,10,11,12,13,14,15,16,17,18,19]
def loopR (E : Int → List Wd → Bool → RR Node) (own : Int) : Nat → Int → Node → List Wd → Bool → RR Node
 | 0,_,_,_,_ => none
 | m + 1,op,n,l,q => if 0 < op ∧ q = false then (nth l 0).bind fun _ => (E (IntKind.i64.wrap (own + 1)) (l.drop 1) q).bind fun b => if own = 4 then some (nd op 0 0 false (⟨#[]⟩ : ByteArray) (⟨#[]⟩ : ByteArray) 0 [n,b.1],b.2) else (opR own opsR b.2.1).bind fun o => loopR E own m o (nd op 0 0 false (⟨#[]⟩ : ByteArray) (⟨#[]⟩ : ByteArray) 0 [n,b.1]) b.2.1 b.2.2 else some (n,l,q)
mutual
def looseR : Nat → Int → List Wd → Bool → RR Node
 | 0,_,_,_ => none
 | k + 1,own,l,q => if q = true then some (nilN,l,q)
  else if own = 3 then (takeR (⟨#[110,111,116]⟩ : ByteArray) l q).bind fun a => if a.1 = true then (looseR k 3 a.2.1 a.2.2).bind fun b => some (nd 5 0 0 false (⟨#[]⟩ : ByteArray) (⟨#[]⟩ : ByteArray) 0 [b.1],b.2) else looseR k 4 a.2.1 a.2.2
  else if own = 7 then factorR k l q
  else (looseR k (IntKind.i64.wrap (own + 1)) l q).bind fun b => (opR own opsR b.2.1).bind fun o => loopR (looseR k) own (b.2.1.length + 1) o b.1 b.2.1 b.2.2
def factorR : Nat → List Wd → Bool → RR Node
 | 0,_,_ => none
 | k + 1,l,q => if q = true then partR (looseR k) l q else (takeR (⟨#[45]⟩ : ByteArray) l q).bind fun a => if a.1 = true then (factorR k a.2.1 a.2.2).bind fun b => some (nd 6 0 0 false (⟨#[]⟩ : ByteArray) (⟨#[]⟩ : ByteArray) 0 [b.1],b.2) else partR (looseR k) a.2.1 a.2.2
end
def partRK (k : Nat) (l : List Wd) (q : Bool) : RR Node := partR (looseR k) l q
noncomputable def cx_value_Int : Cx U0 (Rr U0) := cxOf specs_dossierref08_Words
noncomputable def value_Int.spec : Spec := fun args st K => match args,st.box,st.nt with
 | [.int .i64 z],[],0 => (some (1,z,false,⟨#[]⟩)).bind fun v => K (.ret (.agg [.int .i64 v.1,.int .i64 v.2.1,.bool v.2.2.1,.str v.2.2.2])) (lcRet [] [] 0)
 | _,_,_ => none
noncomputable def specs_value_Int : List (FuncId × Bool × Spec) := (55,false,value_Int.spec) :: specs_dossierref08_Words
noncomputable def cx_value_Text : Cx U0 (Rr U0) := cxOf specs_value_Int
noncomputable def value_Text.spec : Spec := fun args st K => match args,st.box,st.nt with
 | [.str t],[],0 => (some (3,0,false,t)).bind fun v => K (.ret (.agg [.int .i64 v.1,.int .i64 v.2.1,.bool v.2.2.1,.str v.2.2.2])) (lcRet [] [] 0)
 | _,_,_ => none
noncomputable def specs_value_Text : List (FuncId × Bool × Spec) := (75,false,value_Text.spec) :: specs_value_Int
noncomputable def cx_value_Bool : Cx U0 (Rr U0) := cxOf specs_value_Text
noncomputable def value_Bool.spec : Spec := fun args st K => match args,st.box,st.nt with
 | [.bool b],[],0 => (some (2,0,b,⟨#[]⟩)).bind fun v => K (.ret (.agg [.int .i64 v.1,.int .i64 v.2.1,.bool v.2.2.1,.str v.2.2.2])) (lcRet [] [] 0)
 | _,_,_ => none
noncomputable def specs_value_Bool : List (FuncId × Bool × Spec) := (76,false,value_Bool.spec) :: specs_value_Text
noncomputable def cx_dossierref07_Int : Cx U0 (Rr U0) := cxOf specs_value_Bool
noncomputable def dossierref07_Int.spec : Spec := fun args st K => match args,st.box,st.nt with
 | [.int .i64 z],[],0 => (some (1,z,false,⟨#[]⟩)).bind fun v => K (.ret (.agg [.int .i64 v.1,.int .i64 v.2.1,.bool v.2.2.1,.str v.2.2.2])) (lcRet [] [] 0)
 | _,_,_ => none
noncomputable def specs_dossierref07_Int : List (FuncId × Bool × Spec) := (60,false,dossierref07_Int.spec) :: specs_value_Bool
noncomputable def cx_dossierref07_Text : Cx U0 (Rr U0) := cxOf specs_dossierref07_Int
noncomputable def dossierref07_Text.spec : Spec := fun args st K => match args,st.box,st.nt with
 | [.str t],[],0 => (some (3,0,false,t)).bind fun v => K (.ret (.agg [.int .i64 v.1,.int .i64 v.2.1,.bool v.2.2.1,.str v.2.2.2])) (lcRet [] [] 0)
 | _,_,_ => none
noncomputable def specs_dossierref07_Text : List (FuncId × Bool × Spec) := (126,false,dossierref07_Text.spec) :: specs_dossierref07_Int
noncomputable def cx_dossierref07_Bool : Cx U0 (Rr U0) := cxOf specs_dossierref07_Text
noncomputable def dossierref07_Bool.spec : Spec := fun args st K => match args,st.box,st.nt with
 | [.bool b],[],0 => (some (2,0,b,⟨#[]⟩)).bind fun v => K (.ret (.agg [.int .i64 v.1,.int .i64 v.2.1,.bool v.2.2.1,.str v.2.2.2])) (lcRet [] [] 0)
 | _,_,_ => none
noncomputable def specs_dossierref07_Bool : List (FuncId × Bool × Spec) := (20,false,dossierref07_Bool.spec) :: specs_dossierref07_Text
noncomputable def cx_expr_Keyword : Cx U0 (Rr U0) := cxOf specs_dossierref07_Bool
noncomputable def expr_Keyword.spec : Spec := fun args st K => match args,st.box,st.nt with
 | [.str s],[],0 => (some (kwP s)).bind fun v => K (.ret (.bool v)) (lcRet [] [] 0)
 | _,_,_ => none
noncomputable def specs_expr_Keyword : List (FuncId × Bool × Spec) := (116,false,expr_Keyword.spec) :: specs_dossierref07_Bool
noncomputable def cx_ref_Keyword : Cx U0 (Rr U0) := cxOf specs_expr_Keyword
noncomputable def ref_Keyword.spec : Spec := fun args st K => match args,st.box,st.nt with
 | [.str s],[],0 => (some (kwP s)).bind fun v => K (.ret (.bool v)) (lcRet [] [] 0)
 | _,_,_ => none
noncomputable def specs_ref_Keyword : List (FuncId × Bool × Spec) := (125,false,ref_Keyword.spec) :: specs_expr_Keyword
noncomputable def cx_expr_names : Cx U0 (Rr U0) := cxOf specs_ref_Keyword
noncomputable def expr_names.spec : Spec := fun args st K => match args,st.box,st.nt with
 | [],[],0 => (some ()).bind fun v => K (.ret (namesV)) (lcRet [] [] 0)
 | _,_,_ => none
noncomputable def specs_expr_names : List (FuncId × Bool × Spec) := (118,false,expr_names.spec) :: specs_ref_Keyword
noncomputable def cx_slices_Index : Cx U0 (Rr U0) := cxOf specs_expr_names
noncomputable def slices_Index.spec : Spec := fun args st K => match args,st.box,st.nt with
 | [.sl .str a .no,.str s],[],0 => (if a.length ≤ 1000 then some (idxP s a 0) else none).bind fun v => K (.ret (.int .i64 v)) (lcRet [] [] 0)
 | _,_,_ => none
noncomputable def specs_slices_Index : List (FuncId × Bool × Spec) := (86,false,slices_Index.spec) :: specs_expr_names
noncomputable def cx_expr_State : Cx U0 (Rr U0) := cxOf specs_slices_Index
noncomputable def expr_State.spec : Spec := fun args st K => match args,st.box,st.nt with
 | [.str s],[],0 => (some (stP s,decide (1 ≤ stP s))).bind fun v => K (.ret (.tup [.int .i64 v.1,.bool v.2])) (lcRet [] [] 0)
 | _,_,_ => none
noncomputable def specs_expr_State : List (FuncId × Bool × Spec) := (79,false,expr_State.spec) :: specs_slices_Index
noncomputable def cx_expr_StateName : Cx U0 (Rr U0) := cxOf specs_expr_State
noncomputable def expr_StateName.spec : Spec := fun args st K => match args,st.box,st.nt with
 | [.int .i64 z],[],0 => (some (nmP z)).bind fun v => K (.ret (.str v)) (lcRet [] [] 0)
 | _,_,_ => none
noncomputable def specs_expr_StateName : List (FuncId × Bool × Spec) := (84,false,expr_StateName.spec) :: specs_expr_State
noncomputable def cx_ref_states : Cx U0 (Rr U0) := cxOf specs_expr_StateName
noncomputable def ref_states.spec : Spec := fun args st K => match args,st.box,st.nt with
 | [],[],0 => (some statesL).bind fun v => K (.ret (.sl .str (v) .no)) (lcRet [] [] 0)
 | _,_,_ => none
noncomputable def specs_ref_states : List (FuncId × Bool × Spec) := (155,false,ref_states.spec) :: specs_expr_StateName
noncomputable def cx_ref_State : Cx U0 (Rr U0) := cxOf specs_ref_states
noncomputable def ref_State.spec : Spec := fun args st K => match args,st.box,st.nt with
 | [.str s],[],0 => (some (stP s,decide (1 ≤ stP s))).bind fun v => K (.ret (.tup [.int .i64 v.1,.bool v.2])) (lcRet [] [] 0)
 | _,_,_ => none
noncomputable def specs_ref_State : List (FuncId × Bool × Spec) := (130,false,ref_State.spec) :: specs_ref_states
noncomputable def cx_expr_must : Cx U0 (Rr U0) := cxOf specs_ref_State
noncomputable def expr_must.spec : Spec := fun args st K => match args,st.box,st.nt with
 | [.bool b],[],0 => (some b).bind fun v => if v = true then K (.ret (.tup [])) (lcRet [] [] 0) else K (.pan (.iface 57 (.agg []))) (lcRet [] [] 0)
 | _,_,_ => none
noncomputable def specs_expr_must : List (FuncId × Bool × Spec) := (24,false,expr_must.spec) :: specs_ref_State
noncomputable def cx_expr_next : Cx U0 (Rr U0) := cxOf specs_expr_must
noncomputable def expr_next.spec : Spec := fun args st K => match args,st.box,st.nt with
 | [.ptr 0 0],[[.sl (.pair (.int .i64) (.pair .str (.int .i64))) l .no]],0 => ((nth l 0 : Option Wd)).bind fun v => K (.ret (.agg [.int .i64 v.1,.str v.2.1,.int .i64 v.2.2])) (lcRet [[.sl W l .no]] [] 0)
 | _,_,_ => none
noncomputable def specs_expr_next : List (FuncId × Bool × Spec) := (25,false,expr_next.spec) :: specs_expr_must
noncomputable def cx_expr_skip : Cx U0 (Rr U0) := cxOf specs_expr_next
noncomputable def expr_skip.spec : Spec := fun args st K => match args,st.box,st.nt with
 | [.ptr 0 0],[[.sl (.pair (.int .i64) (.pair .str (.int .i64))) l .no]],0 => ((nth l 0).bind fun w : Wd => some (w.1,w.2.1,w.2.2,l.drop 1)).bind fun v => K (.ret (.agg [.int .i64 v.1,.str v.2.1,.int .i64 v.2.2.1])) (lcRet [[.sl W (v.2.2.2) .no]] [] 0)
 | _,_,_ => none
noncomputable def specs_expr_skip : List (FuncId × Bool × Spec) := (74,false,expr_skip.spec) :: specs_expr_next
noncomputable def cx_expr_at : Cx U0 (Rr U0) := cxOf specs_expr_skip
noncomputable def expr_at.spec : Spec := fun args st K => match args,st.box,st.nt with
 | [.ptr 0 0,.str s],[[.sl (.pair (.int .i64) (.pair .str (.int .i64))) l .no]],0 => (atP s l).bind fun v => K (.ret (.bool v)) (lcRet [[.sl W l .no]] [] 0)
 | _,_,_ => none
noncomputable def specs_expr_at : List (FuncId × Bool × Spec) := (73,false,expr_at.spec) :: specs_expr_skip
noncomputable def cx_expr_take : Cx U0 (Rr U0) := cxOf specs_expr_at
noncomputable def expr_take.spec : Spec := fun args st K => match args,st.box,st.nt with
 | [.ptr 0 0,.str s],[[.sl (.pair (.int .i64) (.pair .str (.int .i64))) l .no]],0 => (takeP s l).bind fun v => K (.ret (.bool v.1)) (lcRet [[.sl W (v.2) .no]] [] 0)
 | _,_,_ => none
noncomputable def specs_expr_take : List (FuncId × Bool × Spec) := (38,false,expr_take.spec) :: specs_expr_at
noncomputable def cx_expr_name : Cx U0 (Rr U0) := cxOf specs_expr_take
noncomputable def expr_name.spec : Spec := fun args st K => match args,st.box,st.nt with
 | [.ptr 0 0],[[.sl (.pair (.int .i64) (.pair .str (.int .i64))) l .no]],0 => (nameP l).bind fun v => if v.1 = true then K (.ret (.str v.2.1)) (lcRet [[.sl W (v.2.2) .no]] [] 0) else K (.pan (.iface 57 (.agg []))) (lcRet [[.sl W (v.2.2) .no]] [] 0)
 | _,_,_ => none
noncomputable def specs_expr_name : List (FuncId × Bool × Spec) := (78,false,expr_name.spec) :: specs_expr_take
noncomputable def cx_expr_path : Cx U0 (Rr U0) := cxOf specs_expr_name
noncomputable def expr_path.spec : Spec := fun args st K => match args,st.box,st.nt with
 | [.ptr 0 0],[[.sl (.pair (.int .i64) (.pair .str (.int .i64))) l .no]],0 => (pathQ l).bind fun v => if v.1 = true then K (.ret (.str v.2.1)) (lcRet [[.sl W (v.2.2) .no]] [] 0) else K (.pan (.iface 57 (.agg []))) (lcRet [[.sl W (v.2.2) .no]] [] 0)
 | _,_,_ => none
noncomputable def specs_expr_path : List (FuncId × Bool × Spec) := (77,false,expr_path.spec) :: specs_expr_name
noncomputable def cx_expr_operators : Cx U0 (Rr U0) := cxOf specs_expr_path
noncomputable def expr_operators.spec : Spec := fun args st K => match args,st.box,st.nt with
 | [],[],0 => (some ()).bind fun v => K (.ret (opersV)) (lcRet [] [] 0)
 | _,_,_ => none
noncomputable def specs_expr_operators : List (FuncId × Bool × Spec) := (80,false,expr_operators.spec) :: specs_expr_path
noncomputable def cx_expr_operator : Cx U0 (Rr U0) := cxOf specs_expr_operators
noncomputable def expr_operator.spec : Spec := fun args st K => match args,st.box,st.nt with
 | [.ptr 0 0,.int .i64 own],[[.sl (.pair (.int .i64) (.pair .str (.int .i64))) l .no]],0 => (opP own opsL l).bind fun v => K (.ret (.tup [.int .i64 v.1,.bool v.2.1])) (lcRet [[.sl W (v.2.2) .no]] [] 0)
 | _,_,_ => none
noncomputable def specs_expr_operator : List (FuncId × Bool × Spec) := (40,false,expr_operator.spec) :: specs_expr_operators
noncomputable def cx_expr_part : Cx U0 (Rr U0) := cxOf specs_expr_operator
noncomputable def expr_part.specR (k : Nat) : Spec := fun args st K => match args,st.box,st.nt with
 | [.ptr 0 0],[[.sl (.pair (.int .i64) (.pair .str (.int .i64))) l .no]],0 => (partK k l).bind fun v => if v.1 = true then K (.ret (.agg (C0.flat 0 (v.2.1)))) (lcRet [[.sl W (v.2.2) .no]] [] 0) else K (.pan (.iface 57 (.agg []))) (lcRet [[.sl W (v.2.2) .no]] [] 0)
 | _,_,_ => none
noncomputable def expr_part.spec : Spec := fun args st K => match args,st.box,st.nt with
 | [.ptr 0 0],[[.sl (.pair (.int .i64) (.pair .str (.int .i64))) l .no]],0 => (partK (9*l.length+9) l).bind fun v => if v.1 = true then K (.ret (.agg (C0.flat 0 (v.2.1)))) (lcRet [[.sl W (v.2.2) .no]] [] 0) else K (.pan (.iface 57 (.agg []))) (lcRet [[.sl W (v.2.2) .no]] [] 0)
 | _,_,_ => none
noncomputable def specs_expr_part : List (FuncId × Bool × Spec) := (39,false,expr_part.spec) :: specs_expr_operator
noncomputable def cx_expr_expression : Cx U0 (Rr U0) := cxOf specs_expr_operator
noncomputable def expr_expression.specR (k : Nat) : Spec := fun args st K => match args,st.box,st.nt with
 | [.ptr 0 0,.int .i64 own],[[.sl (.pair (.int .i64) (.pair .str (.int .i64))) l .no]],0 => (exprP k own l).bind fun v => if v.1 = true then K (.ret (.agg (C0.flat 0 (v.2.1)))) (lcRet [[.sl W (v.2.2) .no]] [] 0) else K (.pan (.iface 57 (.agg []))) (lcRet [[.sl W (v.2.2) .no]] [] 0)
 | _,_,_ => none
noncomputable def expr_expression.spec : Spec := fun args st K => match args,st.box,st.nt with
 | [.ptr 0 0,.int .i64 own],[[.sl (.pair (.int .i64) (.pair .str (.int .i64))) l .no]],0 => (exprP (9*l.length+9) own l).bind fun v => if v.1 = true then K (.ret (.agg (C0.flat 0 (v.2.1)))) (lcRet [[.sl W (v.2.2) .no]] [] 0) else K (.pan (.iface 57 (.agg []))) (lcRet [[.sl W (v.2.2) .no]] [] 0)
 | _,_,_ => none
noncomputable def specs_expr_expression : List (FuncId × Bool × Spec) := (23,false,expr_expression.spec) :: specs_expr_part
noncomputable def cx_expr_Depth : Cx U0 (Rr U0) := cxOf specs_expr_expression
noncomputable def expr_Depth.specR (k : Nat) : Spec := fun args st K => match args,st.box,st.nt with
 | [.agg [.int .i64 a0,.int .i64 a1,.int .i64 a2,.bool a3,.str a4,.str a5,.int .i64 a6,.sl (.user 0) a7 .no]],[],0 => (deepP k a7).bind fun v => K (.ret (.int .i64 v)) (lcRet [] [] 0)
 | _,_,_ => none
noncomputable def expr_Depth.rec (k : Nat) := recL [(26,expr_Depth.specR k)]
noncomputable def expr_Depth.spec : Spec := fun args st K => match args,st.box,st.nt with
 | [.agg [.int .i64 a0,.int .i64 a1,.int .i64 a2,.bool a3,.str a4,.str a5,.int .i64 a6,.sl (.user 0) a7 .no]],[],0 => (deepP (big a7) a7).bind fun v => K (.ret (.int .i64 v)) (lcRet [] [] 0)
 | _,_,_ => none
noncomputable def specs_expr_Depth : List (FuncId × Bool × Spec) := (26,false,expr_Depth.spec) :: specs_expr_expression
noncomputable def cx_ref_Depth : Cx U0 (Rr U0) := cxOf specs_expr_Depth
noncomputable def ref_Depth.specR (k : Nat) : Spec := fun args st K => match args,st.box,st.nt with
 | [.agg [.int .i64 a0,.int .i64 a1,.int .i64 a2,.bool a3,.str a4,.str a5,.int .i64 a6,.sl (.user 0) a7 .no]],[],0 => (deepP k a7).bind fun v => K (.ret (.int .i64 v)) (lcRet [] [] 0)
 | _,_,_ => none
noncomputable def ref_Depth.rec (k : Nat) := recL [(31,ref_Depth.specR k)]
noncomputable def ref_Depth.spec : Spec := fun args st K => match args,st.box,st.nt with
 | [.agg [.int .i64 a0,.int .i64 a1,.int .i64 a2,.bool a3,.str a4,.str a5,.int .i64 a6,.sl (.user 0) a7 .no]],[],0 => (deepP (big a7) a7).bind fun v => K (.ret (.int .i64 v)) (lcRet [] [] 0)
 | _,_,_ => none
noncomputable def specs_ref_Depth : List (FuncId × Bool × Spec) := (31,false,ref_Depth.spec) :: specs_expr_Depth
noncomputable def cx_ref_is : Cx U0 (Rr U0) := cxOf specs_ref_Depth
noncomputable def ref_is.spec : Spec := fun args st K => match args,st.box,st.nt with
 | [.ptr 0 0,.str s],[[.sl (.pair (.int .i64) (.pair .str (.int .i64))) l .no,.bool q]],0 => (atP s l).bind fun v => K (.ret (.bool v)) (lcRet [[.sl W l .no,.bool q]] [] 0)
 | _,_,_ => none
noncomputable def specs_ref_is : List (FuncId × Bool × Spec) := (96,false,ref_is.spec) :: specs_ref_Depth
noncomputable def cx_ref_take : Cx U0 (Rr U0) := cxOf specs_ref_is
noncomputable def ref_take.spec : Spec := fun args st K => match args,st.box,st.nt with
 | [.ptr 0 0,.str s],[[.sl (.pair (.int .i64) (.pair .str (.int .i64))) l .no,.bool q]],0 => (takeR s l q).bind fun v => K (.ret (.bool v.1)) (lcRet [[.sl W (v.2.1) .no,.bool (v.2.2)]] [] 0)
 | _,_,_ => none
noncomputable def specs_ref_take : List (FuncId × Bool × Spec) := (47,false,ref_take.spec) :: specs_ref_is
noncomputable def cx_ref_need : Cx U0 (Rr U0) := cxOf specs_ref_take
noncomputable def ref_need.spec : Spec := fun args st K => match args,st.box,st.nt with
 | [.ptr 0 0,.str s],[[.sl (.pair (.int .i64) (.pair .str (.int .i64))) l .no,.bool q]],0 => (needR s l q).bind fun v => K (.ret (.tup [])) (lcRet [[.sl W (v.1) .no,.bool (v.2)]] [] 0)
 | _,_,_ => none
noncomputable def specs_ref_need : List (FuncId × Bool × Spec) := (127,false,ref_need.spec) :: specs_ref_take
noncomputable def cx_ref_name : Cx U0 (Rr U0) := cxOf specs_ref_need
noncomputable def ref_name.spec : Spec := fun args st K => match args,st.box,st.nt with
 | [.ptr 0 0],[[.sl (.pair (.int .i64) (.pair .str (.int .i64))) l .no,.bool q]],0 => (nameR l q).bind fun v => K (.ret (.str v.1)) (lcRet [[.sl W (v.2.1) .no,.bool (v.2.2)]] [] 0)
 | _,_,_ => none
noncomputable def specs_ref_name : List (FuncId × Bool × Spec) := (129,false,ref_name.spec) :: specs_ref_need
noncomputable def cx_ref_path : Cx U0 (Rr U0) := cxOf specs_ref_name
noncomputable def ref_path.spec : Spec := fun args st K => match args,st.box,st.nt with
 | [.ptr 0 0],[[.sl (.pair (.int .i64) (.pair .str (.int .i64))) l .no,.bool q]],0 => (pathRQ l q).bind fun v => K (.ret (.str v.1)) (lcRet [[.sl W (v.2.1) .no,.bool (v.2.2)]] [] 0)
 | _,_,_ => none
noncomputable def specs_ref_path : List (FuncId × Bool × Spec) := (128,false,ref_path.spec) :: specs_ref_name
noncomputable def cx_ref_tight : Cx U0 (Rr U0) := cxOf specs_ref_path
noncomputable def ref_tight.spec : Spec := fun args st K => match args,st.box,st.nt with
 | [.int .i64 op],[],0 => (some (tightP op)).bind fun v => K (.ret (.int .i64 v)) (lcRet [] [] 0)
 | _,_,_ => none
noncomputable def specs_ref_tight : List (FuncId × Bool × Spec) := (98,false,ref_tight.spec) :: specs_ref_path
noncomputable def cx_ref_sign : Cx U0 (Rr U0) := cxOf specs_ref_tight
noncomputable def ref_sign.spec : Spec := fun args st K => match args,st.box,st.nt with
 | [.int .i64 op],[],0 => (some (signP op)).bind fun v => K (.ret (.str v)) (lcRet [] [] 0)
 | _,_,_ => none
noncomputable def specs_ref_sign : List (FuncId × Bool × Spec) := (99,false,ref_sign.spec) :: specs_ref_tight
noncomputable def cx_ref_operator : Cx U0 (Rr U0) := cxOf specs_ref_sign
noncomputable def ref_operator.spec : Spec := fun args st K => match args,st.box,st.nt with
 | [.ptr 0 0,.int .i64 own],[[.sl (.pair (.int .i64) (.pair .str (.int .i64))) l .no,.bool q]],0 => (opR own opsR l).bind fun v => K (.ret (.int .i64 v)) (lcRet [[.sl W l .no,.bool q]] [] 0)
 | _,_,_ => none
noncomputable def specs_ref_operator : List (FuncId × Bool × Spec) := (49,false,ref_operator.spec) :: specs_ref_sign
noncomputable def cx_ref_part : Cx U0 (Rr U0) := cxOf specs_ref_operator
noncomputable def ref_part.specR (k : Nat) : Spec := fun args st K => match args,st.box,st.nt with
 | [.ptr 0 0],[[.sl (.pair (.int .i64) (.pair .str (.int .i64))) l .no,.bool q]],0 => (partRK k l q).bind fun v => K (.ret (.agg (C0.flat 0 (v.1)))) (lcRet [[.sl W (v.2.1) .no,.bool (v.2.2)]] [] 0)
 | _,_,_ => none
noncomputable def ref_part.spec : Spec := fun args st K => match args,st.box,st.nt with
 | [.ptr 0 0],[[.sl (.pair (.int .i64) (.pair .str (.int .i64))) l .no,.bool q]],0 => (partRK (9*l.length+9) l q).bind fun v => K (.ret (.agg (C0.flat 0 (v.1)))) (lcRet [[.sl W (v.2.1) .no,.bool (v.2.2)]] [] 0)
 | _,_,_ => none
noncomputable def specs_ref_part : List (FuncId × Bool × Spec) := (97,false,ref_part.spec) :: specs_ref_operator
noncomputable def cx_ref_factor : Cx U0 (Rr U0) := cxOf specs_ref_operator
noncomputable def ref_factor.specR (k : Nat) : Spec := fun args st K => match args,st.box,st.nt with
 | [.ptr 0 0],[[.sl (.pair (.int .i64) (.pair .str (.int .i64))) l .no,.bool q]],0 => (factorR k l q).bind fun v => K (.ret (.agg (C0.flat 0 (v.1)))) (lcRet [[.sl W (v.2.1) .no,.bool (v.2.2)]] [] 0)
 | _,_,_ => none
noncomputable def ref_factor.spec : Spec := fun args st K => match args,st.box,st.nt with
 | [.ptr 0 0],[[.sl (.pair (.int .i64) (.pair .str (.int .i64))) l .no,.bool q]],0 => (factorR (9*l.length+9) l q).bind fun v => K (.ret (.agg (C0.flat 0 (v.1)))) (lcRet [[.sl W (v.2.1) .no,.bool (v.2.2)]] [] 0)
 | _,_,_ => none
noncomputable def specs_ref_factor : List (FuncId × Bool × Spec) := (48,false,ref_factor.spec) :: specs_ref_part
noncomputable def cx_ref_loose : Cx U0 (Rr U0) := cxOf specs_ref_operator
noncomputable def ref_loose.specR (k : Nat) : Spec := fun args st K => match args,st.box,st.nt with
 | [.ptr 0 0,.int .i64 own],[[.sl (.pair (.int .i64) (.pair .str (.int .i64))) l .no,.bool q]],0 => (looseR k own l q).bind fun v => K (.ret (.agg (C0.flat 0 (v.1)))) (lcRet [[.sl W (v.2.1) .no,.bool (v.2.2)]] [] 0)
 | _,_,_ => none
noncomputable def ref_loose.spec : Spec := fun args st K => match args,st.box,st.nt with
 | [.ptr 0 0,.int .i64 own],[[.sl (.pair (.int .i64) (.pair .str (.int .i64))) l .no,.bool q]],0 => (looseR (9*l.length+9) own l q).bind fun v => K (.ret (.agg (C0.flat 0 (v.1)))) (lcRet [[.sl W (v.2.1) .no,.bool (v.2.2)]] [] 0)
 | _,_,_ => none
noncomputable def specs_ref_loose : List (FuncId × Bool × Spec) := (30,false,ref_loose.spec) :: specs_ref_factor
noncomputable def expr_part.rec (k : Nat) := recL [(23,expr_expression.specR k)]
noncomputable def expr_expression.rec (k : Nat) := recL [(23,expr_expression.specR k),(39,expr_part.specR k)]
noncomputable def ref_part.rec (k : Nat) := recL [(30,ref_loose.specR k)]
noncomputable def ref_factor.rec (k : Nat) := recL [(48,ref_factor.specR k),(97,ref_part.specR k)]
noncomputable def ref_loose.rec (k : Nat) := recL [(30,ref_loose.specR k),(48,ref_factor.specR k)]
end Go.Proofs.YtbcpnpbkbndkjaaGreatDoor.Ev
end
