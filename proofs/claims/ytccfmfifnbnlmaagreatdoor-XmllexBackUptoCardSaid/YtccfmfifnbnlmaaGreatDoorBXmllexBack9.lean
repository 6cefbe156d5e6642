/- Several texts in one, in their order. -/
import Derived.Test.YtccfmfifnbnlmaaGreatDoorBXmllexBack7
import Derived.Test.YtccfmfifnbnlmaaGreatDoorBXmllexBack8
import Derived.KernelRfl
section
/- The evaluator's trees are the functions that were printed: characters, words. -/
set_option linter.unusedVariables false
set_option linter.unusedSimpArgs false
namespace Go.Proofs.YtccfmfifnbnlmaaGreatDoor.Ev
open Go Go.RowKit Go.Proofs.YtccfmfifnbnlmaaGreatDoorW.PrintWords
theorem chars_Decode.ok : AllOk specs_chars_Decode := okS (cx := cx_chars_Decode) rfl lib_ok (by kernel_rfl) fun args cs n K r g => by
 unfold chars_Decode.spec at g
 dsimp only [lcSt] at g
 split at g
 · rename_i b
   obtain ⟨v,h,h2⟩ := bind2 g
   clear g
   refine okG h2 ?_
   clear h2
   refine ⟨0,?_⟩
   rw [chars_Decode.top]
   unfold Q.chars_Decode.f at h
   simp only [ite_or,ite_and,seq_list,wrap_64,ba_list,decide_eq_true_eq,beq_iff_eq] at h ⊢
   grind [→ bindE]
 · cases g
theorem chars_in.l_ev (n : Nat) (r : Int) (l0 : List (Int × Int)) : ∀ (k m : Nat) (x : Int) (l : List (Int × Int)) (c i : Int) (v : Bool),k ≤ m → Q.chars_in.l0 k x (l.map fun p => ⟨p.1,p.2⟩) c i = some v → chars_in.L0 n m r l0 x l c i = some (.ret (.bool v),lcRet [] [] 0) := by
 intro k
 induction k with
 | zero => intro m x l c i v _ h; simp [Q.chars_in.l0] at h
 | succ k ih =>
  intro m x l c i v hk h
  obtain ⟨m,rfl⟩ : ∃ m',m = m' + 1 := ⟨m - 1,by omega⟩
  rw [Q.chars_in.l0] at h
  rw [chars_in.L0_s]
  have hg : ∀ (i : Int),0 ≤ i → i < l.length → nth l i.toNat = some (l.getD i.toNat (0,0)) ∧ (Q.rd_T121 (l.map fun p => ⟨p.1,p.2⟩) i) = ⟨(l.getD i.toNat (0,0)).1,(l.getD i.toNat (0,0)).2⟩ := by
   intro i h0 h1
   have hlt : i.toNat < l.length := by omega
   rw [nth_get,List.getElem?_eq_getElem hlt]
   unfold Q.rd_T121
   rw [List.getD_eq_getElem?_getD,List.getD_eq_getElem?_getD,List.getElem?_map,List.getElem?_eq_getElem hlt]
   exact ⟨rfl,rfl⟩
  have hlen : (l.map fun p => (⟨p.1,p.2⟩ : Q.S121)).length = l.length := List.length_map _
  rw [hlen] at h
  simp only [ite_or,ite_and,seq_list,wrap_64,ba_list,decide_eq_true_eq,beq_iff_eq] at h ⊢
  grind [→ bindE]
theorem chars_in.ok : AllOk specs_chars_in := okS (cx := cx_chars_in) rfl chars_Decode.ok (by kernel_rfl) fun args cs n K r g => by
 unfold chars_in.spec at g
 dsimp only [lcSt] at g
 split at g
 · rename_i r l
   obtain ⟨v,h1,h2⟩ := bind2 g
   obtain ⟨k,hk,h⟩ := lim_some h1
   clear h1
   clear g
   refine okG h2 ?_
   clear h2
   refine ⟨k,?_⟩
   rw [chars_in.top]
   unfold Q.chars_in.f at h
   rw [List.length_map] at h
   exact chars_in.l_ev k r l k k r l _ 0 v (Nat.le_refl _) h
 · cases g
theorem chars_ofXML.ok : AllOk specs_chars_ofXML := okS (cx := cx_chars_ofXML) rfl chars_in.ok (by kernel_rfl) fun args cs n K r g => by
 unfold chars_ofXML.spec at g
 dsimp only [lcSt] at g
 split at g
 · rename_i r
   obtain ⟨v,h1,h2⟩ := bind2 g
   obtain ⟨k,hk,h⟩ := lim_some h1
   clear h1
   clear g
   refine okG h2 ?_
   clear h2
   refine ⟨0,?_⟩
   rw [chars_ofXML.top]
   unfold Q.chars_ofXML.f at h
   obtain ⟨b,h1,h2⟩ := bind2 h
   obtain rfl := Option.some.inj h2
   have := lim_of (X := fun k => Q.chars_in.f k r [⟨32,55295⟩,⟨9,10⟩,⟨13,13⟩,⟨57344,65533⟩,⟨65536,1114111⟩]) (fun k => Q.chars_in.mono r _ k) hk h1
   simp only [List.map] 
   rw [this]
   rfl
 · cases g
theorem chars_Wrong.l_ev (n : Nat) (b : List Int) : ∀ (k m : Nat) (l : List Int) (i : Int) (v : Int),k ≤ 16000000 → k ≤ m → Q.chars_Wrong.l0 k l i = some v → chars_Wrong.L0 n m b l i = some (.ret (.int .i64 v),lcRet [] [] 0) := by
 intro k
 induction k with
 | zero => intro m l i v _ _ h; simp [Q.chars_Wrong.l0] at h
 | succ k ih =>
  intro m l i v hk0 hk h
  obtain ⟨m,rfl⟩ : ∃ m',m = m' + 1 := ⟨m - 1,by omega⟩
  rw [Q.chars_Wrong.l0] at h
  rw [chars_Wrong.L0_s]
  have hx : ∀ r v,Q.chars_ofXML.f k r = some v → lim (fun k => Q.chars_ofXML.f k r) = some v := fun r v h => lim_of (fun k => Q.chars_ofXML.mono r k) (by omega) h
  simp only [ite_or,ite_and,seq_list,wrap_64,ba_list,decide_eq_true_eq,beq_iff_eq] at h ⊢
  grind [→ bindE]
theorem chars_Wrong.ok : AllOk specs_chars_Wrong := okS (cx := cx_chars_Wrong) rfl chars_ofXML.ok (by kernel_rfl) fun args cs n K r g => by
 unfold chars_Wrong.spec at g
 dsimp only [lcSt] at g
 split at g
 · rename_i b
   obtain ⟨v,h1,h2⟩ := bind2 g
   obtain ⟨k,hk,h⟩ := lim_some h1
   clear h1
   clear g
   refine okG h2 ?_
   clear h2
   refine ⟨k,?_⟩
   rw [chars_Wrong.top]
   exact chars_Wrong.l_ev k b k k b 0 v hk (Nat.le_refl _) h
 · cases g
theorem dossierref01_Space.ok : AllOk specs_dossierref01_Space := okS (cx := cx_dossierref01_Space) rfl chars_Wrong.ok (by kernel_rfl) fun args cs n K r g => by
 unfold dossierref01_Space.spec at g
 dsimp only [lcSt] at g
 split at g
 · rename_i r
   obtain ⟨v,h,h2⟩ := bind2 g
   clear g
   refine okG h2 ?_
   clear h2
   refine ⟨0,?_⟩
   rw [dossierref01_Space.top]
   unfold Q.dossierref01_Space.f at h
   simp only [ite_or,ite_and,false_or_b,true_and_b,seq_list,seq_false,wrap_64,wrap_8,wrap_u64_mod,ba_list,decide_eq_true_eq,beq_iff_eq,Bool.not_eq_true',Int.zero_sub,toBytes_len,bt_eq,shr_6,shr_12,shr_18,wrap64_mod,toNat0,toNat1,toNat2,most,List.length_cons,List.length_nil,ofBytes_eq] at h ⊢
   grind [→ bindE]
 · cases g
theorem dossierref01_Encode.ok : AllOk specs_dossierref01_Encode := okS (cx := cx_dossierref01_Encode) rfl dossierref01_Space.ok (by kernel_rfl) fun args cs n K r g => by
 unfold dossierref01_Encode.spec at g
 dsimp only [lcSt] at g
 split at g
 · rename_i r
   obtain ⟨v,h1,h2⟩ := bind2 g
   obtain ⟨k,hk,h⟩ := lim_some h1
   clear h1
   clear g
   refine okG h2 ?_
   clear h2
   refine ⟨0,?_⟩
   rw [dossierref01_Encode.top]
   unfold Q.dossierref01_Encode.f at h
   rcases k with _ | k <;> simp only [Q.dossierref01_Encode.j0] at h <;> simp only [ite_or,ite_and,false_or_b,true_and_b,seq_list,seq_false,wrap_64,wrap_8,wrap_u64_mod,ba_list,decide_eq_true_eq,beq_iff_eq,Bool.not_eq_true',Int.zero_sub,toBytes_len,bt_eq,shr_6,shr_12,shr_18,wrap64_mod,toNat0,toNat1,toNat2,most,List.length_cons,List.length_nil,ofBytes_eq] at h ⊢ <;> grind
 · cases g
theorem dossierref01_Decode.l_ev (n : Nat) (b0 : List Int) : ∀ (k m : Nat) (b : List Int) (x4 x5 : Int) (l : List Int) (c i : Int) (v : Int × Int),k ≤ 16000000 → k ≤ m → Q.dossierref01_Decode.l0 k b x4 x5 l c i = some v → dossierref01_Decode.L0 n m b0 b x4 x5 l c i = some (.ret (.tup [.int .i64 v.1,.int .i64 v.2]),lcRet [] [] 0) := by
 intro k
 induction k with
 | zero => intro m b x4 x5 l c i v _ _ h; simp [Q.dossierref01_Decode.l0] at h
 | succ k ih =>
  intro m b x4 x5 l c i v hk0 hk h
  obtain ⟨m,rfl⟩ : ∃ m',m = m' + 1 := ⟨m - 1,by omega⟩
  rw [Q.dossierref01_Decode.l0] at h
  rw [dossierref01_Decode.L0_s]
  have hx : ∀ t v,Q.dossierref01_Encode.f k t = some v → lim (fun k => Q.dossierref01_Encode.f k t) = some v := fun t v h => lim_of (fun k => Q.dossierref01_Encode.mono t k) (by omega) h
  have hn := nth_rd l i
  simp only [ite_or,ite_and,false_or_b,true_and_b,seq_list,seq_false,wrap_64,wrap_8,wrap_u64_mod,ba_list,decide_eq_true_eq,beq_iff_eq,Bool.not_eq_true',Int.zero_sub,toBytes_len,bt_eq,shr_6,shr_12,shr_18,wrap64_mod,toNat0,toNat1,toNat2,most,List.length_cons,List.length_nil,ofBytes_eq] at h ⊢
  grind [→ bindE]
theorem dossierref01_Decode.ok : AllOk specs_dossierref01_Decode := okS (cx := cx_dossierref01_Decode) rfl dossierref01_Encode.ok (by kernel_rfl) fun args cs n K r g => by
 unfold dossierref01_Decode.spec at g
 dsimp only [lcSt] at g
 split at g
 · rename_i b
   obtain ⟨v,h1,h2⟩ := bind2 g
   obtain ⟨k,hk,h⟩ := lim_some h1
   clear h1
   clear g
   refine okG h2 ?_
   clear h2
   refine ⟨k,?_⟩
   rw [dossierref01_Decode.top]
   unfold Q.dossierref01_Decode.f at h
   have key := dossierref01_Decode.l_ev k b
   have hn := nth_rd0 b
   rcases k with _ | k <;> simp only [Q.dossierref01_Decode.j0] at h <;> simp only [ite_or,ite_and,false_or_b,true_and_b,seq_list,seq_false,wrap_64,wrap_8,wrap_u64_mod,ba_list,decide_eq_true_eq,beq_iff_eq,Bool.not_eq_true',Int.zero_sub,toBytes_len,bt_eq,shr_6,shr_12,shr_18,wrap64_mod,toNat0,toNat1,toNat2,most,List.length_cons,List.length_nil,ofBytes_eq] at h ⊢ <;> grind [→ bindE]
 · cases g
theorem dossierref01_within.l_ev (n : Nat) (r0 : Int) (l0 : List Int) : ∀ (k m : Nat) (r : Int) (l : List Int) (i : Int) (v : Bool),k ≤ m → Q.dossierref01_within.l0 k r l i = some v → dossierref01_within.L0 n m r0 l0 r l i = some (.ret (.bool v),lcRet [] [] 0) := by
 intro k
 induction k with
 | zero => intro m r l i v _ h; simp [Q.dossierref01_within.l0] at h
 | succ k ih =>
  intro m r l i v hk h
  obtain ⟨m,rfl⟩ : ∃ m',m = m' + 1 := ⟨m - 1,by omega⟩
  rw [Q.dossierref01_within.l0] at h
  rw [dossierref01_within.L0_s]
  have hn := nth_rd l i
  have hn1 := nth_rd l (wrap64 (i + 1))
  simp only [ite_or,ite_and,false_or_b,true_and_b,seq_list,seq_false,wrap_64,wrap_8,wrap_u64_mod,ba_list,decide_eq_true_eq,beq_iff_eq,Bool.not_eq_true',Int.zero_sub,toBytes_len,bt_eq,shr_6,shr_12,shr_18,wrap64_mod,toNat0,toNat1,toNat2,most,List.length_cons,List.length_nil,ofBytes_eq] at h ⊢
  grind [→ bindE]
theorem dossierref01_within.ok : AllOk specs_dossierref01_within := okS (cx := cx_dossierref01_within) rfl dossierref01_Decode.ok (by kernel_rfl) fun args cs n K r g => by
 unfold dossierref01_within.spec at g
 dsimp only [lcSt] at g
 split at g
 · rename_i r l
   obtain ⟨v,h1,h2⟩ := bind2 g
   obtain ⟨k,hk,h⟩ := lim_some h1
   clear h1
   clear g
   refine okG h2 ?_
   clear h2
   refine ⟨k,?_⟩
   rw [dossierref01_within.top]
   exact dossierref01_within.l_ev k r l k k r l 0 v (Nat.le_refl _) h
 · cases g
theorem dossierref01_OfXML.ok : AllOk specs_dossierref01_OfXML := okS (cx := cx_dossierref01_OfXML) rfl dossierref01_within.ok (by kernel_rfl) fun args cs n K r g => by
 unfold dossierref01_OfXML.spec at g
 dsimp only [lcSt] at g
 split at g
 · rename_i r
   obtain ⟨v,h1,h2⟩ := bind2 g
   obtain ⟨k,hk,h⟩ := lim_some h1
   clear h1
   clear g
   refine okG h2 ?_
   clear h2
   refine ⟨0,?_⟩
   rw [dossierref01_OfXML.top]
   unfold Q.dossierref01_OfXML.f at h
   obtain ⟨b,h1,h2⟩ := bind2 h
   obtain rfl := Option.some.inj h2
   have := lim_of (fun k => Q.dossierref01_within.mono r _ k) hk h1
   rw [this]
   rfl
 · cases g
theorem dossierref01_Text.step (k : Nat) (h0 : CallOkL Tryz.prog C0 32 (dossierref01_Text.specR k)) : CallOkL Tryz.prog C0 32 (dossierref01_Text.specR (k + 1)) := okR (cx := cx_dossierref01_Text) (R := dossierref01_Text.rec k) rfl rfl dossierref01_OfXML.ok (fun x hx => by
 obtain rfl := List.mem_singleton.1 hx
 exact ⟨fnOk_of (by kernel_rfl),h0⟩) fun args cs n K r g => by
 unfold dossierref01_Text.specR at g
 dsimp only [lcSt] at g
 split at g
 · rename_i r
   obtain ⟨v,h,h2⟩ := bind2 g
   clear g
   refine okG h2 ?_
   clear h2
   refine ⟨0,?_⟩
   rw [dossierref01_Text.top]
   rw [Q.dossierref01_Text.f] at h
   have hs : (ByteArray.mk #[(45 : UInt8)]).size = 1 := rfl
   have hd : ((ByteArray.mk #[48,49,50,51,52,53,54,55,56,57]).size : Int) = 10 := rfl
   simp only [hs,hd] at h ⊢
   simp only [ite_or,ite_and,false_or_b,true_and_b,seq_list,seq_false,wrap_64,wrap_8,wrap_u64_mod,ba_list,decide_eq_true_eq,beq_iff_eq,Bool.not_eq_true',Int.zero_sub,toBytes_len,bt_eq,shr_6,shr_12,shr_18,wrap64_mod,toNat0,toNat1,toNat2,most,List.length_cons,List.length_nil,ofBytes_eq] at h ⊢
   grind [→ bindE]
 · cases g
theorem dossierref01_Text.zero : CallOkL Tryz.prog C0 32 (dossierref01_Text.specR 0) := fun args cs n K r h => by
 unfold dossierref01_Text.specR at h
 dsimp only [lcSt] at h
 split at h
 · obtain ⟨v,h1,h2⟩ := bind2 h
   exact absurd h1 (by first | (simp [Q.dossierref01_Text.f]; done) | (unfold Q.dossierref01_Text.f; simp))
 · cases h
theorem dossierref01_Text.recOk : ∀ k,CallOkL Tryz.prog C0 32 (dossierref01_Text.specR k)
 | 0 => dossierref01_Text.zero
 | k + 1 => dossierref01_Text.step k (dossierref01_Text.recOk k)
theorem dossierref01_Text.ok : AllOk specs_dossierref01_Text := allOk_cons dossierref01_OfXML.ok (fnOk_of (by kernel_rfl)) fun args cs n K r h => by
 unfold dossierref01_Text.spec at h
 dsimp only [lcSt] at h
 split at h
 · obtain ⟨v,h1,h2⟩ := bind2 h
   obtain ⟨k,hk,h3⟩ := lim_some h1
   refine dossierref01_Text.recOk k _ _ _ K r ?_
   unfold dossierref01_Text.specR
   dsimp only [lcSt]
   show Option.bind _ _ = some r
   rw [h3]
   exact h2
 · cases h
theorem bits_go (op : BinOp) (k : IntKind) (x y : Int) : Ev.bits op k x y = Go.bits op k x y := by cases op <;> rfl
theorem shr32 (r c : Int) (d : Int) (h : (2 : Int) ^ min (Int.toNat c) IntKind.i32.bits = d) (hd : 0 ≤ d) : r.fdiv ((2 : Int) ^ min (Int.toNat c) IntKind.i32.bits) = r / d := by rw [h]; exact Int.fdiv_eq_ediv_of_nonneg r hd
theorem shr32_6 (r : Int) : r.fdiv ((2 : Int) ^ min (Int.toNat (6 : Int)) IntKind.i32.bits) = r / 64 := shr32 r 6 64 (by decide) (by decide)
theorem shr32_12 (r : Int) : r.fdiv ((2 : Int) ^ min (Int.toNat (12 : Int)) IntKind.i32.bits) = r / 4096 := shr32 r 12 4096 (by decide) (by decide)
theorem shr32_18 (r : Int) : r.fdiv ((2 : Int) ^ min (Int.toNat (18 : Int)) IntKind.i32.bits) = r / 262144 := shr32 r 18 262144 (by decide) (by decide)
theorem utf8_ValidRune.ok : AllOk specs_utf8_ValidRune := okS (cx := cx_utf8_ValidRune) rfl dossierref01_Text.ok (by kernel_rfl) fun args cs n K r g => by
 unfold utf8_ValidRune.spec at g
 dsimp only [lcSt] at g
 split at g
 · rename_i r
   obtain ⟨v,h1,h2⟩ := bind2 g
   obtain ⟨k,hk,h⟩ := lim_some h1
   clear h1
   clear g
   refine okG h2 ?_
   clear h2
   refine ⟨0,?_⟩
   rw [utf8_ValidRune.top]
   unfold Q.utf8_ValidRune.f at h
   rcases k with _ | k <;> simp only [Q.utf8_ValidRune.j0] at h <;> simp only [ite_or,ite_and,false_or_b,true_and_b,seq_list,seq_false,wrap_64,wrap_8,wrap_u64_mod,ba_list,decide_eq_true_eq,beq_iff_eq,Bool.not_eq_true',Int.zero_sub,toBytes_len,bt_eq,shr_6,shr_12,shr_18,wrap64_mod,toNat0,toNat1,toNat2,most,List.length_cons,List.length_nil,ofBytes_eq] at h ⊢ <;> grind
 · cases g
theorem utf8_appendRuneNonASCII.ok : AllOk specs_utf8_appendRuneNonASCII := okSk (cx := cx_utf8_appendRuneNonASCII) rfl utf8_ValidRune.ok (by kernel_rfl) fun args cs n K r g => by
 unfold utf8_appendRuneNonASCII.spec at g
 dsimp only [lcSt] at g
 split at g
 · rename_i r
   obtain ⟨v,h1,h2⟩ := bind2 g
   obtain ⟨k,hk,h⟩ := lim_some h1
   clear h1
   clear g
   refine okG h2 ?_
   clear h2
   refine ⟨0,?_⟩
   rw [utf8_appendRuneNonASCII.top]
   unfold Q.utf8_appendRuneNonASCII.f at h
   simp only [bits_go,shr32_6,shr32_12,shr32_18,IntKind.wrap_u32]
   rcases k with _ | k <;> simp only [Q.utf8_appendRuneNonASCII.j0,Option.bind_some,List.length_cons,List.length_nil,List.nil_append] at h <;> simp only [ite_or,ite_and,false_or_b,true_and_b,seq_list,seq_false,wrap_64,wrap_8,wrap_u64_mod,ba_list,decide_eq_true_eq,beq_iff_eq,Bool.not_eq_true',Int.zero_sub,toBytes_len,bt_eq,shr_6,shr_12,shr_18,wrap64_mod,toNat0,toNat1,toNat2,most,List.length_cons,List.length_nil,ofBytes_eq] at h ⊢ <;> grind
 · cases g
theorem utf8_AppendRune.ok : AllOk specs_utf8_AppendRune := okSk (cx := cx_utf8_AppendRune) rfl utf8_appendRuneNonASCII.ok (by kernel_rfl) fun args cs n K r g => by
 unfold utf8_AppendRune.spec at g
 dsimp only [lcSt] at g
 split at g
 · rename_i r
   obtain ⟨v,h1,h2⟩ := bind2 g
   obtain ⟨k,hk,h⟩ := lim_some h1
   clear h1
   clear g
   refine okG h2 ?_
   clear h2
   refine ⟨0,?_⟩
   rw [utf8_AppendRune.top]
   unfold Q.utf8_AppendRune.f at h
   simp only [IntKind.wrap_u32]
   have hx : ∀ r v,Q.utf8_appendRuneNonASCII.f k [] r = some v → lim (fun k => Q.utf8_appendRuneNonASCII.f k [] r) = some v := fun r v h => lim_of (fun k => Q.utf8_appendRuneNonASCII.mono [] r k) hk h
   simp only [ite_or,ite_and,false_or_b,true_and_b,seq_list,seq_false,wrap_64,wrap_8,wrap_u64_mod,ba_list,decide_eq_true_eq,beq_iff_eq,Bool.not_eq_true',Int.zero_sub,toBytes_len,bt_eq,shr_6,shr_12,shr_18,wrap64_mod,toNat0,toNat1,toNat2,most,List.length_cons,List.length_nil,ofBytes_eq] at h ⊢
   grind [→ bindE]
 · cases g
theorem chars_First.ok : AllOk specs_chars_First := okS (cx := cx_chars_First) rfl utf8_AppendRune.ok (by kernel_rfl) fun args cs n K r g => by
 unfold chars_First.spec at g
 dsimp only [lcSt] at g
 split at g
 · rename_i r
   obtain ⟨v,h1,h2⟩ := bind2 g
   obtain ⟨k,hk,h⟩ := lim_some h1
   clear h1
   clear g
   refine okG h2 ?_
   clear h2
   refine ⟨0,?_⟩
   rw [chars_First.top]
   unfold Q.chars_First.f at h
   simp only [bits_go]
   have hx : ∀ l v,Q.chars_in.f k r l = some v → lim (fun k => Q.chars_in.f k r l) = some v := fun l v h => lim_of (fun k => Q.chars_in.mono r l k) hk h
   simp only [List.map]
   simp only [ite_or,ite_and,false_or_b,true_and_b,seq_list,seq_false,wrap_64,wrap_8,wrap_u64_mod,ba_list,decide_eq_true_eq,beq_iff_eq,Bool.not_eq_true',Int.zero_sub,toBytes_len,bt_eq,shr_6,shr_12,shr_18,wrap64_mod,toNat0,toNat1,toNat2,most,List.length_cons,List.length_nil,ofBytes_eq] at h ⊢
   grind [→ bindE]
 · cases g
theorem chars_Later.ok : AllOk specs_chars_Later := okS (cx := cx_chars_Later) rfl chars_First.ok (by kernel_rfl) fun args cs n K r g => by
 unfold chars_Later.spec at g
 dsimp only [lcSt] at g
 split at g
 · rename_i r
   obtain ⟨v,h1,h2⟩ := bind2 g
   obtain ⟨k,hk,h⟩ := lim_some h1
   clear h1
   clear g
   refine okG h2 ?_
   clear h2
   refine ⟨0,?_⟩
   rw [chars_Later.top]
   unfold Q.chars_Later.f at h
   have hx : ∀ l v,Q.chars_in.f k r l = some v → lim (fun k => Q.chars_in.f k r l) = some v := fun l v h => lim_of (fun k => Q.chars_in.mono r l k) hk h
   have hy : ∀ v,Q.chars_First.f k r = some v → lim (fun k => Q.chars_First.f k r) = some v := fun v h => lim_of (fun k => Q.chars_First.mono r k) hk h
   simp only [List.map]
   simp only [ite_or,ite_and,false_or_b,true_and_b,seq_list,seq_false,wrap_64,wrap_8,wrap_u64_mod,ba_list,decide_eq_true_eq,beq_iff_eq,Bool.not_eq_true',Int.zero_sub,toBytes_len,bt_eq,shr_6,shr_12,shr_18,wrap64_mod,toNat0,toNat1,toNat2,most,List.length_cons,List.length_nil,ofBytes_eq] at h ⊢
   grind [→ bindE]
 · cases g
theorem chars_Space.ok : AllOk specs_chars_Space := okS (cx := cx_chars_Space) rfl chars_Later.ok (by kernel_rfl) fun args cs n K r g => by
 unfold chars_Space.spec at g
 dsimp only [lcSt] at g
 split at g
 · rename_i r
   obtain ⟨v,h,h2⟩ := bind2 g
   clear g
   refine okG h2 ?_
   clear h2
   refine ⟨0,?_⟩
   rw [chars_Space.top]
   unfold Q.chars_Space.f at h
   simp only [ite_or,ite_and,false_or_b,true_and_b,seq_list,seq_false,wrap_64,wrap_8,wrap_u64_mod,ba_list,decide_eq_true_eq,beq_iff_eq,Bool.not_eq_true',Int.zero_sub,toBytes_len,bt_eq,shr_6,shr_12,shr_18,wrap64_mod,toNat0,toNat1,toNat2,most,List.length_cons,List.length_nil,ofBytes_eq] at h ⊢
   grind
 · cases g
theorem chars_Encode.ok : AllOk specs_chars_Encode := okS (cx := cx_chars_Encode) rfl chars_Space.ok (by kernel_rfl) fun args cs n K r g => by
 unfold chars_Encode.spec at g
 dsimp only [lcSt] at g
 split at g
 · rename_i r
   obtain ⟨v,h1,h2⟩ := bind2 g
   obtain ⟨k,hk,h⟩ := lim_some h1
   clear h1
   clear g
   refine okG h2 ?_
   clear h2
   refine ⟨0,?_⟩
   rw [chars_Encode.top]
   unfold Q.chars_Encode.f at h
   have hw : ∀ x,IntKind.i32.wrap x = wrap32 x := fun x => by unfold wrap32; exact IntKind.wrap_i32 x
   have hx : ∀ r v,Q.utf8_ValidRune.f k r = some v → lim (fun k => Q.utf8_ValidRune.f k r) = some v := fun r v h => lim_of (fun k => Q.utf8_ValidRune.mono r k) hk h
   have hy : ∀ r v,Q.utf8_AppendRune.f k [] r = some v → lim (fun k => Q.utf8_AppendRune.f k [] r) = some v := fun r v h => lim_of (fun k => Q.utf8_AppendRune.mono [] r k) hk h
   rw [hw]
   simp only [ite_or,ite_and,false_or_b,true_and_b,seq_list,seq_false,wrap_64,wrap_8,wrap_u64_mod,ba_list,decide_eq_true_eq,beq_iff_eq,Bool.not_eq_true',Int.zero_sub,toBytes_len,bt_eq,shr_6,shr_12,shr_18,wrap64_mod,toNat0,toNat1,toNat2,most,List.length_cons,List.length_nil,ofBytes_eq] at h ⊢
   grind [→ bindE]
 · cases g
theorem xmllex_nameOf.l_ev (n : Nat) (b0 : List Int) : ∀ (k m : Nat) (b : List Int) (i : Int) (v : List Int),k ≤ 16000000 → k ≤ m → Q.xmllex_nameOf.l0 k b i = some v → xmllex_nameOf.L0 n m b0 b i = some (.ret (.sl (.int .u8) v .no),lcRet [] [] 0) := by
 intro k
 induction k with
 | zero => intro m b i v _ _ h; simp [Q.xmllex_nameOf.l0] at h
 | succ k ih =>
  intro m b i v hk0 hk h
  obtain ⟨m,rfl⟩ : ∃ m',m = m' + 1 := ⟨m - 1,by omega⟩
  rw [Q.xmllex_nameOf.l0] at h
  rw [xmllex_nameOf.L0_s]
  have hx : ∀ t v,Q.chars_First.f k t = some v → lim (fun k => Q.chars_First.f k t) = some v := fun t v h => lim_of (fun k => Q.chars_First.mono t k) (by omega) h
  have hy : ∀ t v,Q.chars_Later.f k t = some v → lim (fun k => Q.chars_Later.f k t) = some v := fun t v h => lim_of (fun k => Q.chars_Later.mono t k) (by omega) h
  simp only [ite_or,ite_and,false_or_b,true_and_b,seq_list,seq_false,wrap_64,wrap_8,wrap_u64_mod,ba_list,decide_eq_true_eq,beq_iff_eq,Bool.not_eq_true',Int.zero_sub,toBytes_len,bt_eq,shr_6,shr_12,shr_18,wrap64_mod,toNat0,toNat1,toNat2,most,List.length_cons,List.length_nil,ofBytes_eq] at h ⊢
  grind [→ bindE]
theorem xmllex_nameOf.ok : AllOk specs_xmllex_nameOf := okS (cx := cx_xmllex_nameOf) rfl chars_Encode.ok (by kernel_rfl) fun args cs n K r g => by
 unfold xmllex_nameOf.spec at g
 dsimp only [lcSt] at g
 split at g
 · rename_i b
   obtain ⟨v,h1,h2⟩ := bind2 g
   obtain ⟨k,hk,h⟩ := lim_some h1
   clear h1
   clear g
   refine okG h2 ?_
   clear h2
   refine ⟨k,?_⟩
   rw [xmllex_nameOf.top]
   exact xmllex_nameOf.l_ev k b k k b 0 v hk (Nat.le_refl _) h
 · cases g
theorem dossierref01_First.ok : AllOk specs_dossierref01_First := okS (cx := cx_dossierref01_First) rfl xmllex_nameOf.ok (by kernel_rfl) fun args cs n K r g => by
 unfold dossierref01_First.spec at g
 dsimp only [lcSt] at g
 split at g
 · rename_i r
   obtain ⟨v,h1,h2⟩ := bind2 g
   obtain ⟨k,hk,h⟩ := lim_some h1
   clear h1
   clear g
   refine okG h2 ?_
   clear h2
   refine ⟨0,?_⟩
   rw [dossierref01_First.top]
   unfold Q.dossierref01_First.f at h
   have hx : ∀ l v,Q.dossierref01_within.f k r l = some v → lim (fun k => Q.dossierref01_within.f k r l) = some v := fun l v h => lim_of (fun k => Q.dossierref01_within.mono r l k) hk h
   try simp only [ite_or,ite_and,false_or_b,true_and_b,seq_list,seq_false,wrap_64,wrap_8,wrap_u64_mod,ba_list,decide_eq_true_eq,beq_iff_eq,Bool.not_eq_true',Int.zero_sub,toBytes_len,bt_eq,shr_6,shr_12,shr_18,wrap64_mod,toNat0,toNat1,toNat2,most,List.length_cons,List.length_nil,ofBytes_eq] at h ⊢
   grind [→ bindE]
 · cases g
theorem dossierref01_Later.ok : AllOk specs_dossierref01_Later := okS (cx := cx_dossierref01_Later) rfl dossierref01_First.ok (by kernel_rfl) fun args cs n K r g => by
 unfold dossierref01_Later.spec at g
 dsimp only [lcSt] at g
 split at g
 · rename_i r
   obtain ⟨v,h1,h2⟩ := bind2 g
   obtain ⟨k,hk,h⟩ := lim_some h1
   clear h1
   clear g
   refine okG h2 ?_
   clear h2
   refine ⟨0,?_⟩
   rw [dossierref01_Later.top]
   unfold Q.dossierref01_Later.f at h
   have hx : ∀ l v,Q.dossierref01_within.f k r l = some v → lim (fun k => Q.dossierref01_within.f k r l) = some v := fun l v h => lim_of (fun k => Q.dossierref01_within.mono r l k) hk h
   have hy : ∀ v,Q.dossierref01_First.f k r = some v → lim (fun k => Q.dossierref01_First.f k r) = some v := fun v h => lim_of (fun k => Q.dossierref01_First.mono r k) hk h
   try simp only [ite_or,ite_and,false_or_b,true_and_b,seq_list,seq_false,wrap_64,wrap_8,wrap_u64_mod,ba_list,decide_eq_true_eq,beq_iff_eq,Bool.not_eq_true',Int.zero_sub,toBytes_len,bt_eq,shr_6,shr_12,shr_18,wrap64_mod,toNat0,toNat1,toNat2,most,List.length_cons,List.length_nil,ofBytes_eq] at h ⊢
   grind [→ bindE]
 · cases g
theorem dossierref01_NameAt.l_ev (n : Nat) (b0 : List Int) : ∀ (k m : Nat) (b : List Int) (i : Int) (v : Int),k ≤ 16000000 → k ≤ m → Q.dossierref01_NameAt.l0 k b i = some v → dossierref01_NameAt.L0 n m b0 b i = some (.ret (.int .i64 v),lcRet [] [] 0) := by
 intro k
 induction k with
 | zero => intro m b i v _ _ h; simp [Q.dossierref01_NameAt.l0] at h
 | succ k ih =>
  intro m b i v hk0 hk h
  obtain ⟨m,rfl⟩ : ∃ m',m = m' + 1 := ⟨m - 1,by omega⟩
  rw [Q.dossierref01_NameAt.l0] at h
  rw [dossierref01_NameAt.L0_s]
  have hx : ∀ t v,Q.dossierref01_Decode.f k t = some v → lim (fun k => Q.dossierref01_Decode.f k t) = some v := fun t v h => lim_of (fun k => Q.dossierref01_Decode.mono t k) (by omega) h
  have hy : ∀ t v,Q.dossierref01_Later.f k t = some v → lim (fun k => Q.dossierref01_Later.f k t) = some v := fun t v h => lim_of (fun k => Q.dossierref01_Later.mono t k) (by omega) h
  simp only [ite_or,ite_and,false_or_b,true_and_b,seq_list,seq_false,wrap_64,wrap_8,wrap_u64_mod,ba_list,decide_eq_true_eq,beq_iff_eq,Bool.not_eq_true',Int.zero_sub,toBytes_len,bt_eq,shr_6,shr_12,shr_18,wrap64_mod,toNat0,toNat1,toNat2,most,List.length_cons,List.length_nil,ofBytes_eq] at h ⊢
  grind [→ bindE]
theorem dossierref01_NameAt.ok : AllOk specs_dossierref01_NameAt := okS (cx := cx_dossierref01_NameAt) rfl dossierref01_Later.ok (by kernel_rfl) fun args cs n K r g => by
 unfold dossierref01_NameAt.spec at g
 dsimp only [lcSt] at g
 split at g
 · rename_i b
   obtain ⟨v,h1,h2⟩ := bind2 g
   obtain ⟨k,hk,h⟩ := lim_some h1
   clear h1
   clear g
   refine okG h2 ?_
   clear h2
   refine ⟨k,?_⟩
   rw [dossierref01_NameAt.top]
   unfold Q.dossierref01_NameAt.f at h
   have key := dossierref01_NameAt.l_ev k b
   have hx : ∀ t v,Q.dossierref01_Decode.f k t = some v → lim (fun k => Q.dossierref01_Decode.f k t) = some v := fun t v h => lim_of (fun k => Q.dossierref01_Decode.mono t k) (by omega) h
   have hy : ∀ t v,Q.dossierref01_First.f k t = some v → lim (fun k => Q.dossierref01_First.f k t) = some v := fun t v h => lim_of (fun k => Q.dossierref01_First.mono t k) (by omega) h
   rcases k with _ | k <;> simp only [Q.dossierref01_NameAt.j0] at h <;> simp only [ite_or,ite_and,false_or_b,true_and_b,seq_list,seq_false,wrap_64,wrap_8,wrap_u64_mod,ba_list,decide_eq_true_eq,beq_iff_eq,Bool.not_eq_true',Int.zero_sub,toBytes_len,bt_eq,shr_6,shr_12,shr_18,wrap64_mod,toNat0,toNat1,toNat2,most,List.length_cons,List.length_nil,ofBytes_eq] at h ⊢ <;> grind [→ bindE]
 · cases g
theorem dossierref05_begins.ok : AllOk specs_dossierref05_begins := okS (cx := cx_dossierref05_begins) rfl dossierref01_NameAt.ok (by kernel_rfl) fun args cs n K r g => by
 unfold dossierref05_begins.spec at g
 dsimp only [lcSt] at g
 split at g
 · rename_i b s
   obtain ⟨v,h,h2⟩ := bind2 g
   clear g
   refine okG h2 ?_
   clear h2
   refine ⟨0,?_⟩
   rw [dossierref05_begins.top]
   unfold Q.dossierref05_begins.f at h
   have hs : ∀ x y : ByteArray,seq x y = (x.toList == y.toList) := fun x y => by rw [Bool.eq_iff_iff,seq_list,beq_iff_eq]
   simp only [hs]
   simp only [ite_or,ite_and,false_or_b,true_and_b,seq_list,seq_false,wrap_64,wrap_8,wrap_u64_mod,ba_list,decide_eq_true_eq,beq_iff_eq,Bool.not_eq_true',Int.zero_sub,toBytes_len,bt_eq,shr_6,shr_12,shr_18,wrap64_mod,toNat0,toNat1,toNat2,most,List.length_cons,List.length_nil,ofBytes_eq] at h ⊢
   grind
 · cases g
theorem dossierref05_find.l_ev (n : Nat) (b0 : List Int) (s0 : ByteArray) : ∀ (k m : Nat) (b : List Int) (s : ByteArray) (c i : Int) (v : Int),k ≤ m → Q.dossierref05_find.l0 k b s c i = some v → dossierref05_find.L0 n m b0 s0 b s c i = some (.ret (.int .i64 v),lcRet [] [] 0) := by
 intro k
 induction k with
 | zero => intro m b s c i v _ h; simp [Q.dossierref05_find.l0] at h
 | succ k ih =>
  intro m b s c i v hk h
  obtain ⟨m,rfl⟩ : ∃ m',m = m' + 1 := ⟨m - 1,by omega⟩
  rw [Q.dossierref05_find.l0] at h
  rw [dossierref05_find.L0_s]
  simp only [ite_or,ite_and,false_or_b,true_and_b,seq_list,seq_false,wrap_64,wrap_8,wrap_u64_mod,ba_list,decide_eq_true_eq,beq_iff_eq,Bool.not_eq_true',Int.zero_sub,toBytes_len,bt_eq,shr_6,shr_12,shr_18,wrap64_mod,toNat0,toNat1,toNat2,most,List.length_cons,List.length_nil,ofBytes_eq] at h ⊢
  grind [→ bindE]
theorem dossierref05_find.ok : AllOk specs_dossierref05_find := okS (cx := cx_dossierref05_find) rfl dossierref05_begins.ok (by kernel_rfl) fun args cs n K r g => by
 unfold dossierref05_find.spec at g
 dsimp only [lcSt] at g
 split at g
 · rename_i b s
   obtain ⟨v,h1,h2⟩ := bind2 g
   obtain ⟨k,hk,h⟩ := lim_some h1
   clear h1
   clear g
   refine okG h2 ?_
   clear h2
   refine ⟨k,?_⟩
   rw [dossierref05_find.top]
   exact dossierref05_find.l_ev k b s k k b s _ 0 v (Nat.le_refl _) h
 · cases g
theorem dossierref05_blanks.l_ev (n : Nat) (b0 : List Int) : ∀ (k m : Nat) (b : List Int) (i : Int) (v : Int),k ≤ m → Q.dossierref05_blanks.l0 k b i = some v → dossierref05_blanks.L0 n m b0 b i = some (.ret (.int .i64 v),lcRet [] [] 0) := by
 intro k
 induction k with
 | zero => intro m b i v _ h; simp [Q.dossierref05_blanks.l0] at h
 | succ k ih =>
  intro m b i v hk h
  obtain ⟨m,rfl⟩ : ∃ m',m = m' + 1 := ⟨m - 1,by omega⟩
  rw [Q.dossierref05_blanks.l0] at h
  rw [dossierref05_blanks.L0_s]
  have hn := nth_rd b i
  simp only [ite_or,ite_and,false_or_b,true_and_b,seq_list,seq_false,wrap_64,wrap_8,wrap_u64_mod,ba_list,decide_eq_true_eq,beq_iff_eq,Bool.not_eq_true',Int.zero_sub,toBytes_len,bt_eq,shr_6,shr_12,shr_18,wrap64_mod,toNat0,toNat1,toNat2,most,List.length_cons,List.length_nil,ofBytes_eq] at h ⊢
  grind [→ bindE]
theorem dossierref05_blanks.ok : AllOk specs_dossierref05_blanks := okS (cx := cx_dossierref05_blanks) rfl dossierref05_find.ok (by kernel_rfl) fun args cs n K r g => by
 unfold dossierref05_blanks.spec at g
 dsimp only [lcSt] at g
 split at g
 · rename_i b
   obtain ⟨v,h1,h2⟩ := bind2 g
   obtain ⟨k,hk,h⟩ := lim_some h1
   clear h1
   clear g
   refine okG h2 ?_
   clear h2
   refine ⟨k,?_⟩
   rw [dossierref05_blanks.top]
   exact dossierref05_blanks.l_ev k b k k b 0 v (Nat.le_refl _) h
 · cases g
theorem dossierref05_digit.ok : AllOk specs_dossierref05_digit := okS (cx := cx_dossierref05_digit) rfl dossierref05_blanks.ok (by kernel_rfl) fun args cs n K r g => by
 unfold dossierref05_digit.spec at g
 dsimp only [lcSt] at g
 split at g
 · rename_i x q
   obtain ⟨v,h1,h2⟩ := bind2 g
   obtain ⟨k,hk,h⟩ := lim_some h1
   clear h1
   clear g
   refine okG h2 ?_
   clear h2
   refine ⟨0,?_⟩
   rw [dossierref05_digit.top]
   unfold Q.dossierref05_digit.f at h
   have hw : ∀ x : Int,wrap64 (x % 256 + 10) = x % 256 + 10 := fun x => by unfold wrap64; omega
   rcases k with _ | _ | _ | k <;> simp only [Q.dossierref05_digit.j0,Q.dossierref05_digit.j1,Q.dossierref05_digit.j2] at h <;> simp only [ite_or,ite_and,false_or_b,true_and_b,seq_list,seq_false,wrap_64,wrap_8,wrap_u64_mod,ba_list,decide_eq_true_eq,beq_iff_eq,Bool.not_eq_true',Int.zero_sub,toBytes_len,bt_eq,shr_6,shr_12,shr_18,wrap64_mod,toNat0,toNat1,toNat2,most,List.length_cons,List.length_nil,ofBytes_eq] at h ⊢ <;> simp only [hw] at h ⊢ <;> grind
 · cases g
theorem dossierref05_numbered.l_ev (n : Nat) (b0 : List Int) (q0 : Int) : ∀ (k m : Nat) (b : List Int) (q a : Int) (l : List Int) (c i : Int) (v : Int × Bool),k ≤ 16000000 → k ≤ m → Q.dossierref05_numbered.l0 k b q a l c i = some v → dossierref05_numbered.L0 n m b0 q0 b q a l c i = some (.ret (.tup [.int .i64 v.1,.bool v.2]),lcRet [] [] 0) := by
 intro k
 induction k with
 | zero => intro m b q a l c i v _ _ h; simp [Q.dossierref05_numbered.l0] at h
 | succ k ih =>
  intro m b q a l c i v hk0 hk h
  obtain ⟨m,rfl⟩ : ∃ m',m = m' + 1 := ⟨m - 1,by omega⟩
  rw [Q.dossierref05_numbered.l0] at h
  rw [dossierref05_numbered.L0_s]
  have hx : ∀ t q v,Q.dossierref05_digit.f k t q = some v → lim (fun k => Q.dossierref05_digit.f k t q) = some v := fun t q v h => lim_of (fun k => Q.dossierref05_digit.mono t q k) (by omega) h
  have hy : ∀ t v,Q.dossierref01_OfXML.f k t = some v → lim (fun k => Q.dossierref01_OfXML.f k t) = some v := fun t v h => lim_of (fun k => Q.dossierref01_OfXML.mono t k) (by omega) h
  have hn := nth_rd l i
  simp only [ite_or,ite_and,false_or_b,true_and_b,seq_list,seq_false,wrap_64,wrap_8,wrap_u64_mod,ba_list,decide_eq_true_eq,beq_iff_eq,Bool.not_eq_true',Int.zero_sub,toBytes_len,bt_eq,shr_6,shr_12,shr_18,wrap64_mod,toNat0,toNat1,toNat2,most,List.length_cons,List.length_nil,ofBytes_eq] at h ⊢
  grind [→ bindE]
theorem dossierref05_numbered.ok : AllOk specs_dossierref05_numbered := okS (cx := cx_dossierref05_numbered) rfl dossierref05_digit.ok (by kernel_rfl) fun args cs n K r g => by
 unfold dossierref05_numbered.spec at g
 dsimp only [lcSt] at g
 split at g
 · rename_i b q
   obtain ⟨v,h1,h2⟩ := bind2 g
   obtain ⟨k,hk,h⟩ := lim_some h1
   clear h1
   clear g
   refine okG h2 ?_
   clear h2
   refine ⟨k,?_⟩
   rw [dossierref05_numbered.top]
   exact dossierref05_numbered.l_ev k b q k k b q 0 b _ 0 v hk (Nat.le_refl _) h
 · cases g
theorem dossierref05_reference.ok : AllOk specs_dossierref05_reference := okS (cx := cx_dossierref05_reference) rfl dossierref05_numbered.ok (by kernel_rfl) fun args cs n K r g => by
 unfold dossierref05_reference.spec at g
 dsimp only [lcSt] at g
 split at g
 · rename_i b
   obtain ⟨v,h1,h2⟩ := bind2 g
   obtain ⟨k,hk,h⟩ := lim_some h1
   clear h1
   clear g
   refine okG h2 ?_
   clear h2
   refine ⟨0,?_⟩
   rw [dossierref05_reference.top]
   unfold Q.dossierref05_reference.f at h
   have hx : ∀ l q v,Q.dossierref05_numbered.f k l q = some v → lim (fun k => Q.dossierref05_numbered.f k l q) = some v := fun l q v h => lim_of (fun k => Q.dossierref05_numbered.mono l q k) hk h
   simp only [ite_or,ite_and,false_or_b,true_and_b,seq_list,seq_false,wrap_64,wrap_8,wrap_u64_mod,ba_list,decide_eq_true_eq,beq_iff_eq,Bool.not_eq_true',Int.zero_sub,toBytes_len,bt_eq,shr_6,shr_12,shr_18,wrap64_mod,toNat0,toNat1,toNat2,most,List.length_cons,List.length_nil,ofBytes_eq] at h ⊢
   grind [→ bindE]
 · cases g
theorem dossierref05_name.ok : AllOk specs_dossierref05_name := okS (cx := cx_dossierref05_name) rfl dossierref05_reference.ok (by kernel_rfl) fun args cs n K r g => by
 unfold dossierref05_name.spec at g
 dsimp only [lcSt] at g
 split at g
 · rename_i b
   obtain ⟨v,h1,h2⟩ := bind2 g
   obtain ⟨k,hk,h⟩ := lim_some h1
   clear h1
   clear g
   refine okG h2 ?_
   clear h2
   refine ⟨0,?_⟩
   rw [dossierref05_name.top]
   unfold Q.dossierref05_name.f at h
   have hx : ∀ l v,Q.dossierref01_NameAt.f k l = some v → lim (fun k => Q.dossierref01_NameAt.f k l) = some v := fun l v h => lim_of (fun k => Q.dossierref01_NameAt.mono l k) hk h
   rcases k with _ | k <;> simp only [Q.dossierref05_name.j0] at h
   · simp only [ite_or,ite_and,false_or_b,true_and_b,seq_list,seq_false,wrap_64,wrap_8,wrap_u64_mod,ba_list,decide_eq_true_eq,beq_iff_eq,Bool.not_eq_true',Int.zero_sub,toBytes_len,bt_eq,shr_6,shr_12,shr_18,wrap64_mod,toNat0,toNat1,toNat2,most,List.length_cons,List.length_nil,ofBytes_eq] at h ⊢
     grind [→ bindE]
   have hy : ∀ l v,Q.dossierref01_NameAt.f k l = some v → lim (fun k => Q.dossierref01_NameAt.f k l) = some v := fun l v h => lim_of (fun k => Q.dossierref01_NameAt.mono l k) (by omega) h
   simp only [ite_or,ite_and,false_or_b,true_and_b,seq_list,seq_false,wrap_64,wrap_8,wrap_u64_mod,ba_list,decide_eq_true_eq,beq_iff_eq,Bool.not_eq_true',Int.zero_sub,toBytes_len,bt_eq,shr_6,shr_12,shr_18,wrap64_mod,toNat0,toNat1,toNat2,most,List.length_cons,List.length_nil,ofBytes_eq] at h ⊢
   grind [→ bindE]
 · cases g
end Go.Proofs.YtccfmfifnbnlmaaGreatDoor.Ev
end
section
/- Characters: the program's decoder, the reference's and one plain function are the same at every list of bytes; so are the searches for a byte that is no character. -/
set_option linter.unusedSimpArgs false
set_option linter.unusedVariables false
namespace Go.Proofs.YtccfmfifnbnlmaaGreatDoor.Chars
open Go.RowKit Go.Proofs.YtccfmfifnbnlmaaGreatDoor.Q Go.Proofs.YtccfmfifnbnlmaaGreatDoorW.PrintWords Go.Proofs.YtccfmfifnbnlmaaGreatDoorW.PrintLast Go.Proofs.YtccfmfifnbnlmaaGreatDoorH
/-- Each number of a list is a byte. -/
def Bytes (l : List Int) : Prop := ∀ x ∈ l,0 ≤ x ∧ x < 256
theorem Bytes.drop {l : List Int} (h : Bytes l) (n : Nat) : Bytes (l.drop n) := fun x hx => h x (List.mem_of_mem_drop hx)
theorem Bytes.take {l : List Int} (h : Bytes l) (n : Nat) : Bytes (l.take n) := fun x hx => h x (List.mem_of_mem_take hx)
theorem Bytes.getD {l : List Int} (h : Bytes l) (n : Nat) : 0 ≤ l.getD n 0 ∧ l.getD n 0 < 256 := by
 by_cases hn : n < l.length
 · rw [List.getD_eq_getElem?_getD,List.getElem?_eq_getElem hn]; exact h _ (List.getElem_mem hn)
 · rw [List.getD_eq_getElem?_getD,List.getElem?_eq_none (by omega)]; simp
/-- The first character and how many bytes it has; (0, 0): there is none. -/
def decN (n : Nat) (b0 b1 b2 b3 : Int) : Int × Int :=
 if b0 < 128 then (b0,1)
 else if 192 ≤ b0 ∧ b0 < 224 ∧ 2 ≤ n ∧ 128 ≤ b1 ∧ b1 < 192 then
  (if (b0 - 192) * 64 + (b1 - 128) ≥ 128 then ((b0 - 192) * 64 + (b1 - 128),2) else (0,0))
 else if 224 ≤ b0 ∧ b0 < 240 ∧ 3 ≤ n ∧ (128 ≤ b1 ∧ b1 < 192) ∧ 128 ≤ b2 ∧ b2 < 192 then
  (if 2048 ≤ (b0 - 224) * 4096 + (b1 - 128) * 64 + (b2 - 128) ∧ ((b0 - 224) * 4096 + (b1 - 128) * 64 + (b2 - 128) < 55296 ∨ 57344 ≤ (b0 - 224) * 4096 + (b1 - 128) * 64 + (b2 - 128))
   then ((b0 - 224) * 4096 + (b1 - 128) * 64 + (b2 - 128),3) else (0,0))
 else if 240 ≤ b0 ∧ b0 < 248 ∧ 4 ≤ n ∧ (128 ≤ b1 ∧ b1 < 192) ∧ (128 ≤ b2 ∧ b2 < 192) ∧ 128 ≤ b3 ∧ b3 < 192 then
  (if 65536 ≤ (b0 - 240) * 262144 + (b1 - 128) * 4096 + (b2 - 128) * 64 + (b3 - 128) ∧ (b0 - 240) * 262144 + (b1 - 128) * 4096 + (b2 - 128) * 64 + (b3 - 128) ≤ 1114111
   then ((b0 - 240) * 262144 + (b1 - 128) * 4096 + (b2 - 128) * 64 + (b3 - 128),4) else (0,0))
 else (0,0)
def dec (l : List Int) : Int × Int := if l = [] then (0,0) else decN l.length (l.getD 0 0) (l.getD 1 0) (l.getD 2 0) (l.getD 3 0)
theorem decN_two (n : Nat) (b0 b1 b2 b3 : Int) (h0 : 0 ≤ b0) : (decN n b0 b1 b2 b3).2 ≤ 4 ∧ 0 ≤ (decN n b0 b1 b2 b3).2 ∧ 0 ≤ (decN n b0 b1 b2 b3).1 ∧ (decN n b0 b1 b2 b3).1 ≤ 1114111 ∧ (1 ≤ n → (decN n b0 b1 b2 b3).2 ≤ n) ∧ ((decN n b0 b1 b2 b3).2 = 0 → (decN n b0 b1 b2 b3).1 = 0) := by
 unfold decN
 repeat' split
 all_goals (simp only; refine ⟨by omega,by omega,by omega,by omega,fun _ => by omega,fun h_ => by omega⟩)
theorem dec_two {l : List Int} (hl : Bytes l) : (dec l).2 ≤ 4 ∧ 0 ≤ (dec l).2 ∧ 0 ≤ (dec l).1 ∧ (dec l).1 ≤ 1114111 ∧ (dec l).2 ≤ l.length ∧ ((dec l).2 = 0 → (dec l).1 = 0) := by
 unfold dec
 by_cases h : l = []
 · rw [if_pos h]; simp
 · rw [if_neg h]
   have hlen : 1 ≤ l.length := List.length_pos_iff.2 h
   have := decN_two l.length (l.getD 0 0) (l.getD 1 0) (l.getD 2 0) (l.getD 3 0) (hl.getD 0).1
   exact ⟨this.1,this.2.1,this.2.2.1,this.2.2.2.1,this.2.2.2.2.1 hlen,this.2.2.2.2.2⟩
theorem get!_at (l : List Int) (hl : Bytes l) (i : Nat) : (((strOfNums l).get! i).toNat : Int) = l.getD i 0 := by
 by_cases h : i < l.length
 · rw [strOfNums_get! l i h,List.getD_eq_getElem?_getD,List.getElem?_eq_getElem h]
   have := hl _ (List.getElem_mem h)
   simp only [Option.getD_some]
   generalize l[i] = x at *
   obtain ⟨y,rfl⟩ := Int.eq_ofNat_of_zero_le this.1
   simp; omega
 · rw [List.getD_eq_getElem?_getD,List.getElem?_eq_none (by omega)]
   have : ¬ i < (strOfNums l).data.size := by simp [strOfNums]; omega
   have e : (strOfNums l).data[i]! = 0 := by
    rw [Array.getElem!_eq_getD,Array.getD_eq_getD_getElem?,Array.getElem?_eq_none (by omega)]; rfl
   show (((strOfNums l).data[i]!).toNat : Int) = _
   rw [e]; rfl
set_option maxHeartbeats 4000000 in
/-- The model's decoder, with what it calls no character told as (0, 0). -/
theorem decN_go (n : Nat) (b0 b1 b2 b3 : Nat) (h0 : b0 < 256) (h1 : b1 < 256) (h2 : b2 < 256) (h3 : b3 < 256) :
 (if (Lib.decodeN n b0 b1 b2 b3).1 = 65533 ∧ (Lib.decodeN n b0 b1 b2 b3).2 ≤ 1 then ((0 : Int),(0 : Int)) else (((Lib.decodeN n b0 b1 b2 b3).1 : Int),((Lib.decodeN n b0 b1 b2 b3).2 : Int))) = decN n b0 b1 b2 b3 := by
 unfold Lib.decodeN decN
 repeat' split
 all_goals first
  | (exfalso; omega)
  | (simp only at *; first | (exfalso; omega) | (apply Prod.ext <;> simp only <;> omega))
  | (apply Prod.ext <;> simp only <;> omega)
theorem chars_Decode_spec (l : List Int) (hl : Bytes l) : chars_Decode.f l = some (dec l) := by
 have hall : (l.all fun x => decide (0 ≤ x) && decide (x < 256)) = true := by
  rw [List.all_eq_true]; intro x hx; have := hl x hx; simp [this.1,this.2]
 unfold chars_Decode.f utf8_DecodeRune.f
 rw [if_pos hall,Option.bind_some]
 by_cases h : l = []
 · subst h; rfl
 · have hlen : 1 ≤ l.length := List.length_pos_iff.2 h
   have hsz : (strOfNums l).size = l.length := strOfNums_size l
   have hd : Lib.decodeGo (strOfNums l) = Lib.decodeN l.length (l.getD 0 0).toNat (l.getD 1 0).toNat (l.getD 2 0).toNat (l.getD 3 0).toNat := by
    unfold Lib.decodeGo
    rw [if_neg (by omega),Lib.decode_at,hsz]
    have g := get!_at l hl
    have e : ∀ i,((strOfNums l).get! i).toNat = (l.getD i 0).toNat := fun i => by have := g i; omega
    simp only [Nat.zero_add,Nat.sub_zero,e]
   have hdec : dec l = decN l.length (l.getD 0 0) (l.getD 1 0) (l.getD 2 0) (l.getD 3 0) := by unfold dec; rw [if_neg h]
   have hb := hl.getD
   have key := decN_go l.length (l.getD 0 0).toNat (l.getD 1 0).toNat (l.getD 2 0).toNat (l.getD 3 0).toNat (by have := hb 0; omega) (by have := hb 1; omega) (by have := hb 2; omega) (by have := hb 3; omega)
   rw [Int.toNat_of_nonneg (hb 0).1,Int.toNat_of_nonneg (hb 1).1,Int.toNat_of_nonneg (hb 2).1,Int.toNat_of_nonneg (hb 3).1,← hdec,← hd] at key
   rw [← key]
   have hr : (Lib.decodeGo (strOfNums l)).1 ≤ 1114111 := by
    rw [hd]; unfold Lib.decodeN
    have := hb 0; have := hb 1
    repeat' split
    all_goals (simp only; omega)
   by_cases h1 : (Lib.decodeGo (strOfNums l)).1 = 65533
   · by_cases h2 : (Lib.decodeGo (strOfNums l)).2 ≤ 1
     · rw [if_pos (by omega),if_pos (by omega),if_pos ⟨h1,h2⟩]
     · rw [if_pos (by omega),if_neg (by omega),if_neg (fun x => h2 x.2)]; congr 2; unfold wrap64; omega
   · rw [if_neg (by omega),if_neg (fun x => h1 x.1)]; congr 2; unfold wrap64; omega
/-! ## The reference's -/
theorem tmod64 (x : Int) (h : 0 ≤ x) : Int.tmod x 64 = x % 64 := Int.tmod_eq_emod_of_nonneg h
/-- A character's bytes. -/
def enc (r : Int) : List Int :=
 if r < 0 ∨ r > 1114111 ∨ (55296 ≤ r ∧ r ≤ 57343) then []
 else if r < 128 then [r]
 else if r < 2048 then [192 + r / 64,128 + r % 64]
 else if r < 65536 then [224 + r / 4096,128 + r / 64 % 64,128 + r % 64]
 else [240 + r / 262144,128 + r / 4096 % 64,128 + r / 64 % 64,128 + r % 64]
theorem enc_spec (k : Nat) (r : Int) : dossierref01_Encode.f (k + 1) r = some (enc r) := by
 unfold dossierref01_Encode.f enc
 simp only [dossierref01_Encode.j0]
 have w : ∀ x : Int,0 ≤ x → x < 4000000 → wrap64 x = x := fun x h0 h1 => by unfold wrap64; omega
 by_cases h1 : r < 0
 · simp [h1]
 · by_cases h2 : r > 1114111
   · simp [h1,h2]
   · by_cases h3 : r ≥ 55296 ∧ r ≤ 57343
     · simp [h1,h2,h3.1,h3.2]
     · have hc : ¬ (r < 0 ∨ r > 1114111 ∨ (55296 ≤ r ∧ r ≤ 57343)) := by omega
       rw [if_neg h1,if_neg h2,if_neg hc]
       have e : (if r ≥ 55296 then (if (decide (r ≤ 57343)) = true then some ([] : List Int) else if r < 128 then some [r % 256] else if r < 2048 then some [wrap64 (192 + r / 64) % 256,wrap64 (128 + Int.tmod r 64) % 256] else if r < 65536 then some [wrap64 (224 + r / 4096) % 256,wrap64 (128 + Int.tmod (r / 64) 64) % 256,wrap64 (128 + Int.tmod r 64) % 256] else some [wrap64 (240 + r / 262144) % 256,wrap64 (128 + Int.tmod (r / 4096) 64) % 256,wrap64 (128 + Int.tmod (r / 64) 64) % 256,wrap64 (128 + Int.tmod r 64) % 256])
        else if false = true then some ([] : List Int) else if r < 128 then some [r % 256] else if r < 2048 then some [wrap64 (192 + r / 64) % 256,wrap64 (128 + Int.tmod r 64) % 256] else if r < 65536 then some [wrap64 (224 + r / 4096) % 256,wrap64 (128 + Int.tmod (r / 64) 64) % 256,wrap64 (128 + Int.tmod r 64) % 256] else some [wrap64 (240 + r / 262144) % 256,wrap64 (128 + Int.tmod (r / 4096) 64) % 256,wrap64 (128 + Int.tmod (r / 64) 64) % 256,wrap64 (128 + Int.tmod r 64) % 256])
        = (if r < 128 then some [r % 256] else if r < 2048 then some [wrap64 (192 + r / 64) % 256,wrap64 (128 + Int.tmod r 64) % 256] else if r < 65536 then some [wrap64 (224 + r / 4096) % 256,wrap64 (128 + Int.tmod (r / 64) 64) % 256,wrap64 (128 + Int.tmod r 64) % 256] else some [wrap64 (240 + r / 262144) % 256,wrap64 (128 + Int.tmod (r / 4096) 64) % 256,wrap64 (128 + Int.tmod (r / 64) 64) % 256,wrap64 (128 + Int.tmod r 64) % 256]) := by
        by_cases h4 : r ≥ 55296
        · rw [if_pos h4,if_neg (by simp; omega)]
        · rw [if_neg h4]; simp
       rw [e,tmod64 r (by omega),tmod64 (r / 64) (by omega),tmod64 (r / 4096) (by omega)]
       by_cases a1 : r < 128
       · simp only [a1,if_true]; congr 2; omega
       · simp only [a1,if_false]
         by_cases a2 : r < 2048
         · simp only [a2,if_true]; rw [w _ (by omega) (by omega),w _ (by omega) (by omega)]; congr 2; omega; congr 1; omega
         · simp only [a2,if_false]
           by_cases a3 : r < 65536
           · simp only [a3,if_true]; rw [w _ (by omega) (by omega),w _ (by omega) (by omega),w _ (by omega) (by omega)]; congr 2; omega; congr 1; omega; congr 1; omega
           · simp only [a3,if_false]; rw [w _ (by omega) (by omega),w _ (by omega) (by omega),w _ (by omega) (by omega),w _ (by omega) (by omega)]; congr 2; omega; congr 1; omega; congr 1; omega; congr 1; omega
/-- Bytes as a string are the same just where they are the same. -/
theorem str_inj {l m : List Int} (hl : Bytes l) (hm : Bytes m) : (strOfNums l).toList = (strOfNums m).toList ↔ l = m := by
 constructor
 · intro h
   rw [Lib.toList_data,Lib.toList_data,strOfNums_data,strOfNums_data] at h
   have hlen : l.length = m.length := by simpa using congrArg List.length h
   apply List.ext_getElem hlen
   intro i h1 h2
   have e : (l.map fun n => UInt8.ofNat n.toNat)[i]'(by simpa using h1) = (m.map fun n => UInt8.ofNat n.toNat)[i]'(by simpa using h2) := by simp only [h]
   simp only [List.getElem_map] at e
   have b1 := hl _ (List.getElem_mem h1)
   have b2 := hm _ (List.getElem_mem h2)
   have e' := congrArg UInt8.toNat e
   simp at e'
   omega
 · intro h; rw [h]
theorem enc_bytes (r : Int) : Bytes (enc r) := by
 unfold enc
 repeat' split
 all_goals (intro x hx; simp at hx)
 all_goals first | omega | (rcases hx with h | h <;> omega) | (rcases hx with h | h | h <;> omega) | (rcases hx with h | h | h | h <;> omega)
/-- What the reference does behind the first byte: the rest of the bytes, then the character's own bytes held against them. -/
def tailD (l : List Int) (n : Int) (r : Int) : Option (Int × Int) := if enc r = l.take n.toNat then some (r,n) else some (0,0)
theorem fin_spec (k : Nat) (l : List Int) (hl : Bytes l) (n r : Int) (h0 : 0 ≤ n) (hn : n ≤ l.length) :
 ((dossierref01_Encode.f (k + 1) r).bind fun t178 => (if 0 ≤ n then (if n ≤ (l.length : Int) then (if (strOfNums t178).toList = (strOfNums (l.take (n : Int).toNat)).toList then (some (r,n)) else (some (0,0))) else (none)) else (none))) = tailD l n r := by
 rw [enc_spec,Option.bind_some,if_pos h0,if_pos hn]
 unfold tailD
 by_cases h : enc r = l.take n.toNat
 · rw [if_pos h,if_pos ((str_inj (enc_bytes r) (hl.take _)).2 h)]
 · rw [if_neg h,if_neg (fun x => h ((str_inj (enc_bytes r) (hl.take _)).1 x))]
theorem w64 (x : Int) (h0 : -10000000 ≤ x) (h1 : x < 100000000) : wrap64 x = x := by unfold wrap64; omega
theorem loopD (l : List Int) (hl : Bytes l) (n : Int) (h0 : 0 ≤ n) (hn : n ≤ l.length) (xs : List Int) (hx : Bytes xs) (hlen : xs.length ≤ 3) : ∀ (d i k : Nat) (r : Int),i + d = xs.length → 0 ≤ r → ((i = 0 ∧ (r < 64 ∨ (xs = [] ∧ r < 4096))) ∨ (i = 1 ∧ r < 4096) ∨ (i = 2 ∧ r < 262144) ∨ (i = 3 ∧ r < 16777216)) →
 dossierref01_Decode.l0 (k + d + 2) l n r xs (xs.length : Int) (i : Int) = if (∀ x ∈ xs.drop i,128 ≤ x ∧ x < 192) then tailD l n ((xs.drop i).foldl (fun r x => r * 64 + (x - 128)) r) else some (0,0) := by
 intro d
 induction d with
 | zero =>
  intro i k r hi hr hb
  rw [show k + 0 + 2 = (k + 1) + 1 from rfl]
  rw [dossierref01_Decode.l0]
  rw [if_neg (by omega),fin_spec k l hl n r h0 hn,List.drop_of_length_le (by omega)]
  simp
 | succ d ih =>
  intro i k r hi hr hb
  have hlt : i < xs.length := by omega
  have hrd : rd xs (i : Int) = xs[i] := by simp [rd,List.getD,hlt]
  have hb' : (i = 0 ∧ r < 64) ∨ (i = 1 ∧ r < 4096) ∨ (i = 2 ∧ r < 262144) ∨ (i = 3 ∧ r < 16777216) := by
   rcases hb with ⟨h,h2 | ⟨h2,_⟩⟩ | h | h
   · exact Or.inl ⟨h,h2⟩
   · subst h2; simp at hlt
   · exact Or.inr (Or.inl h)
   · exact Or.inr (Or.inr h)
  clear hb
  have hbx := hx _ (List.getElem_mem hlt)
  rw [show k + (d + 1) + 2 = (k + d + 2) + 1 from by omega]
  rw [dossierref01_Decode.l0]
  rw [if_pos (by omega),if_pos (by omega),if_pos (by omega),hrd,List.drop_eq_getElem_cons hlt]
  by_cases c1 : xs[i] < 128
  · rw [if_pos c1,if_neg (fun h => by have := h xs[i] List.mem_cons_self; omega)]
  · by_cases c2 : xs[i] > 191
    · rw [if_neg c1,if_pos c2,if_neg (fun h => by have := h xs[i] List.mem_cons_self; omega)]
    · rw [if_neg c1,if_neg c2]
      generalize hy : xs[i] = y at *
      have e : wrap64 (wrap64 (wrap64 (r * 64) + wrap64 y) - 128) = r * 64 + (y - 128) := by
       rw [w64 (r * 64) (by omega) (by omega),w64 y (by omega) (by omega),w64 (r * 64 + y) (by omega) (by omega),w64 (r * 64 + y - 128) (by omega) (by omega)]; omega
      have e2 : wrap64 ((i : Int) + 1) = ((i + 1 : Nat) : Int) := by rw [w64 _ (by omega) (by omega)]; omega
      have hb2 : (i + 1 = 1 ∧ r * 64 + (y - 128) < 4096) ∨ (i + 1 = 2 ∧ r * 64 + (y - 128) < 262144) ∨ (i + 1 = 3 ∧ r * 64 + (y - 128) < 16777216) := by
       clear ih e e2 hx hl hrd
       rcases hb' with ⟨h1,h2⟩ | ⟨h1,h2⟩ | ⟨h1,h2⟩ | ⟨h1,h2⟩
       · exact Or.inl ⟨by omega,by omega⟩
       · exact Or.inr (Or.inl ⟨by omega,by omega⟩)
       · exact Or.inr (Or.inr ⟨by omega,by omega⟩)
       · omega
      rw [e,e2,ih (i + 1) k (r * 64 + (y - 128)) (by omega) (by omega) (Or.inr hb2)]
      have hy1 : 128 ≤ y ∧ y < 192 := by omega
      simp only [List.mem_cons,forall_eq_or_imp,hy1,true_and,List.foldl_cons,and_self]
theorem enc_len (r : Int) : (enc r).length = if r < 0 ∨ r > 1114111 ∨ (55296 ≤ r ∧ r ≤ 57343) then 0 else if r < 128 then 1 else if r < 2048 then 2 else if r < 65536 then 3 else 4 := by
 unfold enc; repeat' split
 all_goals rfl
theorem enc4 (r b0 b1 b2 b3 : Int) (h1 : 128 ≤ b1 ∧ b1 < 192) (h2 : 128 ≤ b2 ∧ b2 < 192) (h3 : 128 ≤ b3 ∧ b3 < 192) (hr : r = (b0 - 240) * 262144 + (b1 - 128) * 4096 + (b2 - 128) * 64 + (b3 - 128)) :
 enc r = [b0,b1,b2,b3] ↔ 65536 ≤ r ∧ r ≤ 1114111 := by
 constructor
 · intro h
   have hl := congrArg List.length h
   rw [enc_len] at hl
   simp only [List.length_cons,List.length_nil] at hl
   split at hl
   · omega
   · split at hl
     · omega
     · split at hl
       · omega
       · split at hl
         · omega
         · omega
 · intro h
   unfold enc
   rw [if_neg (by omega),if_neg (by omega),if_neg (by omega),if_neg (by omega)]
   have e0 : 240 + r / 262144 = b0 := by omega
   have e1 : 128 + r / 4096 % 64 = b1 := by omega
   have e2 : 128 + r / 64 % 64 = b2 := by omega
   have e3 : 128 + r % 64 = b3 := by omega
   rw [e0,e1,e2,e3]
theorem enc3 (r b0 b1 b2 : Int) (h1 : 128 ≤ b1 ∧ b1 < 192) (h2 : 128 ≤ b2 ∧ b2 < 192) (h0 : 224 ≤ b0 ∧ b0 < 240) (hr : r = (b0 - 224) * 4096 + (b1 - 128) * 64 + (b2 - 128)) :
 enc r = [b0,b1,b2] ↔ 2048 ≤ r ∧ (r < 55296 ∨ 57344 ≤ r) := by
 constructor
 · intro h
   have hl := congrArg List.length h
   rw [enc_len] at hl
   simp only [List.length_cons,List.length_nil] at hl
   split at hl
   · omega
   · split at hl
     · omega
     · split at hl
       · omega
       · omega
 · intro h
   unfold enc
   rw [if_neg (by omega),if_neg (by omega),if_neg (by omega),if_pos (by omega)]
   have e0 : 224 + r / 4096 = b0 := by omega
   have e1 : 128 + r / 64 % 64 = b1 := by omega
   have e2 : 128 + r % 64 = b2 := by omega
   rw [e0,e1,e2]
theorem enc2 (r b0 b1 : Int) (h1 : 128 ≤ b1 ∧ b1 < 192) (h0 : 192 ≤ b0 ∧ b0 < 224) (hr : r = (b0 - 192) * 64 + (b1 - 128)) : enc r = [b0,b1] ↔ 128 ≤ r := by
 constructor
 · intro h
   have hl := congrArg List.length h
   rw [enc_len] at hl
   simp only [List.length_cons,List.length_nil] at hl
   split at hl
   · omega
   · split at hl
     · omega
     · omega
 · intro h
   unfold enc
   rw [if_neg (by omega),if_neg (by omega),if_pos (by omega)]
   have e0 : 192 + r / 64 = b0 := by omega
   have e1 : 128 + r % 64 = b1 := by omega
   rw [e0,e1]
theorem enc1 (b0 : Int) (h0 : 0 ≤ b0 ∧ b0 < 192) : enc b0 = [b0] ↔ b0 < 128 := by
 constructor
 · intro h
   have hl := congrArg List.length h
   rw [enc_len] at hl
   simp only [List.length_cons,List.length_nil] at hl
   repeat' split at hl
   all_goals omega
 · intro h
   unfold enc
   rw [if_neg (by omega),if_pos h]
theorem decN4 (n : Nat) (b0 b1 b2 b3 : Int) (h : 240 ≤ b0) (hn : b0 < 256) : decN n b0 b1 b2 b3 = if 4 ≤ n ∧ ((128 ≤ b1 ∧ b1 < 192) ∧ (128 ≤ b2 ∧ b2 < 192) ∧ 128 ≤ b3 ∧ b3 < 192) ∧ 65536 ≤ (((b0 - 240) * 64 + (b1 - 128)) * 64 + (b2 - 128)) * 64 + (b3 - 128) ∧ (((b0 - 240) * 64 + (b1 - 128)) * 64 + (b2 - 128)) * 64 + (b3 - 128) ≤ 1114111
 then ((((b0 - 240) * 64 + (b1 - 128)) * 64 + (b2 - 128)) * 64 + (b3 - 128),4) else (0,0) := by
 unfold decN
 rw [if_neg (by omega),if_neg (by omega),if_neg (by omega)]
 repeat' split
 all_goals first | rfl | (exfalso; omega) | (congr 1; omega)
theorem decN3 (n : Nat) (b0 b1 b2 b3 : Int) (h : 224 ≤ b0) (hn : b0 < 240) : decN n b0 b1 b2 b3 = if 3 ≤ n ∧ ((128 ≤ b1 ∧ b1 < 192) ∧ 128 ≤ b2 ∧ b2 < 192) ∧ 2048 ≤ ((b0 - 224) * 64 + (b1 - 128)) * 64 + (b2 - 128) ∧ (((b0 - 224) * 64 + (b1 - 128)) * 64 + (b2 - 128) < 55296 ∨ 57344 ≤ ((b0 - 224) * 64 + (b1 - 128)) * 64 + (b2 - 128))
 then (((b0 - 224) * 64 + (b1 - 128)) * 64 + (b2 - 128),3) else (0,0) := by
 unfold decN
 rw [if_neg (by omega),if_neg (by omega)]
 repeat' split
 all_goals first | rfl | (exfalso; omega) | (congr 1; omega)
theorem decN2 (n : Nat) (b0 b1 b2 b3 : Int) (h : 192 ≤ b0) (hn : b0 < 224) : decN n b0 b1 b2 b3 = if 2 ≤ n ∧ (128 ≤ b1 ∧ b1 < 192) ∧ 128 ≤ (b0 - 192) * 64 + (b1 - 128) then ((b0 - 192) * 64 + (b1 - 128),2) else (0,0) := by
 unfold decN
 rw [if_neg (by omega)]
 repeat' split
 all_goals first | rfl | (exfalso; omega)
theorem decN1 (n : Nat) (b0 b1 b2 b3 : Int) (hn : b0 < 192) : decN n b0 b1 b2 b3 = if b0 < 128 then (b0,1) else (0,0) := by
 unfold decN
 by_cases h : b0 < 128
 · rw [if_pos h,if_pos h]
 · have a1 : ¬ (192 ≤ b0) := by omega
   have a2 : ¬ (224 ≤ b0) := by omega
   have a3 : ¬ (240 ≤ b0) := by omega
   rw [if_neg h,if_neg (fun x => a1 x.1),if_neg (fun x => a2 x.1),if_neg (fun x => a3 x.1),if_neg h]
theorem four (k : Nat) (b0 : Int) (t : List Int) (hl : Bytes (b0 :: t)) (c4 : 240 ≤ b0) : dossierref01_Decode.j0 (k + 10) (b0 :: t) 4 (b0 - 240) = some (decN (b0 :: t).length b0 (t.getD 0 0) (t.getD 1 0) (t.getD 2 0)) := by
 have hb0 := hl b0 (by simp)
 rw [show k + 10 = (k + 9) + 1 from rfl,dossierref01_Decode.j0,decN4 _ _ _ _ _ c4 hb0.2]
 match t,hl with
 | [],_ => rw [if_pos (by simp),if_neg (by simp)]
 | [_],_ => rw [if_pos (by simp),if_neg (by simp)]
 | [_,_],_ => rw [if_pos (by simp),if_neg (by simp)]
 | b1 :: b2 :: b3 :: u,hl =>
  have hx : Bytes [b1,b2,b3] := fun x hx => hl x (List.mem_cons_of_mem _ (show x ∈ [b1,b2,b3] ++ u from List.mem_append_left u hx))
  have hL := loopD (b0 :: b1 :: b2 :: b3 :: u) hl 4 (by decide) (by simp; omega) [b1,b2,b3] hx (by simp) 3 0 (k + 4) (b0 - 240) rfl (by omega) (Or.inl ⟨rfl,Or.inl (by omega)⟩)
  rw [if_neg (by simp; omega),if_pos (by decide),if_pos (by simp; omega)]
  rw [show dossierref01_Decode.l0 (k + 9) (b0 :: b1 :: b2 :: b3 :: u) 4 (b0 - 240) (((b0 :: b1 :: b2 :: b3 :: u).take (4 : Int).toNat).drop 1) ((((b0 :: b1 :: b2 :: b3 :: u).take (4 : Int).toNat).drop 1).length : Int) 0 = _ from hL]
  simp only [List.drop_zero,List.mem_cons,List.not_mem_nil,or_false,forall_eq_or_imp,forall_eq,List.foldl_cons,List.foldl_nil]
  unfold tailD
  rw [show (b0 :: b1 :: b2 :: b3 :: u).take (4 : Int).toNat = [b0,b1,b2,b3] from rfl]
  simp only [List.getD_cons_zero,List.getD_cons_succ]
  have hlen : 4 ≤ (b0 :: b1 :: b2 :: b3 :: u).length := by simp
  generalize (b0 :: b1 :: b2 :: b3 :: u).length = N at hlen ⊢
  by_cases hc : (128 ≤ b1 ∧ b1 < 192) ∧ (128 ≤ b2 ∧ b2 < 192) ∧ 128 ≤ b3 ∧ b3 < 192
  · have e := enc4 ((((b0 - 240) * 64 + (b1 - 128)) * 64 + (b2 - 128)) * 64 + (b3 - 128)) b0 b1 b2 b3 hc.1 hc.2.1 hc.2.2 (by omega)
    rw [if_pos hc]
    by_cases hr : 65536 ≤ (((b0 - 240) * 64 + (b1 - 128)) * 64 + (b2 - 128)) * 64 + (b3 - 128) ∧ (((b0 - 240) * 64 + (b1 - 128)) * 64 + (b2 - 128)) * 64 + (b3 - 128) ≤ 1114111
    · rw [if_pos (e.2 hr),if_pos ⟨hlen,hc,hr⟩]
    · rw [if_neg (fun x => hr (e.1 x)),if_neg (fun x => hr x.2.2)]
  · rw [if_neg hc,if_neg (fun x => hc x.2.1)]
theorem three (k : Nat) (b0 : Int) (t : List Int) (hl : Bytes (b0 :: t)) (c4 : 224 ≤ b0) (c5 : b0 < 240) : dossierref01_Decode.j0 (k + 10) (b0 :: t) 3 (b0 - 224) = some (decN (b0 :: t).length b0 (t.getD 0 0) (t.getD 1 0) (t.getD 2 0)) := by
 rw [show k + 10 = (k + 9) + 1 from rfl,dossierref01_Decode.j0,decN3 _ _ _ _ _ c4 c5]
 match t,hl with
 | [],_ => rw [if_pos (by simp),if_neg (by simp)]
 | [_],_ => rw [if_pos (by simp),if_neg (by simp)]
 | b1 :: b2 :: u,hl =>
  have hx : Bytes [b1,b2] := fun x hx => hl x (List.mem_cons_of_mem _ (show x ∈ [b1,b2] ++ u from List.mem_append_left u hx))
  have hL := loopD (b0 :: b1 :: b2 :: u) hl 3 (by decide) (by simp; omega) [b1,b2] hx (by simp) 2 0 (k + 5) (b0 - 224) rfl (by omega) (Or.inl ⟨rfl,Or.inl (by omega)⟩)
  rw [if_neg (by simp; omega),if_pos (by decide),if_pos (by simp; omega)]
  rw [show dossierref01_Decode.l0 (k + 9) (b0 :: b1 :: b2 :: u) 3 (b0 - 224) (((b0 :: b1 :: b2 :: u).take (3 : Int).toNat).drop 1) ((((b0 :: b1 :: b2 :: u).take (3 : Int).toNat).drop 1).length : Int) 0 = _ from hL]
  simp only [List.drop_zero,List.mem_cons,List.not_mem_nil,or_false,forall_eq_or_imp,forall_eq,List.foldl_cons,List.foldl_nil]
  unfold tailD
  rw [show (b0 :: b1 :: b2 :: u).take (3 : Int).toNat = [b0,b1,b2] from rfl]
  simp only [List.getD_cons_zero,List.getD_cons_succ]
  have hlen : 3 ≤ (b0 :: b1 :: b2 :: u).length := by simp
  generalize (b0 :: b1 :: b2 :: u).length = N at hlen ⊢
  by_cases hc : (128 ≤ b1 ∧ b1 < 192) ∧ 128 ≤ b2 ∧ b2 < 192
  · have e := enc3 (((b0 - 224) * 64 + (b1 - 128)) * 64 + (b2 - 128)) b0 b1 b2 hc.1 hc.2 ⟨c4,c5⟩ (by omega)
    rw [if_pos hc]
    by_cases hr : 2048 ≤ ((b0 - 224) * 64 + (b1 - 128)) * 64 + (b2 - 128) ∧ (((b0 - 224) * 64 + (b1 - 128)) * 64 + (b2 - 128) < 55296 ∨ 57344 ≤ ((b0 - 224) * 64 + (b1 - 128)) * 64 + (b2 - 128))
    · rw [if_pos (e.2 hr),if_pos ⟨hlen,hc,hr⟩]
    · rw [if_neg (fun x => hr (e.1 x)),if_neg (fun x => hr x.2.2)]
  · rw [if_neg hc,if_neg (fun x => hc x.2.1)]
theorem two (k : Nat) (b0 : Int) (t : List Int) (hl : Bytes (b0 :: t)) (c4 : 192 ≤ b0) (c5 : b0 < 224) : dossierref01_Decode.j0 (k + 10) (b0 :: t) 2 (b0 - 192) = some (decN (b0 :: t).length b0 (t.getD 0 0) (t.getD 1 0) (t.getD 2 0)) := by
 rw [show k + 10 = (k + 9) + 1 from rfl,dossierref01_Decode.j0,decN2 _ _ _ _ _ c4 c5]
 match t,hl with
 | [],_ => rw [if_pos (by simp),if_neg (by simp)]
 | b1 :: u,hl =>
  have hx : Bytes [b1] := fun x hx => hl x (List.mem_cons_of_mem _ (show x ∈ [b1] ++ u from List.mem_append_left u hx))
  have hL := loopD (b0 :: b1 :: u) hl 2 (by decide) (by simp; omega) [b1] hx (by simp) 1 0 (k + 6) (b0 - 192) rfl (by omega) (Or.inl ⟨rfl,Or.inl (by omega)⟩)
  rw [if_neg (by simp; omega),if_pos (by decide),if_pos (by simp; omega)]
  rw [show dossierref01_Decode.l0 (k + 9) (b0 :: b1 :: u) 2 (b0 - 192) (((b0 :: b1 :: u).take (2 : Int).toNat).drop 1) ((((b0 :: b1 :: u).take (2 : Int).toNat).drop 1).length : Int) 0 = _ from hL]
  simp only [List.drop_zero,List.mem_cons,List.not_mem_nil,or_false,forall_eq,List.foldl_cons,List.foldl_nil]
  unfold tailD
  rw [show (b0 :: b1 :: u).take (2 : Int).toNat = [b0,b1] from rfl]
  simp only [List.getD_cons_zero]
  have hlen : 2 ≤ (b0 :: b1 :: u).length := by simp
  generalize (b0 :: b1 :: u).length = N at hlen ⊢
  by_cases hc : 128 ≤ b1 ∧ b1 < 192
  · have e := enc2 ((b0 - 192) * 64 + (b1 - 128)) b0 b1 hc ⟨c4,c5⟩ rfl
    rw [if_pos hc]
    by_cases hr : 128 ≤ (b0 - 192) * 64 + (b1 - 128)
    · rw [if_pos (e.2 hr),if_pos ⟨hlen,hc,hr⟩]
    · rw [if_neg (fun x => hr (e.1 x)),if_neg (fun x => hr x.2.2)]
  · rw [if_neg hc,if_neg (fun x => hc x.2.1)]
theorem one (k : Nat) (b0 : Int) (t : List Int) (hl : Bytes (b0 :: t)) (c5 : b0 < 192) : dossierref01_Decode.j0 (k + 10) (b0 :: t) 1 b0 = some (decN (b0 :: t).length b0 (t.getD 0 0) (t.getD 1 0) (t.getD 2 0)) := by
 have hb0 := hl b0 (by simp)
 rw [show k + 10 = (k + 9) + 1 from rfl,dossierref01_Decode.j0,decN1 _ _ _ _ _ c5]
 have hL := loopD (b0 :: t) hl 1 (by decide) (by simp; omega) [] (fun x hx => by cases hx) (by simp) 0 0 (k + 7) b0 rfl (by omega) (Or.inl ⟨rfl,Or.inr ⟨rfl,by omega⟩⟩)
 rw [if_neg (by simp; omega),if_pos (by decide),if_pos (by simp; omega)]
 rw [show dossierref01_Decode.l0 (k + 9) (b0 :: t) 1 b0 (((b0 :: t).take (1 : Int).toNat).drop 1) ((((b0 :: t).take (1 : Int).toNat).drop 1).length : Int) 0 = _ from hL]
 simp only [List.drop_nil,List.not_mem_nil,false_implies,implies_true,if_true,List.foldl_nil]
 unfold tailD
 rw [show (b0 :: t).take (1 : Int).toNat = [b0] from rfl]
 have e := enc1 b0 ⟨hb0.1,c5⟩
 by_cases hr : b0 < 128
 · rw [if_pos (e.2 hr),if_pos hr]
 · rw [if_neg (fun x => hr (e.1 x)),if_neg hr]
theorem ref_Decode_spec (k : Nat) (l : List Int) (hl : Bytes l) : dossierref01_Decode.f (k + 10) l = some (dec l) := by
 cases l with
 | nil => simp [dossierref01_Decode.f,dec]
 | cons b0 t =>
  have hb0 := hl b0 (by simp)
  have hrd : rd (b0 :: t) 0 = b0 := rfl
  unfold dossierref01_Decode.f
  rw [if_neg (by simp; omega),if_pos (by simp),hrd]
  have hdec : dec (b0 :: t) = decN (b0 :: t).length b0 (t.getD 0 0) (t.getD 1 0) (t.getD 2 0) := by unfold dec; rw [if_neg (by simp)]; rfl
  rw [hdec,w64 b0 (by omega) (by omega),w64 (b0 - 240) (by omega) (by omega),w64 (b0 - 224) (by omega) (by omega),w64 (b0 - 192) (by omega) (by omega)]
  by_cases c4 : b0 ≥ 240
  · rw [if_pos c4]; exact four k b0 t hl c4
  · rw [if_neg c4]
    by_cases c3 : b0 ≥ 224
    · rw [if_pos c3]; exact three k b0 t hl c3 (by omega)
    · rw [if_neg c3]
      by_cases c2 : b0 ≥ 192
      · rw [if_pos c2]; exact two k b0 t hl c2 (by omega)
      · rw [if_neg c2]; exact one k b0 t hl (by omega)
/-! ## Characters of XML; where the first byte stands that is none -/
def xmlC (r : Int) : Bool := decide ((32 ≤ r ∧ r ≤ 55295) ∨ (9 ≤ r ∧ r ≤ 10) ∨ r = 13 ∨ (57344 ≤ r ∧ r ≤ 65533) ∨ (65536 ≤ r ∧ r ≤ 1114111))
theorem chars_in_at (r : Int) (xs : List S121) (hlen : xs.length < 1000000) : ∀ d i k : Nat,i + d = xs.length → chars_in.l0 (k + d + 1) r xs (xs.length : Int) (i : Int) = some ((xs.drop i).any fun s => decide (s.f0 ≤ r) && decide (r ≤ s.f1)) := by
 intro d
 induction d with
 | zero =>
  intro i k hi
  rw [chars_in.l0,if_neg (by omega),List.drop_of_length_le (by omega)]; rfl
 | succ d ih =>
  intro i k hi
  have hlt : i < xs.length := by omega
  have e2 : wrap64 ((i : Int) + 1) = ((i + 1 : Nat) : Int) := by rw [w64 _ (by omega) (by omega)]; omega
  have hrd : rd_T121 xs (i : Int) = xs[i] := by simp [rd_T121,List.getD,hlt]
  rw [show k + (d + 1) + 1 = (k + d + 1) + 1 from by omega,chars_in.l0,if_pos (by omega),if_pos (by omega),if_pos (by omega),hrd,List.drop_eq_getElem_cons hlt,e2,ih (i + 1) k (by omega),List.any_cons]
  generalize ((xs.drop (i + 1)).any fun s => decide (s.f0 ≤ r) && decide (r ≤ s.f1)) = v
  by_cases c1 : (xs[i]).f0 ≤ r
  · by_cases c2 : r ≤ (xs[i]).f1
    · simp [c1,c2]
    · simp [c1,c2]
  · simp [c1]
theorem chars_in_spec (r : Int) (xs : List S121) (hlen : xs.length < 1000000) (k : Nat) (hk : xs.length + 1 ≤ k) : chars_in.f k r xs = some (xs.any fun s => decide (s.f0 ≤ r) && decide (r ≤ s.f1)) := by
 have := chars_in_at r xs hlen xs.length 0 (k - xs.length - 1) (by omega)
 rw [show k - xs.length - 1 + xs.length + 1 = k from by omega] at this
 exact this
theorem chars_ofXML_spec (k : Nat) (r : Int) : chars_ofXML.f (k + 10) r = some (xmlC r) := by
 unfold chars_ofXML.f
 rw [chars_in_spec r _ (by simp) _ (by simp),Option.bind_some]
 unfold xmlC
 congr 1
 simp only [List.any_cons,List.any_nil,Bool.or_false]
 rw [Bool.eq_iff_iff]
 simp only [Bool.or_eq_true,Bool.and_eq_true,decide_eq_true_eq]
 omega
/-- Between two of the numbers that stand by twos. -/
def inP (r : Int) : List Int → Bool
 | a :: b :: t => (decide (a ≤ r) && decide (r ≤ b)) || inP r t
 | _ => false
theorem within_at (r : Int) (xs : List Int) (hlen : xs.length < 1000000) : ∀ d i k : Nat,xs.length ≤ i + 2 * d → i ≤ xs.length → dossierref01_within.l0 (k + d + 1) r xs (i : Int) = some (inP r (xs.drop i)) := by
 intro d
 induction d with
 | zero =>
  intro i k hi hi2
  rw [dossierref01_within.l0,w64 ((i : Int) + 1) (by omega) (by omega),if_neg (by omega),List.drop_of_length_le (by omega)]; rfl
 | succ d ih =>
  intro i k hi hi2
  have e1 : wrap64 ((i : Int) + 1) = ((i + 1 : Nat) : Int) := by rw [w64 _ (by omega) (by omega)]; omega
  have e2 : wrap64 ((i : Int) + 2) = ((i + 2 : Nat) : Int) := by rw [w64 _ (by omega) (by omega)]; omega
  rw [show k + (d + 1) + 1 = (k + d + 1) + 1 from by omega,dossierref01_within.l0,e1,e2]
  by_cases hlt : i + 1 < xs.length
  · have h1 : i < xs.length := by omega
    have hrd : rd xs (i : Int) = xs[i] := by simp [rd,List.getD,h1]
    have hrd2 : rd xs ((i + 1 : Nat) : Int) = xs[i + 1] := by simp only [rd,List.getD,Int.toNat_natCast,List.getElem?_eq_getElem hlt,Option.getD_some]
    rw [if_pos (by omega),if_pos (by omega),if_pos (by omega),hrd,hrd2,List.drop_eq_getElem_cons h1,List.drop_eq_getElem_cons hlt,ih (i + 2) k (by omega) (by omega),inP]
    generalize inP r (xs.drop (i + 2)) = v
    by_cases c1 : xs[i] ≤ r
    · by_cases c2 : r ≤ xs[i + 1]
      · rw [if_pos c1,if_pos (by omega),if_pos c2]; simp [c1,c2]
      · rw [if_pos c1,if_pos (by omega),if_neg c2]; simp [c2]
    · rw [if_neg c1]; simp [c1]
  · rw [if_neg (by omega)]
    match hx : xs.drop i with
    | [] => rfl
    | [_] => rfl
    | _ :: _ :: _ => have := congrArg List.length hx; simp at this; omega
theorem within_spec (r : Int) (xs : List Int) (hlen : xs.length < 1000000) (k : Nat) (hk : xs.length + 1 ≤ k) : dossierref01_within.f k r xs = some (inP r xs) := by
 have := within_at r xs hlen xs.length 0 (k - xs.length - 1) (by omega) (by omega)
 rw [show k - xs.length - 1 + xs.length + 1 = k from by omega] at this
 exact this
theorem ref_OfXML_spec (k : Nat) (r : Int) : dossierref01_OfXML.f (k + 20) r = some (xmlC r) := by
 unfold dossierref01_OfXML.f
 rw [within_spec r _ (by simp) _ (by simp),Option.bind_some]
 unfold xmlC
 congr 1
 simp only [inP,Bool.or_false]
 rw [Bool.eq_iff_iff]
 simp only [Bool.or_eq_true,Bool.and_eq_true,decide_eq_true_eq]
 omega
end Go.Proofs.YtccfmfifnbnlmaaGreatDoor.Chars
end
section
/- Names: the program's and the reference's are the same at every list of bytes. -/
set_option linter.unusedSimpArgs false
set_option linter.unusedVariables false
namespace Go.Proofs.YtccfmfifnbnlmaaGreatDoor.Xm
open Go.RowKit Go.Proofs.YtccfmfifnbnlmaaGreatDoor.Q Go.Proofs.YtccfmfifnbnlmaaGreatDoorW.PrintWords Go.Proofs.YtccfmfifnbnlmaaGreatDoorW.PrintLast Go.Proofs.YtccfmfifnbnlmaaGreatDoorH Go.Proofs.YtccfmfifnbnlmaaGreatDoor.Chars

theorem x64 (x : Int) (h0 : -10000000000 ≤ x) (h1 : x < 100000000000) : wrap64 x = x := by unfold wrap64; omega
def firstC (r : Int) : Bool := decide ((65 ≤ r ∧ r ≤ 90) ∨ (95 ≤ r ∧ r ≤ 95) ∨ (97 ≤ r ∧ r ≤ 122) ∨ (192 ≤ r ∧ r ≤ 214) ∨ (216 ≤ r ∧ r ≤ 246) ∨ (248 ≤ r ∧ r ≤ 767) ∨ (880 ≤ r ∧ r ≤ 893) ∨ (895 ≤ r ∧ r ≤ 8191) ∨ (8204 ≤ r ∧ r ≤ 8205) ∨ (8304 ≤ r ∧ r ≤ 8591) ∨ (11264 ≤ r ∧ r ≤ 12271) ∨ (12289 ≤ r ∧ r ≤ 55295) ∨ (63744 ≤ r ∧ r ≤ 64975) ∨ (65008 ≤ r ∧ r ≤ 65533) ∨ (65536 ≤ r ∧ r ≤ 983039))
def laterC (r : Int) : Bool := firstC r || decide ((45 ≤ r ∧ r ≤ 46) ∨ (48 ≤ r ∧ r ≤ 57) ∨ (183 ≤ r ∧ r ≤ 183) ∨ (768 ≤ r ∧ r ≤ 879) ∨ (8255 ≤ r ∧ r ≤ 8256))
theorem or_low : ∀ n : Fin 128, (Go.bits .or .i64 (n.val : Int) 32 ≥ 97 ∧ Go.bits .or .i64 (n.val : Int) 32 ≤ 122) ↔ ((65 ≤ n.val ∧ n.val ≤ 90) ∨ (97 ≤ n.val ∧ n.val ≤ 122)) := by decide
theorem or_low' (r : Int) (h0 : 0 ≤ r) (h1 : r < 128) : (Go.bits .or .i64 r 32 ≥ 97 ∧ Go.bits .or .i64 r 32 ≤ 122) ↔ ((65 ≤ r ∧ r ≤ 90) ∨ (97 ≤ r ∧ r ≤ 122)) := by
  have := or_low ⟨r.toNat, by omega⟩
  simp only [Int.toNat_of_nonneg h0] at this
  rw [this]; omega
theorem first_spec (k : Nat) (r : Int) (h0 : 0 ≤ r) : chars_First.f (k + 20) r = some (firstC r) := by
  unfold chars_First.f
  by_cases h1 : r < 128
  · have h := or_low' r h0 h1
    rw [if_pos h1]
    by_cases h2 : (65 ≤ r ∧ r ≤ 90) ∨ (97 ≤ r ∧ r ≤ 122)
    · have h3 := h.2 h2
      rw [if_pos h3.1, if_pos h3.2]
      unfold firstC; rw [decide_eq_true (by omega)]
    · have h4 : (r == 95) = firstC r := by
        unfold firstC; rw [Bool.eq_iff_iff, beq_iff_eq, decide_eq_true_eq]; omega
      by_cases h3 : Go.bits .or .i64 r 32 ≥ 97
      · rw [if_pos h3, if_neg (fun h5 => h2 (h.1 ⟨h3, h5⟩)), h4]
      · rw [if_neg h3, h4]
  · rw [if_neg h1, chars_in_spec r _ (by simp) _ (by simp), Option.bind_some]
    unfold firstC
    congr 1
    simp only [List.any_cons, List.any_nil, Bool.or_false]
    rw [Bool.eq_iff_iff]
    simp only [Bool.or_eq_true, Bool.and_eq_true, decide_eq_true_eq]
    omega
theorem later_spec (k : Nat) (r : Int) (h0 : 0 ≤ r) : chars_Later.f (k + 20) r = some (laterC r) := by
  unfold chars_Later.f
  rw [first_spec k r h0, Option.bind_some, chars_in_spec r _ (by simp) _ (by simp), Option.bind_some]
  unfold laterC
  by_cases h : firstC r = true
  · rw [if_pos h, h]; rfl
  · rw [if_neg h, Bool.not_eq_true _ |>.mp h, Bool.false_or]
    simp only [List.any_cons, List.any_nil, Bool.or_false]
    by_cases h1 : r = 45
    · rw [if_pos h1, decide_eq_true (by omega)]
    by_cases h2 : r = 46
    · rw [if_neg h1, if_pos h2, decide_eq_true (by omega)]
    by_cases h3 : r = 183
    · rw [if_neg h1, if_neg h2, if_pos h3, decide_eq_true (by omega)]
    rw [if_neg h1, if_neg h2, if_neg h3]
    congr 1
    rw [Bool.eq_iff_iff]
    simp only [Bool.or_eq_true, Bool.and_eq_true, decide_eq_true_eq]
    omega
theorem ref_First_spec (k : Nat) (r : Int) : dossierref01_First.f (k + 40) r = some (firstC r) := by
  unfold dossierref01_First.f
  rw [within_spec r _ (by simp) _ (by simp), Option.bind_some]
  unfold firstC
  congr 1
  simp only [inP, Bool.or_false]
  rw [Bool.eq_iff_iff]
  simp only [Bool.or_eq_true, Bool.and_eq_true, decide_eq_true_eq]
theorem ref_Later_spec (k : Nat) (r : Int) : dossierref01_Later.f (k + 40) r = some (laterC r) := by
  unfold dossierref01_Later.f
  rw [ref_First_spec k r, Option.bind_some, within_spec r _ (by simp) _ (by simp), Option.bind_some]
  unfold laterC
  by_cases h : firstC r = true
  · rw [if_pos h, h]; rfl
  · rw [if_neg h, Bool.not_eq_true _ |>.mp h, Bool.false_or]
    congr 1
    simp only [inP, Bool.or_false]
    rw [Bool.eq_iff_iff]
    simp only [Bool.or_eq_true, Bool.and_eq_true, decide_eq_true_eq]
/-- How many bytes a name has, from a place on (`a`: its first character). -/
def nameGo : Nat → Bool → List Int → Nat
  | 0, _, _ => 0
  | d + 1, a, l => if (dec l).2 = 0 ∨ (a = true ∧ firstC (dec l).1 = false) ∨ laterC (dec l).1 = false then 0 else (dec l).2.toNat + nameGo d false (l.drop (dec l).2.toNat)
def nameL (l : List Int) : Nat := nameGo (l.length + 1) true l
theorem nameGo_le : ∀ (d : Nat) (a : Bool) (l : List Int), Bytes l → nameGo d a l ≤ l.length
  | 0, _, _, _ => Nat.zero_le _
  | d + 1, a, l, hl => by
    unfold nameGo
    have h := dec_two hl
    split
    · exact Nat.zero_le _
    · have := nameGo_le d false (l.drop (dec l).2.toNat) (hl.drop _)
      rw [List.length_drop] at this
      omega
theorem nameGo_fuel : ∀ (d : Nat) (a : Bool) (l : List Int), Bytes l → l.length < d → nameGo (d + 1) a l = nameGo d a l
  | 0, _, _, _, h => absurd h (Nat.not_lt_zero _)
  | d + 1, a, l, hl, h => by
    have hd := dec_two hl
    rw [nameGo]
    conv => rhs; rw [nameGo]
    split
    · rfl
    · rename_i hc
      rw [nameGo_fuel d false _ (hl.drop _) (by rw [List.length_drop]; omega)]
theorem nameOf_at (l : List Int) (hl : Bytes l) (hs : l.length ≤ 1000000000) : ∀ (d i k : Nat), l.length ≤ i + d → i ≤ l.length → xmllex_nameOf.l0 (k + d + 30) l (i : Int) = some (l.take (i + nameGo (d + 1) (i == 0) (l.drop i))) := by
  intro d
  induction d with
  | zero =>
    intro i k h1 h2
    have e : l.drop i = [] := List.drop_eq_nil_of_le (by omega)
    rw [show k + 0 + 30 = (k + 29) + 1 from rfl, xmllex_nameOf.l0, if_pos (by omega), if_pos (by omega), Int.toNat_natCast, chars_Decode_spec _ (hl.drop i), Option.bind_some, e]
    have e2 : (dec []).2 = 0 := rfl
    rw [if_pos e2]
    simp only [nameGo]
    rw [if_pos (Or.inl e2), Nat.add_zero]
  | succ d ih =>
    intro i k h1 h2
    have hd := dec_two (hl.drop i)
    rw [show k + (d + 1) + 30 = (k + d + 30) + 1 from by omega, xmllex_nameOf.l0, if_pos (by omega), if_pos (by omega), Int.toNat_natCast, chars_Decode_spec _ (hl.drop i), Option.bind_some]
    generalize hw : dec (l.drop i) = w at hd
    rw [nameGo, hw]
    rw [List.length_drop] at hd
    by_cases c0 : w.2 = 0
    · rw [if_pos c0, if_pos (Or.inl c0), Nat.add_zero]
    rw [if_neg c0, show k + d + 30 = (k + d + 10) + 20 from rfl, first_spec _ _ hd.2.2.1, later_spec _ _ hd.2.2.1]
    simp only [Option.bind_some]
    have e1 : wrap64 ((i : Int) + w.2) = ((i + w.2.toNat : Nat) : Int) := by rw [x64 _ (by omega) (by omega)]; omega
    have h3 := ih (i + w.2.toNat) k (by omega) (by omega)
    rw [show k + d + 30 = (k + d + 10) + 20 from rfl] at h3
    rw [e1, h3, show ((i + w.2.toNat == 0) : Bool) = false from by rw [beq_eq_false_iff_ne]; omega, List.drop_drop, Nat.add_assoc]
    by_cases c1 : i = 0
    · subst c1
      rw [if_pos (by rfl)]
      cases hf : firstC w.1 <;> cases hg : laterC w.1 <;> simp [c0]
    · rw [if_neg (by omega)]
      have : (i == 0) = false := by rw [beq_eq_false_iff_ne]; exact c1
      cases hg : laterC w.1 <;> simp [c0, this]
theorem nameOf_spec (l : List Int) (hl : Bytes l) (hs : l.length ≤ 1000000000) (k : Nat) : xmllex_nameOf.f (k + l.length + 30) l = some (l.take (nameL l)) := by
  have := nameOf_at l hl hs l.length 0 k (by omega) (by omega)
  rw [Nat.zero_add] at this
  exact this
theorem first_later {r : Int} (h : firstC r = true) : laterC r = true := by unfold laterC; rw [h]; rfl
theorem nameAt_at (l : List Int) (hl : Bytes l) (hs : l.length ≤ 1000000000) : ∀ (d i k : Nat), l.length ≤ i + d → i ≤ l.length → dossierref01_NameAt.l0 (k + d + 60) l (i : Int) = some ((i + nameGo (d + 1) false (l.drop i) : Nat) : Int) := by
  intro d
  induction d with
  | zero =>
    intro i k h1 h2
    have e : l.drop i = [] := List.drop_eq_nil_of_le (by omega)
    rw [show k + 0 + 60 = (k + 49 + 10) + 1 from rfl, dossierref01_NameAt.l0, if_pos (by omega), if_pos (by omega), Int.toNat_natCast, ref_Decode_spec _ _ (hl.drop i), Option.bind_some, e]
    have e2 : (dec []).2 = 0 := rfl
    rw [if_pos e2]
    simp only [nameGo]
    rw [if_pos (Or.inl e2), Nat.add_zero]
  | succ d ih =>
    intro i k h1 h2
    have hd := dec_two (hl.drop i)
    rw [show k + (d + 1) + 60 = (k + d + 50 + 10) + 1 from by omega, dossierref01_NameAt.l0, if_pos (by omega), if_pos (by omega), Int.toNat_natCast, ref_Decode_spec _ _ (hl.drop i), Option.bind_some]
    generalize hw : dec (l.drop i) = w at hd
    rw [nameGo, hw]
    rw [List.length_drop] at hd
    by_cases c0 : w.2 = 0
    · rw [if_pos c0, if_pos (Or.inl c0), Nat.add_zero]
    rw [if_neg c0, show k + d + 50 + 10 = (k + d + 20) + 40 from rfl, ref_Later_spec]
    simp only [Option.bind_some]
    have e1 : wrap64 ((i : Int) + w.2) = ((i + w.2.toNat : Nat) : Int) := by rw [x64 _ (by omega) (by omega)]; omega
    have h3 := ih (i + w.2.toNat) k (by omega) (by omega)
    rw [show k + d + 60 = (k + d + 20) + 40 from rfl] at h3
    rw [e1, h3, List.drop_drop, Nat.add_assoc]
    cases hg : laterC w.1 <;> simp [c0]
theorem nameAt_spec (l : List Int) (hl : Bytes l) (hs : l.length ≤ 1000000000) (k : Nat) : dossierref01_NameAt.f (k + l.length + 70) l = some (nameL l : Int) := by
  have hd := dec_two hl
  have key := fun i h => nameAt_at l hl hs l.length i (k + 9) (by omega) h
  unfold dossierref01_NameAt.f nameL
  rw [show k + l.length + 70 = (k + l.length + 60) + 10 from rfl, ref_Decode_spec _ _ hl, Option.bind_some, nameGo]
  generalize hw : dec l = w at hd
  by_cases c0 : w.2 = 0
  · rw [if_pos c0, dossierref01_NameAt.j0, if_pos rfl, if_pos (Or.inl c0)]; rfl
  rw [if_neg c0, show k + l.length + 60 + 10 = (k + l.length + 30) + 40 from rfl, ref_First_spec, Option.bind_some, show k + l.length + 30 + 40 = (k + l.length + 69) + 1 from rfl, dossierref01_NameAt.j0]
  cases hf : firstC w.1
  · rw [if_pos (by rfl), if_pos (Or.inr (Or.inl ⟨rfl, rfl⟩))]; rfl
  · rw [if_neg (by simp), if_neg (by simp [c0, first_later hf])]
    have h3 := key w.2.toNat (by omega)
    rw [show (w.2.toNat : Int) = w.2 from by omega, show k + 9 + l.length + 60 = k + l.length + 69 from by omega] at h3
    rw [h3, nameGo_fuel _ _ _ (hl.drop _) (by rw [List.length_drop]; omega)]
end Go.Proofs.YtccfmfifnbnlmaaGreatDoor.Xm
end
section
/- What is known of each function: its word; and the contexts in which it is reckoned. -/
-- prev dossierref05_name
set_option linter.unusedVariables false
namespace Go.Proofs.YtccfmfifnbnlmaaGreatDoor.Ev
open Go
/-- Bytes to be looked through for a text. -/
def seekB (b c : List Int) : Prop := (byteB b = true ∧ byteB c = true) ∧ (b.length < 4294967281 ∧ 0 < c.length ∧ c.length ≤ 1000)
instance (b c : List Int) : Decidable (seekB b c) := by unfold seekB; infer_instance
def cutX (b c : List Int) : Option (List Int × List Int × Bool) := if seekB b c then (if 0 ≤ bIndexW b c then some (b.take (bIndexW b c).toNat,b.drop ((bIndexW b c).toNat + c.length),true) else some (b,[],false)) else none
def containsX (b c : List Int) : Option Bool := if seekB b c then some (bIndexW b c != -1) else none
def replX (l m r : List Int) : Option (List Int) := if (byteB l = true ∧ byteB m = true) ∧ (l.length < 4294967281 ∧ 1 ≤ m.length ∧ m.length ≤ 2 ∧ r.length = 1) then some (replW l m r) else none
noncomputable def cx_bytes_Equal := cxOf specs_dossierref05_name
noncomputable def bytes_Equal.spec : Spec := fun args st K => match args,st.box,st.nt with
 | [.sl (.int .u8) b .no,.sl (.int .u8) c .no],[],0 => (Q.bytes_Equal.f b c).bind fun v => K (.ret (.bool v)) (lcRet [] [] 0)
 | _,_,_ => none
noncomputable def specs_bytes_Equal : SpecL := (14,false,bytes_Equal.spec) :: specs_dossierref05_name
noncomputable def cx_bytes_HasPrefix := cxOf specs_bytes_Equal
noncomputable def bytes_HasPrefix.spec : Spec := fun args st K => match args,st.box,st.nt with
 | [.sl (.int .u8) b .no,.sl (.int .u8) c .no],[],0 => (Q.bytes_HasPrefix.f b c).bind fun v => K (.ret (.bool v)) (lcRet [] [] 0)
 | _,_,_ => none
noncomputable def specs_bytes_HasPrefix : SpecL := (21,false,bytes_HasPrefix.spec) :: specs_bytes_Equal
noncomputable def cx_bytes_CutPrefix := cxOf specs_bytes_HasPrefix
noncomputable def bytes_CutPrefix.spec : Spec := fun args st K => match args,st.box,st.nt with
 | [.sl (.int .u8) b .no,.sl (.int .u8) c .no],[],0 => (Q.bytes_CutPrefix.f b c).bind fun v => K (.ret (.tup [.sl (.int .u8) (v.1) .no,.bool v.2])) (lcRet [] [] 0)
 | _,_,_ => none
noncomputable def specs_bytes_CutPrefix : SpecL := (83,false,bytes_CutPrefix.spec) :: specs_bytes_HasPrefix
noncomputable def cx_stringslite_HasPrefix := cxOf specs_bytes_CutPrefix
noncomputable def stringslite_HasPrefix.spec : Spec := fun args st K => match args,st.box,st.nt with
 | [.str s,.str t],[],0 => (Q.stringslite_HasPrefix.f s t).bind fun v => K (.ret (.bool v)) (lcRet [] [] 0)
 | _,_,_ => none
noncomputable def specs_stringslite_HasPrefix : SpecL := (111,false,stringslite_HasPrefix.spec) :: specs_bytes_CutPrefix
noncomputable def cx_stringslite_CutPrefix := cxOf specs_stringslite_HasPrefix
noncomputable def stringslite_CutPrefix.spec : Spec := fun args st K => match args,st.box,st.nt with
 | [.str s,.str t],[],0 => (Q.stringslite_CutPrefix.f s t).bind fun v => K (.ret (.tup [.str v.1,.bool v.2])) (lcRet [] [] 0)
 | _,_,_ => none
noncomputable def specs_stringslite_CutPrefix : SpecL := (95,false,stringslite_CutPrefix.spec) :: specs_stringslite_HasPrefix
noncomputable def cx_strings_CutPrefix := cxOf specs_stringslite_CutPrefix
noncomputable def strings_CutPrefix.spec : Spec := fun args st K => match args,st.box,st.nt with
 | [.str s,.str t],[],0 => (Q.strings_CutPrefix.f s t).bind fun v => K (.ret (.tup [.str v.1,.bool v.2])) (lcRet [] [] 0)
 | _,_,_ => none
noncomputable def specs_strings_CutPrefix : SpecL := (75,false,strings_CutPrefix.spec) :: specs_stringslite_CutPrefix
noncomputable def cx_bytes_Cut := cxOf specs_strings_CutPrefix
noncomputable def bytes_Cut.spec : Spec := fun args st K => match args,st.box,st.nt with
 | [.sl (.int .u8) b .no,.sl (.int .u8) c .no],[],0 => (cutX b c).bind fun v => K (.ret (.tup [.sl (.int .u8) (v.1) .no,.sl (.int .u8) (v.2.1) .no,.bool v.2.2])) (lcRet [] [] 0)
 | _,_,_ => none
noncomputable def specs_bytes_Cut : SpecL := (48,false,bytes_Cut.spec) :: specs_strings_CutPrefix
noncomputable def cx_bytes_Contains := cxOf specs_bytes_Cut
noncomputable def bytes_Contains.spec : Spec := fun args st K => match args,st.box,st.nt with
 | [.sl (.int .u8) b .no,.sl (.int .u8) c .no],[],0 => (containsX b c).bind fun v => K (.ret (.bool v)) (lcRet [] [] 0)
 | _,_,_ => none
noncomputable def specs_bytes_Contains : SpecL := (63,false,bytes_Contains.spec) :: specs_bytes_Cut
noncomputable def cx_bytes_ReplaceAll := cxOf specs_bytes_Contains
noncomputable def bytes_ReplaceAll.spec : Spec := fun args st K => match args,st.box,st.nt with
 | [.sl (.int .u8) b .no,.sl (.int .u8) c .no,.sl (.int .u8) d .no],[],0 => (replX b c d).bind fun v => K (.ret (.sl (.int .u8) (v) .no)) (lcRet [] [] 0)
 | _,_,_ => none
noncomputable def specs_bytes_ReplaceAll : SpecL := (74,false,bytes_ReplaceAll.spec) :: specs_bytes_Contains
end Go.Proofs.YtccfmfifnbnlmaaGreatDoor.Ev
end
section
/- What each function comes to, one step of it at a time: the kernel's own reckoning. -/
set_option linter.unusedVariables false
set_option maxRecDepth 100000
namespace Go.Proofs.YtccfmfifnbnlmaaGreatDoor.Ev
open Go Go.RowKit
open Go.IntKind (i64 u8 i32 u64)
theorem bytes_Equal.top (n : Nat) (b c : List Int) : callX false (fnF cx_bytes_Equal noCalls n 14) ([.sl (.int .u8) b .no,.sl (.int .u8) c .no]) (lcSt [] 0) out = some (.ret (.bool (seq (ofBytes b) (ofBytes c))),lcRet [] [] 0) := by kernel_rfl
theorem bytes_ReplaceAll.top (n : Nat) (b c d : List Int) : callX false (fnF cx_bytes_ReplaceAll noCalls n 74) ([.sl (.int .u8) b .no,.sl (.int .u8) c .no,.sl (.int .u8) d .no]) (lcSt [] 0) out = if ((-1 : Int) = (-1 : Int) ∧ byteB b = true ∧ byteB c = true) ∧ b.length < 4294967281 ∧ 1 ≤ c.length ∧ c.length ≤ 2 ∧ d.length = 1 then some (.ret (.sl (.int .u8) (replW b c d) .no),lcRet [] [] 0) else none := by kernel_rfl
theorem bytes_HasPrefix.top (n : Nat) (b c : List Int) : callX false (fnF cx_bytes_HasPrefix noCalls n 21) ([.sl (.int .u8) b .no,.sl (.int .u8) c .no]) (lcSt [] 0) out = if decide ((↑b.length : Int) ≥ (↑c.length : Int)) = true then if 0 ≤ (↑c.length : Int) then if (↑c.length : Int) ≤ (↑b.length : Int) then ((Q.bytes_Equal.f (List.take (↑c.length : Int).toNat b) c).bind fun v0 => some (.ret (.bool (if true = true then v0 else false)),lcRet [] [] 0)) else none else none else some (.ret (.bool false),lcRet [] [] 0) := by kernel_rfl
theorem bytes_CutPrefix.top (n : Nat) (b c : List Int) : callX false (fnF cx_bytes_CutPrefix noCalls n 83) ([.sl (.int .u8) b .no,.sl (.int .u8) c .no]) (lcSt [] 0) out = ((Q.bytes_HasPrefix.f b c).bind fun v0 => if (!v0) = true then some (.ret (.tup [.sl (.int .u8) b .no,.bool false]),lcRet [] [] 0) else if 0 ≤ (↑c.length : Int) then if (↑c.length : Int) ≤ (↑b.length : Int) then some (.ret (.tup [.sl (.int .u8) (List.drop (↑c.length : Int).toNat b) .no,.bool true]),lcRet [] [] 0) else none else none) := by kernel_rfl
theorem stringslite_HasPrefix.top (n : Nat) (s t : ByteArray) : callX false (fnF cx_stringslite_HasPrefix noCalls n 111) ([.str s,.str t]) (lcSt [] 0) out = if decide ((↑s.size : Int) ≥ (↑t.size : Int)) = true then if 0 ≤ (↑t.size : Int) then if (↑t.size : Int) ≤ (↑s.size : Int) then some (.ret (.bool (if true = true then seq (s.extract 0 (↑t.size : Int).toNat) t else false)),lcRet [] [] 0) else none else none else some (.ret (.bool false),lcRet [] [] 0) := by kernel_rfl
theorem stringslite_CutPrefix.top (n : Nat) (s t : ByteArray) : callX false (fnF cx_stringslite_CutPrefix noCalls n 95) ([.str s,.str t]) (lcSt [] 0) out = ((Q.stringslite_HasPrefix.f s t).bind fun v0 => if (!v0) = true then some (.ret (.tup [.str s,.bool false]),lcRet [] [] 0) else if 0 ≤ (↑t.size : Int) then if (↑t.size : Int) ≤ (↑s.size : Int) then some (.ret (.tup [.str (s.extract (↑t.size : Int).toNat s.size),.bool true]),lcRet [] [] 0) else none else none) := by kernel_rfl
theorem strings_CutPrefix.top (n : Nat) (s t : ByteArray) : callX false (fnF cx_strings_CutPrefix noCalls n 75) ([.str s,.str t]) (lcSt [] 0) out = ((Q.stringslite_CutPrefix.f s t).bind fun v0 => some (.ret (.tup [.str v0.1,.bool v0.2]),lcRet [] [] 0)) := by kernel_rfl
theorem bytes_Cut.top (n : Nat) (b c : List Int) : callX false (fnF cx_bytes_Cut noCalls n 48) ([.sl (.int .u8) b .no,.sl (.int .u8) c .no]) (lcSt [] 0) out = if (byteB b = true ∧ byteB c = true) ∧ b.length < 4294967281 ∧ 0 < c.length ∧ c.length ≤ 1000 then if decide (bIndexW b c ≥ 0) = true then if 0 ≤ bIndexW b c then if bIndexW b c ≤ (↑b.length : Int) then if 0 ≤ i64.wrap (bIndexW b c + (↑c.length : Int)) then if i64.wrap (bIndexW b c + (↑c.length : Int)) ≤ (↑b.length : Int) then some (.ret (.tup [.sl (.int .u8) (List.take (bIndexW b c).toNat b) .no,.sl (.int .u8) (List.drop (i64.wrap (bIndexW b c + (↑c.length : Int))).toNat b) .no,.bool true]),lcRet [] [] 0) else none else none else none else none else some (.ret (.tup [.sl (.int .u8) b .no,.sl (.int .u8) [] .no,.bool false]),lcRet [] [] 0) else none := by kernel_rfl
theorem bytes_Contains.top (n : Nat) (b c : List Int) : callX false (fnF cx_bytes_Contains noCalls n 63) ([.sl (.int .u8) b .no,.sl (.int .u8) c .no]) (lcSt [] 0) out = if (byteB b = true ∧ byteB c = true) ∧ b.length < 4294967281 ∧ 0 < c.length ∧ c.length ≤ 1000 then some (.ret (.bool (bIndexW b c != (-1 : Int))),lcRet [] [] 0) else none := by kernel_rfl
end Go.Proofs.YtccfmfifnbnlmaaGreatDoor.Ev
end
section
/- The evaluator's trees are the functions: bytes, names, references. -/
set_option linter.unusedVariables false
set_option linter.unusedSimpArgs false
namespace Go.Proofs.YtccfmfifnbnlmaaGreatDoor.Ev
open Go Go.RowKit Go.Proofs.YtccfmfifnbnlmaaGreatDoorW.PrintWords
theorem bIndex_room {b c : List Int} (h : 0 ≤ bIndexW b c) : bIndexW b c + (c.length : Int) ≤ b.length := by
 have := index_room (Lib.bytesOf b) (Lib.bytesOf c) (bIndexW b c).toNat (by rw [Int.toNat_of_nonneg h]; rfl)
 have h1 : (Lib.bytesOf b).length = b.length := List.length_map _
 have h2 : (Lib.bytesOf c).length = c.length := List.length_map _
 omega
theorem bytes_Equal.ok : AllOk specs_bytes_Equal := okS (cx := cx_bytes_Equal) rfl dossierref05_name.ok (by kernel_rfl) fun args cs n K r g => by
 unfold bytes_Equal.spec at g
 dsimp only [lcSt] at g
 split at g
 · rename_i b c
   obtain ⟨v,h,h2⟩ := bind2 g
   clear g
   refine okG h2 ?_
   clear h2
   refine ⟨0,?_⟩
   rw [bytes_Equal.top]
   unfold Q.bytes_Equal.f at h
   have hs : ∀ x y : ByteArray,seq x y = (x.toList == y.toList) := fun x y => by rw [Bool.eq_iff_iff,seq_list,beq_iff_eq]
   simp only [hs]
   simp only [ite_or,ite_and,false_or_b,true_and_b,seq_list,seq_false,wrap_64,wrap_8,wrap_u64_mod,ba_list,decide_eq_true_eq,beq_iff_eq,Bool.not_eq_true',Int.zero_sub,toBytes_len,bt_eq,shr_6,shr_12,shr_18,wrap64_mod,toNat0,toNat1,toNat2,most,List.length_cons,List.length_nil,ofBytes_eq] at h ⊢
   grind
 · cases g
theorem bytes_HasPrefix.ok : AllOk specs_bytes_HasPrefix := okS (cx := cx_bytes_HasPrefix) rfl bytes_Equal.ok (by kernel_rfl) fun args cs n K r g => by
 unfold bytes_HasPrefix.spec at g
 dsimp only [lcSt] at g
 split at g
 · rename_i b c
   obtain ⟨v,h,h2⟩ := bind2 g
   clear g
   refine okG h2 ?_
   clear h2
   refine ⟨0,?_⟩
   rw [bytes_HasPrefix.top]
   unfold Q.bytes_HasPrefix.f at h
   simp only [ite_or,ite_and,false_or_b,true_and_b,seq_list,seq_false,wrap_64,wrap_8,wrap_u64_mod,ba_list,decide_eq_true_eq,beq_iff_eq,Bool.not_eq_true',Int.zero_sub,toBytes_len,bt_eq,shr_6,shr_12,shr_18,wrap64_mod,toNat0,toNat1,toNat2,most,List.length_cons,List.length_nil,ofBytes_eq] at h ⊢
   grind [→ bindE]
 · cases g
theorem bytes_CutPrefix.ok : AllOk specs_bytes_CutPrefix := okS (cx := cx_bytes_CutPrefix) rfl bytes_HasPrefix.ok (by kernel_rfl) fun args cs n K r g => by
 unfold bytes_CutPrefix.spec at g
 dsimp only [lcSt] at g
 split at g
 · rename_i b c
   obtain ⟨v,h,h2⟩ := bind2 g
   clear g
   refine okG h2 ?_
   clear h2
   refine ⟨0,?_⟩
   rw [bytes_CutPrefix.top]
   unfold Q.bytes_CutPrefix.f at h
   simp only [ite_or,ite_and,false_or_b,true_and_b,seq_list,seq_false,wrap_64,wrap_8,wrap_u64_mod,ba_list,decide_eq_true_eq,beq_iff_eq,Bool.not_eq_true',Int.zero_sub,toBytes_len,bt_eq,shr_6,shr_12,shr_18,wrap64_mod,toNat0,toNat1,toNat2,most,List.length_cons,List.length_nil,ofBytes_eq] at h ⊢
   grind [→ bindE]
 · cases g
theorem stringslite_HasPrefix.ok : AllOk specs_stringslite_HasPrefix := okS (cx := cx_stringslite_HasPrefix) rfl bytes_CutPrefix.ok (by kernel_rfl) fun args cs n K r g => by
 unfold stringslite_HasPrefix.spec at g
 dsimp only [lcSt] at g
 split at g
 · rename_i s t
   obtain ⟨v,h,h2⟩ := bind2 g
   clear g
   refine okG h2 ?_
   clear h2
   refine ⟨0,?_⟩
   rw [stringslite_HasPrefix.top]
   unfold Q.stringslite_HasPrefix.f at h
   have hs : ∀ x y : ByteArray,seq x y = (x.toList == y.toList) := fun x y => by rw [Bool.eq_iff_iff,seq_list,beq_iff_eq]
   simp only [hs]
   simp only [ite_or,ite_and,false_or_b,true_and_b,seq_list,seq_false,wrap_64,wrap_8,wrap_u64_mod,ba_list,decide_eq_true_eq,beq_iff_eq,Bool.not_eq_true',Int.zero_sub,toBytes_len,bt_eq,shr_6,shr_12,shr_18,wrap64_mod,toNat0,toNat1,toNat2,most,List.length_cons,List.length_nil,ofBytes_eq] at h ⊢
   grind
 · cases g
theorem stringslite_CutPrefix.ok : AllOk specs_stringslite_CutPrefix := okS (cx := cx_stringslite_CutPrefix) rfl stringslite_HasPrefix.ok (by kernel_rfl) fun args cs n K r g => by
 unfold stringslite_CutPrefix.spec at g
 dsimp only [lcSt] at g
 split at g
 · rename_i s t
   obtain ⟨v,h,h2⟩ := bind2 g
   clear g
   refine okG h2 ?_
   clear h2
   refine ⟨0,?_⟩
   rw [stringslite_CutPrefix.top]
   unfold Q.stringslite_CutPrefix.f at h
   simp only [ite_or,ite_and,false_or_b,true_and_b,seq_list,seq_false,wrap_64,wrap_8,wrap_u64_mod,ba_list,decide_eq_true_eq,beq_iff_eq,Bool.not_eq_true',Int.zero_sub,toBytes_len,bt_eq,shr_6,shr_12,shr_18,wrap64_mod,toNat0,toNat1,toNat2,most,List.length_cons,List.length_nil,ofBytes_eq] at h ⊢
   grind [→ bindE]
 · cases g
theorem strings_CutPrefix.ok : AllOk specs_strings_CutPrefix := okS (cx := cx_strings_CutPrefix) rfl stringslite_CutPrefix.ok (by kernel_rfl) fun args cs n K r g => by
 unfold strings_CutPrefix.spec at g
 dsimp only [lcSt] at g
 split at g
 · rename_i s t
   obtain ⟨v,h,h2⟩ := bind2 g
   clear g
   refine okG h2 ?_
   clear h2
   refine ⟨0,?_⟩
   rw [strings_CutPrefix.top]
   unfold Q.strings_CutPrefix.f at h
   grind [→ bindE]
 · cases g
theorem bytes_Cut.ok : AllOk specs_bytes_Cut := okS (cx := cx_bytes_Cut) rfl strings_CutPrefix.ok (by kernel_rfl) fun args cs n K r g => by
 unfold bytes_Cut.spec at g
 dsimp only [lcSt] at g
 split at g
 · rename_i b c
   obtain ⟨v,h,h2⟩ := bind2 g
   clear g
   refine okG h2 ?_
   clear h2
   refine ⟨0,?_⟩
   rw [bytes_Cut.top]
   unfold cutX at h
   by_cases hs : seekB b c
   · rw [if_pos hs] at h
     unfold seekB at hs
     rw [if_pos hs]
     by_cases h0 : 0 ≤ bIndexW b c
     · rw [if_pos h0] at h
       obtain rfl := Option.some.inj h
       have hr := bIndex_room h0
       have hw : IntKind.i64.wrap (bIndexW b c + (c.length : Int)) = (((bIndexW b c).toNat + c.length : Nat) : Int) := by rw [wrap_64]; unfold wrap64; omega
       rw [if_pos (decide_eq_true h0),if_pos h0,if_pos (by omega),hw,if_pos (by omega),if_pos (by omega),Int.toNat_natCast]
     · rw [if_neg h0] at h
       obtain rfl := Option.some.inj h
       rw [if_neg (fun e => h0 (of_decide_eq_true e))]
   · rw [if_neg hs] at h
     cases h
 · cases g
theorem bytes_Contains.ok : AllOk specs_bytes_Contains := okS (cx := cx_bytes_Contains) rfl bytes_Cut.ok (by kernel_rfl) fun args cs n K r g => by
 unfold bytes_Contains.spec at g
 dsimp only [lcSt] at g
 split at g
 · rename_i b c
   obtain ⟨v,h,h2⟩ := bind2 g
   clear g
   refine okG h2 ?_
   clear h2
   refine ⟨0,?_⟩
   rw [bytes_Contains.top]
   unfold containsX at h
   by_cases hs : seekB b c
   · rw [if_pos hs] at h
     unfold seekB at hs
     rw [if_pos hs]
     obtain rfl := Option.some.inj h
     rfl
   · rw [if_neg hs] at h
     cases h
 · cases g
theorem bytes_ReplaceAll.ok : AllOk specs_bytes_ReplaceAll := okS (cx := cx_bytes_ReplaceAll) rfl bytes_Contains.ok (by kernel_rfl) fun args cs n K r g => by
 unfold bytes_ReplaceAll.spec at g
 dsimp only [lcSt] at g
 split at g
 · rename_i b c d
   obtain ⟨v,h,h2⟩ := bind2 g
   clear g
   refine okG h2 ?_
   clear h2
   refine ⟨0,?_⟩
   rw [bytes_ReplaceAll.top]
   unfold replX at h
   split at h
   · rename_i hs
     rw [if_pos ⟨⟨rfl,hs.1⟩,hs.2⟩]
     obtain rfl := Option.some.inj h
     rfl
   · cases h
 · cases g
end Go.Proofs.YtccfmfifnbnlmaaGreatDoor.Ev
end
section
/- Names with a prefix, comments, instructions, numerals: plain functions. -/
set_option linter.unusedSimpArgs false
set_option linter.unusedVariables false
namespace Go.Proofs.YtccfmfifnbnlmaaGreatDoor.Xm
open Go.RowKit Go.Proofs.YtccfmfifnbnlmaaGreatDoor.Q Go.Proofs.YtccfmfifnbnlmaaGreatDoorW.PrintWords Go.Proofs.YtccfmfifnbnlmaaGreatDoorW.PrintLast Go.Proofs.YtccfmfifnbnlmaaGreatDoorH Go.Proofs.YtccfmfifnbnlmaaGreatDoor.Chars
/-- How many bytes the name has that others begin with, with a prefix or not. -/
def fullL (l : List Int) : Nat := if 0 < nameL l ∧ l.getD (nameL l) 0 = 58 ∧ 0 < nameL (l.drop (nameL l + 1)) then nameL l + 1 + nameL (l.drop (nameL l + 1)) else nameL l
theorem nameL_le {l : List Int} (hl : Bytes l) : nameL l ≤ l.length := nameGo_le _ _ _ hl
/-- The value of a digit; -1: it is none. -/
def digC (x : Int) : Int := if 48 ≤ x ∧ x ≤ 57 then x - 48 else if 97 ≤ x ∧ x ≤ 102 then x - 87 else if 65 ≤ x ∧ x ≤ 70 then x - 55 else -1
def numGo (q : Int) : Int → List Int → Option Int
  | n, [] => some n
  | n, x :: t => if digC x < 0 ∨ digC x ≥ q then none else if n * q + digC x > 1114111 then none else numGo q (n * q + digC x) t
/-- The character that digits name. -/
def numW (q : Int) (l : List Int) : Int × Bool := match numGo q 0 l with
  | none => (0, false)
  | some n => (n, !l.isEmpty && xmlC n)
def namedW (l : List Int) : Int × Bool :=
  if l = [108, 116] then (60, true) else if l = [103, 116] then (62, true) else if l = [97, 109, 112] then (38, true) else if l = [97, 112, 111, 115] then (39, true) else if l = [113, 117, 111, 116] then (34, true)
  else if l.take 1 = [35] then (if (l.drop 1).take 1 = [120] then numW 16 (l.drop 2) else numW 10 (l.drop 1)) else (0, false)
end Go.Proofs.YtccfmfifnbnlmaaGreatDoor.Xm
end
section
/- bytes.ReplaceAll one byte at a time: what a text with its line ends as one sign is. -/
set_option linter.unusedVariables false
namespace Go.Proofs.YtccfmfifnbnlmaaGreatDoor.Ev
open Go
theorem bIndex_cons (x : Int) (t m : List Int) : bIndexW (x :: t) m = if (Lib.bytesOf m).isPrefixOf (Lib.bytesOf (x :: t)) then 0 else if bIndexW t m = -1 then -1 else bIndexW t m + 1 := by
 have hx : Lib.bytesOf (x :: t) = UInt8.ofNat x.toNat :: Lib.bytesOf t := rfl
 rw [show bIndexW (x :: t) m = Lib.index (Lib.bytesOf (x :: t)) (Lib.bytesOf m) from rfl,hx,Lib.index]
 split
 · rfl
 · rename_i h
   unfold bIndexW
   by_cases h2 : Lib.index (Lib.bytesOf t) (Lib.bytesOf m) = -1
   · rw [if_pos (by rw [h2]; rfl),if_pos h2]
   · rw [if_neg (by rw [beq_iff_eq]; exact h2),if_neg h2]
theorem cnt_zero {l m : List Int} : cntI l m = 0 ↔ bIndexW l m = -1 := by
 unfold cntI Lib.count bIndexW
 rw [Lib.countFrom]
 by_cases h : Lib.index (Lib.bytesOf l) (Lib.bytesOf m) = -1
 · rw [if_pos (by rw [h]; rfl)]; exact ⟨fun _ => h,fun _ => rfl⟩
 · rw [if_neg (by rw [beq_iff_eq]; exact h)]; exact ⟨fun q => by omega,fun q => absurd q h⟩
theorem bIndex_ge (l m : List Int) : -1 ≤ bIndexW l m := Lib.index_ge _ _
theorem replW_nil {m r : List Int} (hm : 0 < m.length) : replW [] m r = [] := by unfold replW; rw [cnt_nil hm]; rfl
theorem replW_yes {l m r : List Int} (hm : 0 < m.length) (h : bIndexW l m = 0) : replW l m r = r ++ replW (l.drop m.length) m r := by
 cases hk : cntI l m with
 | zero => rw [cnt_zero.1 hk] at h; cases h
 | succ k =>
  obtain ⟨i,h1,h2,h3⟩ := cnt_step hm hk
  have : i = 0 := by omega
  subst this
  unfold replW
  rw [hk,replI,h,← h3]
  simp
theorem replW_no {x : Int} {t m r : List Int} (hm : 0 < m.length) (h : bIndexW (x :: t) m ≠ 0) : replW (x :: t) m r = x :: replW t m r := by
 have hc := bIndex_cons x t m
 by_cases hp : (Lib.bytesOf m).isPrefixOf (Lib.bytesOf (x :: t)) = true
 · rw [if_pos hp] at hc; exact absurd hc h
 · rw [if_neg hp] at hc
   by_cases h1 : bIndexW t m = -1
   · rw [if_pos h1] at hc
     unfold replW
     rw [cnt_zero.2 hc,cnt_zero.2 h1]; rfl
   · rw [if_neg h1] at hc
     have hg := bIndex_ge t m
     cases hk : cntI t m with
     | zero => exact absurd (cnt_zero.1 hk) h1
     | succ k =>
      cases hk2 : cntI (x :: t) m with
      | zero => have := cnt_zero.1 hk2; omega
      | succ k2 =>
       obtain ⟨i,a1,a2,a3⟩ := cnt_step hm hk
       obtain ⟨j,b1,b2,b3⟩ := cnt_step hm hk2
       have hj : j = i + 1 := by omega
       subst hj
       have hd : (x :: t).drop (i + 1 + m.length) = t.drop (i + m.length) := by rw [show i + 1 + m.length = (i + m.length) + 1 from by omega,List.drop_succ_cons]
       rw [hd,a3] at b3
       subst b3
       unfold replW
       rw [hk,hk2,replI,replI,b1,a1,Int.toNat_natCast,Int.toNat_natCast,hd,List.take_succ_cons]
       rfl
theorem u8_inj {x y : Int} (hx : 0 ≤ x ∧ x < 256) (hy : 0 ≤ y ∧ y < 256) (h : UInt8.ofNat x.toNat = UInt8.ofNat y.toNat) : x = y := by
 have := congrArg UInt8.toNat h
 simp only [UInt8.toNat_ofNat'] at this
 omega
/-- One byte for another. -/
theorem replW_one {a b : Int} (ha : 0 ≤ a ∧ a < 256) : ∀ {l : List Int},byteB l = true → replW l [a] [b] = l.map fun x => if x = a then b else x
 | [],_ => replW_nil (by simp)
 | x :: t,h => by
  have hb := byteB_all h
  have ht : byteB t = true := by
   unfold byteB at h ⊢
   rw [List.all_cons,Bool.and_eq_true] at h; exact h.2
  have hc := bIndex_cons x t [a]
  by_cases e : x = a
  · have h0 : bIndexW (x :: t) [a] = 0 := by
     rw [hc,if_pos]
     subst e
     simp [Lib.bytesOf,List.isPrefixOf]
    rw [replW_yes (by simp) h0,List.map_cons,if_pos e]
    exact congrArg (b :: ·) (replW_one ha ht)
  · have h0 : bIndexW (x :: t) [a] ≠ 0 := by
     rw [hc,if_neg]
     · have := bIndex_ge t [a]
       split <;> omega
     · intro q
       simp only [Lib.bytesOf,List.map_cons,List.map_nil,List.isPrefixOf,Bool.and_true,beq_iff_eq] at q
       exact e (u8_inj (hb x (List.mem_cons_self ..)) ha q.symm)
    rw [replW_no (by simp) h0,List.map_cons,if_neg e,replW_one ha ht]
/-- Two signs at the end of a line as one. -/
def crlf : List Int → List Int
 | [] => []
 | [x] => [x]
 | x :: y :: t => if x = 13 ∧ y = 10 then 10 :: crlf t else x :: crlf (y :: t)
theorem replW_crlf : ∀ {l : List Int},byteB l = true → replW l [13,10] [10] = crlf l
 | [],_ => replW_nil (by simp)
 | [x],h => by
  rw [replW_no (by simp) (by
   rw [bIndex_cons,if_neg (by simp [Lib.bytesOf,List.isPrefixOf])]
   have := bIndex_ge [] [13,10]
   split <;> omega),replW_nil (by simp)]
  rfl
 | x :: y :: t,h => by
  have hb := byteB_all h
  have ht : byteB (y :: t) = true := by
   unfold byteB at h ⊢
   rw [List.all_cons,Bool.and_eq_true] at h; exact h.2
  have ht2 : byteB t = true := by
   unfold byteB at ht ⊢
   rw [List.all_cons,Bool.and_eq_true] at ht; exact ht.2
  have hc := bIndex_cons x (y :: t) [13,10]
  rw [crlf]
  by_cases e : x = 13 ∧ y = 10
  · obtain ⟨rfl,rfl⟩ := e
    rw [if_pos ⟨rfl,rfl⟩,replW_yes (by simp) (by rw [hc,if_pos (by simp [Lib.bytesOf,List.isPrefixOf])])]
    exact congrArg (10 :: ·) (replW_crlf ht2)
  · rw [if_neg e,replW_no (by simp) (by
     rw [hc,if_neg]
     · have := bIndex_ge (y :: t) [13,10]
       split <;> omega
     · intro q
       simp only [Lib.bytesOf,List.map_cons,List.map_nil,List.isPrefixOf,Bool.and_true,Bool.and_eq_true,beq_iff_eq] at q
       exact e ⟨u8_inj (hb x (List.mem_cons_self ..)) (by omega) q.1.symm,u8_inj (hb y (by simp)) (by omega) q.2.symm⟩),replW_crlf ht]
end Go.Proofs.YtccfmfifnbnlmaaGreatDoor.Ev
end
section
/- The digits of a numeral. -/
set_option linter.unusedVariables false
namespace Go.Proofs.YtccfmfifnbnlmaaGreatDoor.Ev
open Go
def hexS : List UInt8 := [48,49,50,51,52,53,54,55,56,57,97,98,99,100,101,102]
set_option maxRecDepth 100000 in
theorem dig_fin : ∀ n : Fin 256,Lib.indexByte hexS (bits .or .u8 (n.val : Int) ((bits .and .u8 (n.val : Int) 64).fdiv ((2 : Int) ^ min (Int.toNat (1 : Int)) IntKind.u8.bits))).toNat.toUInt8 = Xm.digC (n.val : Int) := by decide
theorem dig_ok {x : Int} (h0 : 0 ≤ x) (h1 : x < 256) : Lib.indexByte hexS (bits .or .u8 x ((bits .and .u8 x 64).fdiv ((2 : Int) ^ min (Int.toNat (1 : Int)) IntKind.u8.bits))).toNat.toUInt8 = Xm.digC x := by
 have := dig_fin ⟨x.toNat,by omega⟩
 simpa only [Int.toNat_of_nonneg h0] using this
/-- A text with its line ends as one sign, in values blanks as one. -/
theorem byteB_crlf : ∀ {l : List Int},byteB l = true → byteB (crlf l) = true ∧ (crlf l).length ≤ l.length
 | [],_ => ⟨rfl,Nat.le_refl _⟩
 | [x],h => ⟨h,Nat.le_refl _⟩
 | x :: y :: t,h => by
  have h' : (decide (0 ≤ x) && decide (x < 256)) = true ∧ byteB (y :: t) = true := by
   unfold byteB at h ⊢
   rw [List.all_cons,Bool.and_eq_true] at h; exact h
  have h3 : byteB (y :: t) = true := h'.2
  have h2 : byteB t = true := by
   unfold byteB at h3 ⊢
   rw [List.all_cons,Bool.and_eq_true] at h3; exact h3.2
  rw [crlf]
  split
  · have := byteB_crlf h2
    refine ⟨?_,by simp only [List.length_cons]; omega⟩
    unfold byteB; rw [List.all_cons,Bool.and_eq_true]; exact ⟨by decide,this.1⟩
  · have := byteB_crlf h3
    refine ⟨?_,by have := this.2; simp only [List.length_cons] at this ⊢; omega⟩
    unfold byteB; rw [List.all_cons,Bool.and_eq_true]; exact ⟨h'.1,this.1⟩
theorem byteB_map {l : List Int} {a b : Int} (hb : 0 ≤ b ∧ b < 256) (h : byteB l = true) : byteB (l.map fun x => if x = a then b else x) = true := by
 have h' := byteB_all h
 unfold byteB
 rw [List.all_eq_true]
 intro x hx
 obtain ⟨y,hy,rfl⟩ := List.mem_map.1 hx
 split
 · simp [hb]
 · simp [h' y hy]
end Go.Proofs.YtccfmfifnbnlmaaGreatDoor.Ev
end
section
/- What is known of each function: its word; and the contexts in which it is reckoned. -/
-- prev bytes_ReplaceAll
-- irreducible fullX trimX linesX numX namedX commX instX cutX containsX replX
set_option linter.unusedVariables false
namespace Go.Proofs.YtccfmfifnbnlmaaGreatDoor.Ev
open Go
def okB (b : List Int) : Prop := byteB b = true ∧ b.length ≤ 8000000
instance (b : List Int) : Decidable (okB b) := by unfold okB; infer_instance
def fullX (b : List Int) : Option (List Int) := if okB b then some (b.take (Xm.fullL b)) else none
def trimX (b : List Int) : Option (List Int) := if okB b then some (bTrimW b ⟨#[32,9,10,13]⟩) else none
def r2n (x : Int) : Int := if x = 13 then 10 else x
def n2s (x : Int) : Int := if x = 10 then 32 else x
def t2s (x : Int) : Int := if x = 9 then 32 else x
/-- Literal bytes with each end of a line as one sign; in values blanks are 32. -/
def linesW (b : List Int) (v : Bool) : List Int := if v then (((crlf b).map r2n).map n2s).map t2s else (crlf b).map r2n
def linesX (b : List Int) (v : Bool) : Option (List Int) := if okB b then some (linesW b v) else none
def numX (s : ByteArray) (q : Int) : Option (Int × Bool) := if s.size ≤ 8000000 ∧ (q = 10 ∨ q = 16) then some (Xm.numW q (toBytes s)) else none
def namedX (s : ByteArray) : Option (Int × Bool) := if s.size ≤ 8000000 then some (Xm.namedW (toBytes s)) else none
def commW (b : List Int) : Int := if bIndexW (b.drop 4) [45,45] < 0 ∨ (b.drop (4 + (bIndexW (b.drop 4) [45,45]).toNat)).take 3 ≠ [45,45,62] then 0 else bIndexW (b.drop 4) [45,45] + 7
def commX (b : List Int) : Option Int := if okB b ∧ 4 ≤ b.length then some (commW b) else none
def blankC (x : Int) : Bool := x == 32 || x == 9 || x == 10 || x == 13
def instW (b : List Int) : Int :=
 let t := Xm.nameL (b.drop 2)
 let r := b.drop (2 + t)
 let n := bIndexW r [63,62]
 if t = 0 ∨ n < 0 ∨ (n > 0 ∧ blankC (r.getD 0 0) = false) then 0 else 2 + t + n + 2
def instX (b : List Int) : Option Int := if okB b ∧ 2 ≤ b.length then some (instW b) else none
noncomputable def cx_xmllex_fullName := cxOf specs_bytes_ReplaceAll
noncomputable def xmllex_fullName.spec : Spec := fun args st K => match args,st.box,st.nt with
 | [.sl (.int .u8) b .no],[],0 => (fullX b).bind fun v => K (.ret (.sl (.int .u8) (v) .no)) (lcRet [] [] 0)
 | _,_,_ => none
noncomputable def specs_xmllex_fullName : SpecL := (84,false,xmllex_fullName.spec) :: specs_bytes_ReplaceAll
noncomputable def cx_xmllex_trimmed := cxOf specs_xmllex_fullName
noncomputable def xmllex_trimmed.spec : Spec := fun args st K => match args,st.box,st.nt with
 | [.sl (.int .u8) b .no],[],0 => (trimX b).bind fun v => K (.ret (.sl (.int .u8) (v) .no)) (lcRet [] [] 0)
 | _,_,_ => none
noncomputable def specs_xmllex_trimmed : SpecL := (85,false,xmllex_trimmed.spec) :: specs_xmllex_fullName
end Go.Proofs.YtccfmfifnbnlmaaGreatDoor.Ev
end
section
/- What each function comes to, one step of it at a time: the kernel's own reckoning. -/
set_option linter.unusedVariables false
set_option maxRecDepth 100000
namespace Go.Proofs.YtccfmfifnbnlmaaGreatDoor.Ev
open Go Go.RowKit
open Go.IntKind (i64 u8 i32 u64)
theorem xmllex_fullName.top (n : Nat) (b : List Int) : callX false (fnF cx_xmllex_fullName noCalls n 84) ([.sl (.int .u8) b .no]) (lcSt [] 0) out = ((lim fun k => Q.xmllex_nameOf.f k b).bind fun v0 => if (if ((↑v0.length : Int) == 0) = true then true else (↑v0.length : Int) == (↑b.length : Int)) = true then some (.ret (.sl (.int .u8) v0 .no),lcRet [] [] 0) else if 0 ≤ (↑v0.length : Int) then ((nth b (↑v0.length : Int).toNat).bind fun v1 => if (if false = true then true else v1 != 58) = true then some (.ret (.sl (.int .u8) v0 .no),lcRet [] [] 0) else if 0 ≤ i64.wrap ((↑v0.length : Int) + 1) then if i64.wrap ((↑v0.length : Int) + 1) ≤ (↑b.length : Int) then ((lim fun k => Q.xmllex_nameOf.f k (List.drop (i64.wrap ((↑v0.length : Int) + 1)).toNat b)).bind fun v2 => if ((↑v2.length : Int) == 0) = true then some (.ret (.sl (.int .u8) v0 .no),lcRet [] [] 0) else if 0 ≤ i64.wrap (i64.wrap ((↑v0.length : Int) + 1) + (↑v2.length : Int)) then if i64.wrap (i64.wrap ((↑v0.length : Int) + 1) + (↑v2.length : Int)) ≤ (↑b.length : Int) then some (.ret (.sl (.int .u8) (List.take (i64.wrap (i64.wrap ((↑v0.length : Int) + 1) + (↑v2.length : Int))).toNat b) .no),lcRet [] [] 0) else none else none) else none else none) else none) := by kernel_rfl
theorem xmllex_trimmed.top (n : Nat) (b : List Int) : callX false (fnF cx_xmllex_trimmed noCalls n 85) ([.sl (.int .u8) b .no]) (lcSt [] 0) out = if byteB b = true ∧ 2 ≤ (ByteArray.mk #[32,9,10,13]).size ∧ (ByteArray.mk #[32,9,10,13]).size < 4294967281 ∧ ([32,9,10,13].all fun b : UInt8 => decide (b.toNat < 128)) = true then some (.ret (.sl (.int .u8) (bTrimW b (ByteArray.mk #[32,9,10,13])) .no),lcRet [] [] 0) else none := by kernel_rfl
end Go.Proofs.YtccfmfifnbnlmaaGreatDoor.Ev
end
section
/- The evaluator's trees are the functions: full names, blanks. -/
set_option linter.unusedVariables false
set_option linter.unusedSimpArgs false
namespace Go.Proofs.YtccfmfifnbnlmaaGreatDoor.Ev
open Go Go.RowKit Go.Proofs.YtccfmfifnbnlmaaGreatDoorW.PrintWords
theorem byteB_bytes {l : List Int} (h : byteB l = true) : Chars.Bytes l := byteB_all h
theorem nameOf_lim {b : List Int} (hb : Chars.Bytes b) (hl : b.length ≤ 8000000) : lim (fun k => Q.xmllex_nameOf.f k b) = some (b.take (Xm.nameL b)) :=
 lim_of (fun k => Q.xmllex_nameOf.mono b k) (k := 0 + b.length + 30) (by omega) (Xm.nameOf_spec b hb (by omega) 0)
theorem xmllex_fullName.ok : AllOk specs_xmllex_fullName := okS (cx := cx_xmllex_fullName) rfl bytes_ReplaceAll.ok (by kernel_rfl) fun args cs n K r g => by
 unfold xmllex_fullName.spec at g
 dsimp only [lcSt] at g
 split at g
 · rename_i b
   obtain ⟨v,h,h2⟩ := bind2 g
   clear g
   refine okG h2 ?_
   clear h2
   refine ⟨0,?_⟩
   rw [xmllex_fullName.top]
   unfold fullX at h
   by_cases hs : okB b
   · rw [if_pos hs] at h
     obtain rfl := Option.some.inj h
     obtain ⟨h1,h2⟩ := hs
     have hb := byteB_bytes h1
     have hle := Xm.nameL_le hb
     have e1 : ((b.take (Xm.nameL b)).length : Int) = (Xm.nameL b : Int) := by rw [List.length_take]; omega
     rw [nameOf_lim hb h2,Option.bind_some,e1]
     have hf : Xm.fullL b = if 0 < Xm.nameL b ∧ b.getD (Xm.nameL b) 0 = 58 ∧ 0 < Xm.nameL (b.drop (Xm.nameL b + 1)) then Xm.nameL b + 1 + Xm.nameL (b.drop (Xm.nameL b + 1)) else Xm.nameL b := rfl
     by_cases c0 : Xm.nameL b = 0 ∨ Xm.nameL b = b.length
     · have : Xm.fullL b = Xm.nameL b := by
        rw [hf,if_neg]
        rintro ⟨q1,q2,_⟩
        rcases c0 with c0 | c0
        · omega
        · rw [c0,List.getD_eq_getElem?_getD,List.getElem?_eq_none (by omega)] at q2
          exact absurd q2 (by decide)
       rw [if_pos (by rw [ite_or,beq_iff_eq,beq_iff_eq]; omega),this]
     · have hlt : Xm.nameL b < b.length := by omega
       have hn : nth b (Xm.nameL b) = some (b.getD (Xm.nameL b) 0) := by rw [nth_get,List.getD_eq_getElem?_getD,List.getElem?_eq_getElem hlt]; rfl
       have w1 : IntKind.i64.wrap ((Xm.nameL b : Int) + 1) = ((Xm.nameL b + 1 : Nat) : Int) := by rw [wrap_64]; unfold wrap64; omega
       rw [if_neg (by rw [ite_or,beq_iff_eq,beq_iff_eq]; omega),if_pos (by omega),Int.toNat_natCast,hn,Option.bind_some]
       by_cases c1 : b.getD (Xm.nameL b) 0 = 58
       · rw [if_neg (by rw [false_or_b,bne_iff_ne]; exact fun q => q c1),w1,if_pos (by omega),if_pos (by omega),Int.toNat_natCast,nameOf_lim (hb.drop _) (by rw [List.length_drop]; omega),Option.bind_some]
         have hle2 := Xm.nameL_le (hb.drop (Xm.nameL b + 1))
         have e2 : (((b.drop (Xm.nameL b + 1)).take (Xm.nameL (b.drop (Xm.nameL b + 1)))).length : Int) = (Xm.nameL (b.drop (Xm.nameL b + 1)) : Int) := by rw [List.length_take]; omega
         rw [e2]
         rw [List.length_drop] at hle2
         have w2 : IntKind.i64.wrap (((Xm.nameL b + 1 : Nat) : Int) + (Xm.nameL (b.drop (Xm.nameL b + 1)) : Int)) = ((Xm.nameL b + 1 + Xm.nameL (b.drop (Xm.nameL b + 1)) : Nat) : Int) := by rw [wrap_64]; unfold wrap64; omega
         by_cases c2 : Xm.nameL (b.drop (Xm.nameL b + 1)) = 0
         · rw [if_pos (by rw [beq_iff_eq]; omega),hf,if_neg (by omega)]
         · rw [if_neg (by rw [beq_iff_eq]; omega),w2,if_pos (by omega),if_pos (by omega),Int.toNat_natCast,hf,if_pos ⟨by omega,c1,by omega⟩]
       · rw [if_pos (by rw [false_or_b,bne_iff_ne]; exact c1),hf,if_neg (fun q => c1 q.2.1)]
   · rw [if_neg hs] at h
     cases h
 · cases g
theorem xmllex_trimmed.ok : AllOk specs_xmllex_trimmed := okS (cx := cx_xmllex_trimmed) rfl xmllex_fullName.ok (by kernel_rfl) fun args cs n K r g => by
 unfold xmllex_trimmed.spec at g
 dsimp only [lcSt] at g
 split at g
 · rename_i b
   obtain ⟨v,h,h2⟩ := bind2 g
   clear g
   refine okG h2 ?_
   clear h2
   refine ⟨0,?_⟩
   rw [xmllex_trimmed.top]
   unfold trimX at h
   by_cases hs : okB b
   · rw [if_pos hs] at h
     obtain rfl := Option.some.inj h
     rw [if_pos ⟨hs.1,by decide,by decide,by decide⟩]
   · rw [if_neg hs] at h
     cases h
 · cases g
end Go.Proofs.YtccfmfifnbnlmaaGreatDoor.Ev
end
