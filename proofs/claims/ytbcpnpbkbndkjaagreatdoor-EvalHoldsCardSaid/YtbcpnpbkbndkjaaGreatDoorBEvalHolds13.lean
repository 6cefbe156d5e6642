/- Several texts in one, in their order. -/
import Derived.Test.YtbcpnpbkbndkjaaGreatDoorBEvalHolds9
import Derived.Test.YtbcpnpbkbndkjaaGreatDoorBEvalHolds10
import Derived.Test.YtbcpnpbkbndkjaaGreatDoorBEvalHolds12
import Derived.KernelRfl
section
/- The evaluator's trees are the words: what a condition comes to in a case. -/
set_option linter.unusedVariables false
set_option linter.unusedSimpArgs false
namespace Go.Proofs.YtbcpnpbkbndkjaaGreatDoor.Ev
open Go Go.RowKit Go.Proofs.YtbcpnpbkbndkjaaGreatDoorW.PrintWords
theorem ext.ok : AllOk specs_ext := allOk_cons (allOk_cons (allOk_cons ref_Can.ok (fnOk_of (by kernel_rfl)) mul64S_ok) (fnOk_of (by kernel_rfl)) compareS_ok) (fnOk_of (by kernel_rfl)) bareS_ok
theorem seq_toL (s t : ByteArray) : (s.toList == t.toList) = seq s t := by rw [Lib.toList_data,Lib.toList_data]; rfl
theorem sless_toL (s t : ByteArray) : sless s t = Op.bytesLess s.toList t.toList := by rw [Lib.toList_data,Lib.toList_data]; rfl
theorem slessB (s t : ByteArray) : (!(sless s t || seq s t)) = Op.bytesLess t.toList s.toList := by
 rw [← Go.Proofs.YtbcpnpbkbndkjaaGreatDoorH.bytesLess_turn s.toList t.toList,seq_toL,sless_toL]
theorem cmp_isNaN.ok : AllOk specs_cmp_isNaN := okS (cx := cx_cmp_isNaN) rfl ext.ok (by kernel_rfl) fun args cs n K r g => by
 unfold cmp_isNaN.spec at g
 dsimp only [lcSt] at g
 split at g
 · rename_i z
   obtain ⟨v,h,h2⟩ := bind2 g
   clear g
   refine okG h2 ?_
   clear h2
   obtain rfl := Option.some.inj h
   refine ⟨0,?_⟩
   rw [cmp_isNaN.top,show (z != z) = false by simp]
 · cases g
theorem cmp_Compare.ok : AllOk specs_cmp_Compare := okS (cx := cx_cmp_Compare) rfl cmp_isNaN.ok (by kernel_rfl) fun args cs n K r g => by
 unfold cmp_Compare.spec at g
 dsimp only [lcSt] at g
 split at g
 · rename_i a b
   obtain ⟨v,h,h2⟩ := bind2 g
   clear g
   refine okG h2 ?_
   clear h2
   obtain rfl := Option.some.inj h
   refine ⟨0,?_⟩
   rw [cmp_Compare.top]
   unfold cmpV
   simp only [decide_eq_true_eq]
   repeat' split
   all_goals first | rfl | (exfalso; omega)
 · cases g
theorem cmp_Or.l_ev (n : Nat) (l0 l : List Int) (hl : l.length ≤ 1000) : ∀ (d m i : Nat),i + d = l.length → d + 1 ≤ m → cmp_Or.L0 n m l0 0 l (l.length : Int) (i : Int) = some (.ret (.int .i64 (orV (l.drop i))),lcRet [] [] 0) := by
 intro d
 induction d with
 | zero =>
  intro m i h1 h2
  obtain ⟨m,rfl⟩ : ∃ m',m = m' + 1 := ⟨m - 1,by omega⟩
  rw [cmp_Or.L0_s,if_neg (fun e => absurd (of_decide_eq_true e) (by omega)),List.drop_of_length_le (by omega)]
  rfl
 | succ d ih =>
  intro m i h1 h2
  obtain ⟨m,rfl⟩ : ∃ m',m = m' + 1 := ⟨m - 1,by omega⟩
  have hlt : i < l.length := by omega
  rw [cmp_Or.L0_s,if_pos (decide_eq_true (by omega)),if_pos (by omega),show ((i : Int)).toNat = i from by omega,nth_at hlt,List.drop_eq_getElem_cons hlt,orV]
  simp only [Option.bind_some]
  by_cases h0 : l[i] = 0
  · rw [if_neg (by simp [h0]),if_pos h0,wrN i (by omega)]
    exact ih m (i + 1) (by omega) (by omega)
  · rw [if_pos (by simp [h0]),if_neg h0]
theorem cmp_Or.ok : AllOk specs_cmp_Or := okS (cx := cx_cmp_Or) rfl cmp_Compare.ok (by kernel_rfl) fun args cs n K r g => by
 unfold cmp_Or.spec at g
 dsimp only [lcSt] at g
 split at g
 · rename_i l
   obtain ⟨v,h,h2⟩ := bind2 g
   clear g
   refine okG h2 ?_
   clear h2
   split at h
   · rename_i hl
     obtain rfl := Option.some.inj h
     refine ⟨l.length + 1,?_⟩
     rw [cmp_Or.top]
     exact cmp_Or.l_ev _ l l hl l.length _ 0 (by omega) (Nat.le_refl _)
   · cases h
 · cases g
theorem value_product1.ok : AllOk specs_value_product1 := okS (cx := cx_value_product1) rfl cmp_Or.ok (by kernel_rfl) fun args cs n K r g => by
 unfold value_product1.spec at g
 dsimp only [lcSt] at g
 split at g
 · rename_i z
   obtain ⟨v,h,h2⟩ := bind2 g
   clear g
   refine okG h2 ?_
   clear h2
   obtain rfl := Option.some.inj h
   refine ⟨0,?_⟩
   rw [value_product1.top,Int.zero_sub]
   by_cases hz : z < 0
   · rw [if_pos (decide_eq_true hz),if_pos hz]
   · rw [if_neg (fun e => hz (of_decide_eq_true e)),if_neg hz]
 · cases g
theorem mag_u (a : Int) (h : Does.In64 a) : (if a < 0 then IntKind.u64.wrap (-IntKind.u64.wrap a) else IntKind.u64.wrap a) = Does.mag a := by
 unfold Does.In64 at h
 unfold Does.mag
 simp only [IntKind.wrap_u64]
 split <;> omega
theorem value_product.ok : AllOk specs_value_product := okS (cx := cx_value_product) rfl value_product1.ok (by kernel_rfl) fun args cs n K r g => by
 unfold value_product.spec at g
 dsimp only [lcSt] at g
 split at g
 · rename_i a b
   obtain ⟨v,h,h2⟩ := bind2 g
   clear g
   refine okG h2 ?_
   clear h2
   split at h
   · rename_i hs
     obtain rfl := Option.some.inj h
     obtain ⟨ha,hb⟩ := hs
     refine ⟨0,?_⟩
     rw [value_product.top,mag_u a ha,mag_u b hb,Does.mag_mul]
     have h1 : 0 ≤ Does.mag a ∧ Does.mag a < 18446744073709551616 := by unfold Does.In64 at ha; unfold Does.mag; split <;> omega
     have h2 : 0 ≤ Does.mag b ∧ Does.mag b < 18446744073709551616 := by unfold Does.In64 at hb; unfold Does.mag; split <;> omega
     rw [if_pos ⟨h1.1,h1.2,h2⟩,wrap_64]
     have s1 := Does.sign_mul a b
     have s2 := Does.sign_mul' a b
     generalize a * b = q at *
     by_cases hc : ((decide (a < 0)) != (decide (b < 0))) = true
     · have s1 := s1 hc
       have hc' : (!(decide (a < 0) == decide (b < 0))) = true := hc
       rw [if_pos hc']
       have hm : Does.mag q = -q := by unfold Does.mag; split <;> omega
       rw [hm]
       have e : (if (-q / 18446744073709551616 == 0) = true then decide (-q % 18446744073709551616 ≤ 9223372036854775808) else false) = decide (Does.In64 q) := by
        rw [Bool.eq_iff_iff,ite_and,beq_iff_eq,decide_eq_true_eq,decide_eq_true_eq]
        unfold Does.In64
        omega
       rw [e]
     · have s2 := s2 hc
       have hc' : ¬ (!(decide (a < 0) == decide (b < 0))) = true := hc
       rw [if_neg hc']
       have hm : Does.mag q = q := by unfold Does.mag; split <;> omega
       rw [hm]
       have e : (if (q / 18446744073709551616 == 0) = true then decide (q % 18446744073709551616 ≤ 9223372036854775807) else false) = decide (Does.In64 q) := by
        rw [Bool.eq_iff_iff,ite_and,beq_iff_eq,decide_eq_true_eq,decide_eq_true_eq]
        unfold Does.In64
        omega
       rw [e]
   · cases h
 · cases g
theorem value_reckon.ok : AllOk specs_value_reckon := okS (cx := cx_value_reckon) rfl value_product.ok (by kernel_rfl) fun args cs n K r g => by
 unfold value_reckon.spec at g
 dsimp only [lcSt] at g
 split at g
 · rename_i z a b
   obtain ⟨v,h,h2⟩ := bind2 g
   clear g
   refine okG h2 ?_
   clear h2
   split at h
   · rename_i hs
     obtain rfl := Option.some.inj h
     refine ⟨0,?_⟩
     rw [value_reckon.top]
     simp only [if_pos hs,Option.bind_some,wrap_64,Int.zero_sub]
     obtain ⟨ha,hb⟩ := hs
     have e1 : decide (Ev.bits .and .i64 (Ev.bits .xor .i64 a (wrap64 (a + b))) (Ev.bits .xor .i64 b (wrap64 (a + b))) ≥ 0) = (decide (wrap64 (a + b) > a) == decide (b > 0)) := Does.add_ok a b ha hb
     have e2 : decide (Ev.bits .and .i64 (Ev.bits .xor .i64 a b) (Ev.bits .xor .i64 a (wrap64 (a - b))) ≥ 0) = (decide (wrap64 (a - b) < a) == decide (b > 0)) := Does.sub_ok a b ha hb
     rw [e1,e2]
     clear e1 e2
     unfold Does.reckonV
     simp only [beq_iff_eq,ite_and]
     by_cases h6 : z = 6
     · rw [if_pos h6,if_pos h6]
     rw [if_neg h6,if_neg h6]
     by_cases h10 : z = 10
     · rw [if_pos h10,if_pos h10]
     rw [if_neg h10,if_neg h10]
     by_cases h11 : z = 11
     · rw [if_pos h11,if_pos h11]
     rw [if_neg h11,if_neg h11]
     by_cases h7 : z = 7
     · rw [if_pos h7,if_pos h7]
     rw [if_neg h7,if_neg h7]
     by_cases h0 : b = 0
     · rw [if_pos h0,if_pos h0]
     rw [if_neg h0,if_neg h0]
     by_cases h8 : z = 8 <;> by_cases h1 : b = -1 <;> simp [h8,h1,h0]
   · cases h
 · cases g
theorem value_judge.ok : AllOk specs_value_judge := okS (cx := cx_value_judge) rfl value_reckon.ok (by kernel_rfl) fun args cs n K r g => by
 unfold value_judge.spec at g
 dsimp only [lcSt] at g
 split at g
 · rename_i z x0 x1 x2 x3 y0 y1 y2 y3
   obtain ⟨v,h,h2⟩ := bind2 g
   clear g
   refine okG h2 ?_
   clear h2
   obtain rfl := Option.some.inj h
   refine ⟨0,?_⟩
   have e : orV [cmpV x1 y1,Lib.compareBytes x3.data.toList y3.data.toList] = Does.ordV x1 x3 y1 y3 := by
    unfold Does.ordV
    simp only [orV,cmpV]
    repeat' split
    all_goals omega
   rw [value_judge.top,if_pos (by simp)]
   simp only [Option.bind_some,e]
   unfold Does.judgeV Does.sameV
   simp only [seq_toL,beq_iff_eq,Bool.and_true]
   repeat' split
   all_goals first | rfl | (simp_all; done)
 · cases g
theorem do_J (op n1 i1 : Int) (y1 : Bool) (t1 : ByteArray) (n2 i2 : Int) (y2 : Bool) (t2 : ByteArray) (J : Bool) (R : Int × Bool) (hJ : doW op n1 i1 y1 t1 n2 i2 y2 t2 = Does.doV J R (Values.kindV op n1 n2) (Values.canV n1 i1 y1 t1 && Values.canV n2 i2 y2 t2)) (v : Val5) (hv : doW op n1 i1 y1 t1 n2 i2 y2 t2 = v) :
 (if (!(Values.kindV op n1 n2).2) = true then some (.ret (.tup [.agg [.int .i64 0,.int .i64 0,.bool false,.str (ByteArray.mk #[])],.bool false]),lcRet [] [] 0) else (if (if false = true then true else !Values.canV n1 i1 y1 t1) = true then some (.ret (.tup [.agg [.int .i64 0,.int .i64 0,.bool false,.str (ByteArray.mk #[])],.bool false]),lcRet [] [] 0) else (if (if false = true then true else !Values.canV n2 i2 y2 t2) = true then some (.ret (.tup [.agg [.int .i64 0,.int .i64 0,.bool false,.str (ByteArray.mk #[])],.bool false]),lcRet [] [] 0) else (if ((Values.kindV op n1 n2).1 == 2) = true then some (.ret (.tup [.agg [.int .i64 2,.int .i64 0,.bool J,.str (ByteArray.mk #[])],.bool true]),lcRet [] [] 0) else (if (!R.2) = true then some (.ret (.tup [.agg [.int .i64 0,.int .i64 0,.bool false,.str (ByteArray.mk #[])],.bool false]),lcRet [] [] 0) else some (.ret (.tup [.agg [.int .i64 1,.int .i64 R.1,.bool false,.str (ByteArray.mk #[])],.bool true]),lcRet [] [] 0)))))) = (some (Res.ret (.tup [.agg [.int .i64 v.1,.int .i64 v.2.1,.bool v.2.2.1,.str v.2.2.2.1],.bool v.2.2.2.2]),lcRet [] [] 0) : Option (Rr U0)) := by
 subst hv
 rw [hJ]
 unfold Does.doV
 generalize Values.kindV op n1 n2 = K
 generalize Values.canV n1 i1 y1 t1 = c1
 generalize Values.canV n2 i2 y2 t2 = c2
 obtain ⟨K1,K2⟩ := K
 obtain ⟨R1,R2⟩ := R
 by_cases hk : K1 = 2 <;> cases K2 <;> cases c1 <;> cases c2 <;> cases R2 <;> simp [hk]
theorem value_Do.ok : AllOk specs_value_Do := okS (cx := cx_value_Do) rfl value_judge.ok (by kernel_rfl) fun args cs n K r g => by
 unfold value_Do.spec at g
 dsimp only [lcSt] at g
 split at g
 · rename_i z x0 x1 x2 x3 y0 y1 y2 y3
   obtain ⟨v,h,h2⟩ := bind2 g
   clear g
   refine okG h2 ?_
   clear h2
   split at h
   · rename_i hs
     obtain rfl := Option.some.inj h
     refine ⟨0,?_⟩
     rw [value_Do.top]
     simp only [if_pos hs,Option.bind_some]
     exact do_J z x0 x1 x2 x3 y0 y1 y2 y3 _ _ rfl _ rfl
   · cases h
 · cases g
theorem ref07_order.ok : AllOk specs_ref07_order := okS (cx := cx_ref07_order) rfl value_Do.ok (by kernel_rfl) fun args cs n K r g => by
 unfold ref07_order.spec at g
 dsimp only [lcSt] at g
 split at g
 · rename_i x0 x1 x2 x3 y0 y1 y2 y3
   obtain ⟨v,h,h2⟩ := bind2 g
   clear g
   refine okG h2 ?_
   clear h2
   obtain rfl := Option.some.inj h
   refine ⟨0,?_⟩
   rw [ref07_order.top,slessB,sless_toL]
   unfold Does.orderV
   simp only [ite_or,decide_eq_true_eq]
   repeat' split
   all_goals first | rfl | (exfalso; omega) | (simp_all; done)
 · cases g
theorem ref07_times.ok : AllOk specs_ref07_times := okS (cx := cx_ref07_times) rfl ref07_order.ok (by kernel_rfl) fun args cs n K r g => by
 unfold ref07_times.spec at g
 dsimp only [lcSt] at g
 split at g
 · rename_i a b
   obtain ⟨v,h,h2⟩ := bind2 g
   clear g
   refine okG h2 ?_
   clear h2
   split at h
   · rename_i hs
     obtain rfl := Option.some.inj h
     obtain ⟨ha,hb⟩ := hs
     refine ⟨0,?_⟩
     rw [ref07_times.top]
     unfold timesV
     simp only [wrap_64,ite_or,ite_and,beq_iff_eq]
     by_cases h1 : a = 0 ∨ b = 0
     · rw [if_pos h1,if_pos h1]
     rw [if_neg h1,if_neg h1]
     by_cases h3 : (a = -1 ∧ b = -9223372036854775808) ∨ (b = -1 ∧ a = -9223372036854775808)
     · rw [if_pos h3,if_pos h3]
     rw [if_neg h3,if_neg h3,if_neg (by omega),Does.tdiv_mul_in a b ha hb (by omega) (fun h => h3 (Or.inr h))]
   · cases h
 · cases g
theorem ref07_truth.ok : AllOk specs_ref07_truth := okS (cx := cx_ref07_truth) rfl ref07_times.ok (by kernel_rfl) fun args cs n K r g => by
 unfold ref07_truth.spec at g
 dsimp only [lcSt] at g
 split at g
 · rename_i z x0 x1 x2 x3 y0 y1 y2 y3
   obtain ⟨v,h,h2⟩ := bind2 g
   clear g
   refine okG h2 ?_
   clear h2
   obtain rfl := Option.some.inj h
   refine ⟨0,?_⟩
   rw [ref07_truth.top]
   unfold Does.truthV Does.sameV
   simp only [seq_toL,beq_iff_eq,Bool.and_true]
   repeat' split
   all_goals first | rfl | (simp_all; done)
 · cases g
theorem ref07_whole.ok : AllOk specs_ref07_whole := okS (cx := cx_ref07_whole) rfl ref07_truth.ok (by kernel_rfl) fun args cs n K r g => by
 unfold ref07_whole.spec at g
 dsimp only [lcSt] at g
 split at g
 · rename_i z a b
   obtain ⟨v,h,h2⟩ := bind2 g
   clear g
   refine okG h2 ?_
   clear h2
   split at h
   · rename_i hs
     obtain rfl := Option.some.inj h
     refine ⟨0,?_⟩
     rw [ref07_whole.top]
     simp only [if_pos hs,Option.bind_some,wrap_64,Int.zero_sub,ite_or,ite_and,beq_iff_eq]
     unfold Does.wholeV timesV
     repeat' split
     all_goals first | rfl | (exfalso; omega) | (simp_all; done)
   · cases h
 · cases g
theorem ref07_Do.ok : AllOk specs_ref07_Do := okS (cx := cx_ref07_Do) rfl ref07_whole.ok (by kernel_rfl) fun args cs n K r g => by
 unfold ref07_Do.spec at g
 dsimp only [lcSt] at g
 split at g
 · rename_i z x0 x1 x2 x3 y0 y1 y2 y3
   obtain ⟨v,h,h2⟩ := bind2 g
   clear g
   refine okG h2 ?_
   clear h2
   split at h
   · rename_i hs
     obtain rfl := Option.some.inj h
     refine ⟨0,?_⟩
     rw [ref07_Do.top]
     simp only [if_pos hs,Option.bind_some]
     exact do_J z x0 x1 x2 x3 y0 y1 y2 y3 _ _ (Does.Do_same z x0 x1 x2 x3 y0 y1 y2 y3 hs.1 hs.2) _ rfl
   · cases h
 · cases g
theorem plain_Case.l2 (n : Nat) (c0 : Int) (c1 : ByteArray) (I : List InsD) (D : List DocD) (c4 : Int) (l : List DocD) (hl : l.length ≤ 9223372036854775807) (y0 : Int) (y1 : ByteArray) (y4 : Int) : ∀ (d m i : Nat),i + d = l.length → d + 1 ≤ m →
 plain_Case.L2 n m c0 c1 I D c4 l (l.length : Int) (i : Int) y0 y1 I D y4 = some (.ret (.bool (((l.drop i).all fun d => decide (d.1.size ≤ 400) && decide (d.2.2.length ≤ 40)) && (decide (I.length ≤ 40) && decide (D.length ≤ 30)))),lcRet [] [] 0) := by
 intro d
 induction d with
 | zero =>
  intro m i h1 h2
  obtain ⟨m,rfl⟩ : ∃ m',m = m' + 1 := ⟨m - 1,by omega⟩
  rw [plain_Case.L2_s,if_neg (fun e => absurd (of_decide_eq_true e) (by omega)),List.drop_of_length_le (by omega)]
  have e : (if decide ((I.length : Int) ≤ 40) = true then decide ((D.length : Int) ≤ 30) else false) = (decide (I.length ≤ 40) && decide (D.length ≤ 30)) := by
   rw [Bool.eq_iff_iff,ite_and,Bool.and_eq_true]
   simp only [decide_eq_true_eq]
   omega
  rw [e]
  rfl
 | succ d ih =>
  intro m i h1 h2
  obtain ⟨m,rfl⟩ : ∃ m',m = m' + 1 := ⟨m - 1,by omega⟩
  have hlt : i < l.length := by omega
  rw [plain_Case.L2_s,if_pos (decide_eq_true (by omega)),if_pos (by omega),show ((i : Int)).toNat = i from by omega,nth_at hlt,List.drop_eq_getElem_cons hlt,List.all_cons]
  simp only [Option.bind_some]
  by_cases hc : l[i].1.size ≤ 400 ∧ l[i].2.2.length ≤ 40
  · rw [if_neg (by rw [ite_or]; simp only [decide_eq_true_eq]; omega),decide_eq_true hc.1,decide_eq_true hc.2,wrN i (by omega)]
    exact ih m (i + 1) (by omega) (by omega)
  · rw [if_pos (by rw [ite_or]; simp only [decide_eq_true_eq]; omega)]
    have e : (decide (l[i].1.size ≤ 400) && decide (l[i].2.2.length ≤ 40)) = false := by
     rw [Bool.and_eq_false_iff]; simp only [decide_eq_false_iff_not]; omega
    rw [e]
    rfl
theorem plain_Case.l1 (n : Nat) (c0 : Int) (c1 : ByteArray) (I : List InsD) (D : List DocD) (c4 : Int) (hD : D.length ≤ 9223372036854775807) (hn : D.length + 1 ≤ n) (l : List InsD) (hl : l.length ≤ 9223372036854775807) (y0 : Int) (y1 : ByteArray) (y4 : Int) : ∀ (d m i : Nat),i + d = l.length → d + 1 ≤ m →
 plain_Case.L1 n m c0 c1 I D c4 l (l.length : Int) (i : Int) y0 y1 I D y4 = some (.ret (.bool (((l.drop i).all fun x => decide (x.1.size ≤ 400) && decide (x.2.2.2.2.1.length ≤ 40)) && ((D.all fun d => decide (d.1.size ≤ 400) && decide (d.2.2.length ≤ 40)) && (decide (I.length ≤ 40) && decide (D.length ≤ 30))))),lcRet [] [] 0) := by
 intro d
 induction d with
 | zero =>
  intro m i h1 h2
  obtain ⟨m,rfl⟩ : ∃ m',m = m' + 1 := ⟨m - 1,by omega⟩
  rw [plain_Case.L1_s,if_neg (fun e => absurd (of_decide_eq_true e) (by omega)),List.drop_of_length_le (by omega)]
  exact plain_Case.l2 n c0 c1 I D c4 D hD y0 y1 y4 D.length n 0 (by omega) (by omega)
 | succ d ih =>
  intro m i h1 h2
  obtain ⟨m,rfl⟩ : ∃ m',m = m' + 1 := ⟨m - 1,by omega⟩
  have hlt : i < l.length := by omega
  rw [plain_Case.L1_s,if_pos (decide_eq_true (by omega)),if_pos (by omega),show ((i : Int)).toNat = i from by omega,nth_at hlt,List.drop_eq_getElem_cons hlt,List.all_cons]
  simp only [Option.bind_some]
  by_cases hc : l[i].1.size ≤ 400 ∧ l[i].2.2.2.2.1.length ≤ 40
  · rw [if_neg (by rw [ite_or]; simp only [decide_eq_true_eq]; omega),decide_eq_true hc.1,decide_eq_true hc.2,wrN i (by omega)]
    exact ih m (i + 1) (by omega) (by omega)
  · rw [if_pos (by rw [ite_or]; simp only [decide_eq_true_eq]; omega)]
    have e : (decide (l[i].1.size ≤ 400) && decide (l[i].2.2.2.2.1.length ≤ 40)) = false := by
     rw [Bool.and_eq_false_iff]; simp only [decide_eq_false_iff_not]; omega
    rw [e]
    rfl
theorem plain_Case.ok : AllOk specs_plain_Case := okS (cx := cx_plain_Case) rfl ref07_Do.ok (by kernel_rfl) fun args cs n K r g => by
 unfold plain_Case.spec at g
 dsimp only [lcSt] at g
 split at g
 · rename_i c0 c1 c2 c3 c4
   obtain ⟨v,h,h2⟩ := bind2 g
   clear g
   refine okG h2 ?_
   clear h2
   split at h
   · rename_i hs
     obtain rfl := Option.some.inj h
     refine ⟨c2.length + c3.length + 1,?_⟩
     rw [plain_Case.top,plain_Case.L1_s,← plain_Case.L1_s]
     exact plain_Case.l1 _ c0 c1 c2 c3 c4 hs.2 (by omega) c2 hs.1 c0 c1 c4 c2.length _ 0 (by omega) (by omega)
   · cases h
 · cases g
theorem eval_Value.l1 (n : Nat) (c0 : Int) (c1 : ByteArray) (I : List InsD) (D : List DocD) (c4 : Int) (s0 s : ByteArray) (l : List DocD) (hl : l.length ≤ 1000) (y0 : Int) (y1 : ByteArray) (y2 : List InsD) (y3 : List DocD) (y4 z0 z1 : Int) (z2 : Bool) (z3 : ByteArray) (v : Val5) : ∀ (d m i : Nat),i + d = l.length → d + 1 ≤ m → valueW (l.drop i) s = some v →
 eval_Value.L1 n m c0 c1 I D c4 s0 s l (l.length : Int) (i : Int) y0 y1 y2 y3 y4 z0 z1 z2 z3 = some (.ret (.tup [.agg [.int .i64 v.1,.int .i64 v.2.1,.bool v.2.2.1,.str v.2.2.2.1],.bool v.2.2.2.2]),lcRet [] [] 0) := by
 intro d
 induction d with
 | zero =>
  intro m i h1 h2 h
  obtain ⟨m,rfl⟩ : ∃ m',m = m' + 1 := ⟨m - 1,by omega⟩
  rw [List.drop_of_length_le (by omega),valueW] at h
  obtain rfl := Option.some.inj h
  rw [eval_Value.L1_s,if_neg (fun e => absurd (of_decide_eq_true e) (by omega))]
  rfl
 | succ d ih =>
  intro m i h1 h2 h
  obtain ⟨m,rfl⟩ : ∃ m',m = m' + 1 := ⟨m - 1,by omega⟩
  have hlt : i < l.length := by omega
  rw [List.drop_eq_getElem_cons hlt,valueW] at h
  rw [eval_Value.L1_s,if_pos (decide_eq_true (by omega)),if_pos (by omega),show ((i : Int)).toNat = i from by omega,nth_at hlt]
  simp only [Option.bind_some]
  split at h
  · rename_i hz
    rw [if_pos hz]
    split at h
    · rename_i hq
      obtain rfl := Option.some.inj h
      rw [if_neg (by simp [hq])]
      by_cases h0 : l[i].2.1.1 = 0
      · rw [if_pos (by simp [h0]),if_pos (.inl h0)]
        rfl
      · rw [if_neg (by simp [h0])]
        by_cases hc : Values.canV l[i].2.1.1 l[i].2.1.2.1 l[i].2.1.2.2.1 l[i].2.1.2.2.2 = true
        · rw [if_neg (show ¬ (if false = true then true else !Values.canV l[i].2.1.1 l[i].2.1.2.1 l[i].2.1.2.2.1 l[i].2.1.2.2.2) = true by rw [hc]; decide),if_neg (by simp [h0,hc])]
        · rw [if_pos (show (if false = true then true else !Values.canV l[i].2.1.1 l[i].2.1.2.1 l[i].2.1.2.2.1 l[i].2.1.2.2.2) = true by simp [hc]),if_pos (.inr (by simpa using hc))]
          rfl
    · rename_i hq
      rw [if_pos (by simpa using hq),wrN i (by omega)]
      exact ih m (i + 1) (by omega) (by omega) h
  · cases h
theorem eval_Value.ok : AllOk specs_eval_Value := okS (cx := cx_eval_Value) rfl plain_Case.ok (by kernel_rfl) fun args cs n K r g => by
 unfold eval_Value.spec at g
 dsimp only [lcSt] at g
 split at g
 · rename_i c0 c1 c2 c3 c4 s
   obtain ⟨v,h,h2⟩ := bind2 g
   clear g
   refine okG h2 ?_
   clear h2
   split at h
   · rename_i hl
     refine ⟨c3.length + 1,?_⟩
     rw [eval_Value.top,eval_Value.L1_s,← eval_Value.L1_s]
     exact eval_Value.l1 _ c0 c1 c2 c3 c4 s s c3 hl c0 c1 c2 c3 c4 0 0 false _ v c3.length _ 0 (by omega) (Nat.le_refl _) h
   · cases h
 · cases g
theorem eval_Count.l1 (n : Nat) (c0 : Int) (c1 : ByteArray) (I : List InsD) (D : List DocD) (c4 : Int) (s0 s : ByteArray) (l : List DocD) (hl : l.length ≤ 1000) (y0 : Int) (y1 : ByteArray) (y2 : List InsD) (y3 : List DocD) (y4 v : Int) : ∀ (d m i : Nat) (x : Int),i + d = l.length → d + 1 ≤ m → countW (l.drop i) s x = some v →
 eval_Count.L1 n m c0 c1 I D c4 s0 s x l (l.length : Int) (i : Int) y0 y1 y2 y3 y4 = some (.ret (.int .i64 v),lcRet [] [] 0) := by
 intro d
 induction d with
 | zero =>
  intro m i x h1 h2 h
  obtain ⟨m,rfl⟩ : ∃ m',m = m' + 1 := ⟨m - 1,by omega⟩
  rw [List.drop_of_length_le (by omega),countW] at h
  obtain rfl := Option.some.inj h
  rw [eval_Count.L1_s,if_neg (fun e => absurd (of_decide_eq_true e) (by omega))]
 | succ d ih =>
  intro m i x h1 h2 h
  obtain ⟨m,rfl⟩ : ∃ m',m = m' + 1 := ⟨m - 1,by omega⟩
  have hlt : i < l.length := by omega
  rw [List.drop_eq_getElem_cons hlt,countW] at h
  rw [eval_Count.L1_s,if_pos (decide_eq_true (by omega)),if_pos (by omega),show ((i : Int)).toNat = i from by omega,nth_at hlt]
  simp only [Option.bind_some]
  split at h
  · rename_i hz
    rw [if_pos hz,wrN i (by omega)]
    by_cases hq : seq (B.bareW l[i].1) s = true
    · rw [if_pos hq] at h ⊢
      exact ih m (i + 1) _ (by omega) (by omega) h
    · rw [if_neg hq] at h ⊢
      exact ih m (i + 1) _ (by omega) (by omega) h
  · cases h
theorem eval_Count.ok : AllOk specs_eval_Count := okS (cx := cx_eval_Count) rfl eval_Value.ok (by kernel_rfl) fun args cs n K r g => by
 unfold eval_Count.spec at g
 dsimp only [lcSt] at g
 split at g
 · rename_i c0 c1 c2 c3 c4 s
   obtain ⟨v,h,h2⟩ := bind2 g
   clear g
   refine okG h2 ?_
   clear h2
   split at h
   · rename_i hl
     refine ⟨c3.length + 1,?_⟩
     rw [eval_Count.top,eval_Count.L1_s,← eval_Count.L1_s]
     exact eval_Count.l1 _ c0 c1 c2 c3 c4 s s c3 hl c0 c1 c2 c3 c4 v c3.length _ 0 0 (by omega) (Nat.le_refl _) h
   · cases h
 · cases g
theorem eval_Number.l1 (n : Nat) (c0 : Int) (c1 : ByteArray) (I : List InsD) (D : List DocD) (c4 : Int) (s0 : ByteArray) (q0 : Int) (s : ByteArray) (q : Int) (l : List InsD) (hl : l.length ≤ 1000) (y0 : Int) (y1 : ByteArray) (y2 : List InsD) (y3 : List DocD) (y4 : Int) : ∀ (d m i : Nat) (x : Int),i + d = l.length → d + 1 ≤ m →
 eval_Number.L1 n m c0 c1 I D c4 s0 q0 s q x l (l.length : Int) (i : Int) y0 y1 y2 y3 y4 = some (.ret (.int .i64 (numberW (l.drop i) s q x)),lcRet [] [] 0) := by
 intro d
 induction d with
 | zero =>
  intro m i x h1 h2
  obtain ⟨m,rfl⟩ : ∃ m',m = m' + 1 := ⟨m - 1,by omega⟩
  rw [List.drop_of_length_le (by omega),numberW,eval_Number.L1_s,if_neg (fun e => absurd (of_decide_eq_true e) (by omega))]
 | succ d ih =>
  intro m i x h1 h2
  obtain ⟨m,rfl⟩ : ∃ m',m = m' + 1 := ⟨m - 1,by omega⟩
  have hlt : i < l.length := by omega
  rw [List.drop_eq_getElem_cons hlt,numberW,eval_Number.L1_s,if_pos (decide_eq_true (by omega)),if_pos (by omega),show ((i : Int)).toNat = i from by omega,nth_at hlt]
  simp only [Option.bind_some]
  rw [wrN i (by omega)]
  by_cases hq : seq l[i].2.1 s = true ∧ l[i].2.2.1 = q
  · rw [if_pos hq,if_pos (by rw [ite_and]; simpa using hq)]
    exact ih m (i + 1) _ (by omega) (by omega)
  · rw [if_neg hq,if_neg (by rw [ite_and]; simpa using hq)]
    exact ih m (i + 1) _ (by omega) (by omega)
theorem eval_Number.ok : AllOk specs_eval_Number := okS (cx := cx_eval_Number) rfl eval_Count.ok (by kernel_rfl) fun args cs n K r g => by
 unfold eval_Number.spec at g
 dsimp only [lcSt] at g
 split at g
 · rename_i c0 c1 c2 c3 c4 s z
   obtain ⟨v,h,h2⟩ := bind2 g
   clear g
   refine okG h2 ?_
   clear h2
   split at h
   · rename_i hl
     obtain rfl := Option.some.inj h
     refine ⟨c2.length + 1,?_⟩
     rw [eval_Number.top,eval_Number.L1_s,← eval_Number.L1_s]
     exact eval_Number.l1 _ c0 c1 c2 c3 c4 s z s z c2 hl c0 c1 c2 c3 c4 c2.length _ 0 0 (by omega) (Nat.le_refl _)
   · cases h
 · cases g
theorem ofW_nd (I : List InsD) (D : List DocD) (k : Nat) (a0 a1 a2 : Int) (a3 : Bool) (a4 a5 : ByteArray) (a6 : Int) (a7 : List Node) : ofW I D (k + 1) (nd a0 a1 a2 a3 a4 a5 a6 a7) = (if a0 = 1 then some (a1,a2,a3,a4,true)
 else if a0 = 2 then (if D.length ≤ 1000 then valueW D a5 else none)
 else if a0 = 3 then (if D.length ≤ 1000 then (countW D a5 0).bind fun z => some (1,z,false,(⟨#[]⟩ : ByteArray),true) else none)
 else if a0 = 4 then (if I.length ≤ 1000 then some (1,numberW I a5 a6 0,false,(⟨#[]⟩ : ByteArray),true) else none)
 else if a7.length ≤ 2 then (sidesW (ofW I D k) a7).bind fun t => if t.1 = true then dow a0 t.2.1 t.2.2 else some zero5 else none) := rfl
theorem v01 : IntKind.i64.wrap (0 + 1) = 1 := by decide +kernel
theorem v12 : IntKind.i64.wrap (1 + 1) = 2 := by decide +kernel
def val5R (v : Val5) : Option (Rr U0) := some (.ret (.tup [.agg [.int .i64 v.1,.int .i64 v.2.1,.bool v.2.2.1,.str v.2.2.2.1],.bool v.2.2.2.2]),lcRet [] [] 0)
theorem dow_R {z : Int} {u w v : Val5} (h : dow z u w = some v) : ((if Does.In64 u.2.1 ∧ Does.In64 w.2.1 then some (doW z u.1 u.2.1 u.2.2.1 u.2.2.2.1 w.1 w.2.1 w.2.2.1 w.2.2.2.1) else none).bind fun v8 => some (.ret (.tup [.agg [.int .i64 v8.1,.int .i64 v8.2.1,.bool v8.2.2.1,.str v8.2.2.2.1],.bool v8.2.2.2.2]),lcRet [] [] 0)) = val5R v := by
 unfold dow at h
 rw [h]
 rfl
theorem eval_of.step (k : Nat) (h0 : CallOkL Tryz.prog C0 34 (eval_of.specR k)) : CallOkL Tryz.prog C0 34 (eval_of.specR (k + 1)) := okR (cx := cx_eval_of) (R := eval_of.rec k) rfl rfl eval_Number.ok (fun x hx => by
 obtain rfl := List.mem_singleton.1 hx
 exact ⟨fnOk_of (by kernel_rfl),h0⟩) fun args cs n K r g => by
 unfold eval_of.specR at g
 dsimp only [lcSt] at g
 split at g
 · rename_i a0 a1 a2 a3 a4 a5 a6 a7 c0 c1 c2 c3 c4
   obtain ⟨v,h,h2⟩ := bind2 g
   clear g
   refine okG h2 ?_
   clear h2
   rw [ofW_nd] at h
   refine ⟨3,?_⟩
   rw [eval_of.top]
   by_cases h1 : a0 = 1
   · rw [if_pos h1] at h
     obtain rfl := Option.some.inj h
     rw [if_pos (by simpa using h1)]
   rw [if_neg h1] at h
   rw [if_neg (by simpa using h1)]
   by_cases h2 : a0 = 2
   · rw [if_pos h2] at h
     rw [if_pos (by simpa using h2),h]
     rfl
   rw [if_neg h2] at h
   rw [if_neg (by simpa using h2)]
   by_cases h3 : a0 = 3
   · rw [if_pos h3] at h
     rw [if_pos (by simpa using h3)]
     split at h
     · rename_i hl
       obtain ⟨z,h5,h6⟩ := bind2 h
       obtain rfl := Option.some.inj h6
       rw [if_pos hl,h5]
       rfl
     · cases h
   rw [if_neg h3] at h
   rw [if_neg (by simpa using h3)]
   by_cases h4 : a0 = 4
   · rw [if_pos h4] at h
     rw [if_pos (by simpa using h4)]
     split at h
     · rename_i hl
       obtain rfl := Option.some.inj h
       rw [if_pos hl]
       rfl
     · cases h
   rw [if_neg h4] at h
   rw [if_neg (by simpa using h4)]
   split at h
   · rename_i hl
     obtain ⟨t,h5,h6⟩ := bind2 h
     match a7,hl with
     | [],_ =>
      rw [sidesW] at h5
      obtain rfl := Option.some.inj h5
      rw [if_pos rfl] at h6
      rw [eval_of.L1_s,if_neg (by simp)]
      exact dow_R h6
     | [x],_ =>
      rw [sidesW] at h5
      obtain ⟨u,h7,h8⟩ := bind2 h5
      obtain rfl := Option.some.inj h8
      rw [eval_of.L1_s,if_pos (by simp),if_pos (by simp),show nth [x] (Int.toNat 0) = some x from rfl]
      simp only [Option.bind_some,nd_y]
      rw [h7]
      simp only [Option.bind_some]
      split at h6
      · rename_i hu
        rw [if_neg (by simp at hu; simp [hu]),if_neg (by decide),if_pos (by simp),v01,eval_of.L1_s,if_neg (by simp)]
        exact dow_R h6
      · rename_i hu
        obtain rfl := Option.some.inj h6
        rw [if_pos (by simpa using hu)]
        rfl
     | [x,y],_ =>
      rw [sidesW] at h5
      obtain ⟨u,h7,h8⟩ := bind2 h5
      obtain ⟨w,h9,h10⟩ := bind2 h8
      obtain rfl := Option.some.inj h10
      rw [eval_of.L1_s,if_pos (by simp),if_pos (by simp),show nth [x,y] (Int.toNat 0) = some x from rfl]
      simp only [Option.bind_some,nd_y]
      rw [h7]
      simp only [Option.bind_some]
      by_cases hu : u.2.2.2.2 = true
      · rw [if_neg (by simp [hu]),if_neg (by decide),if_pos (by simp),v01,eval_of.L1_s,if_pos (by simp),if_pos (by simp),show nth [x,y] (Int.toNat 1) = some y from rfl]
        simp only [Option.bind_some,nd_y]
        rw [h9]
        simp only [Option.bind_some]
        by_cases hw : w.2.2.2.2 = true
        · rw [if_pos (by simp [hu,hw])] at h6
          rw [if_neg (by simp [hw]),if_pos (by simp),v12,eval_of.L1_s,if_neg (by simp)]
          exact dow_R h6
        · rw [if_neg (by simp [hw])] at h6
          obtain rfl := Option.some.inj h6
          rw [if_pos (by simpa using hw)]
          rfl
      · rw [if_neg (by simp [hu])] at h6
        obtain rfl := Option.some.inj h6
        rw [if_pos (by simpa using hu)]
        rfl
   · cases h
 · cases g
theorem eval_of.zero : CallOkL Tryz.prog C0 34 (eval_of.specR 0) := fun args cs n K r h => by
 unfold eval_of.specR at h
 dsimp only [lcSt] at h
 split at h
 · obtain ⟨v,h1,h2⟩ := bind2 h
   exact absurd h1 (by first | (simp [ofW]; done) | (unfold ofW; simp))
 · cases h
theorem eval_of.recOk : ∀ k,CallOkL Tryz.prog C0 34 (eval_of.specR k)
 | 0 => eval_of.zero
 | k + 1 => eval_of.step k (eval_of.recOk k)
theorem eval_of.ok : AllOk specs_eval_of := allOk_cons eval_Number.ok (fnOk_of (by kernel_rfl)) fun args cs n K r h => by
 unfold eval_of.spec at h
 dsimp only [lcSt] at h
 split at h
 · rename_i a0 a1 a2 a3 a4 a5 a6 a7 c0 c1 c2 c3 c4
   refine eval_of.recOk (big a7) _ _ _ K r ?_
   unfold eval_of.specR
   exact h
 · cases h
theorem eval_Eval.ok : AllOk specs_eval_Eval := okS (cx := cx_eval_Eval) rfl eval_of.ok (by kernel_rfl) fun args cs n K r g => by
 unfold eval_Eval.spec at g
 dsimp only [lcSt] at g
 split at g
 · rename_i a0 a1 a2 a3 a4 a5 a6 a7 c0 c1 c2 c3 c4
   obtain ⟨v,h,h2⟩ := bind2 g
   clear g
   refine okG h2 ?_
   clear h2
   unfold evalW at h
   obtain ⟨c,h1,h2⟩ := bind2 h
   refine ⟨0,?_⟩
   rw [eval_Eval.top,h1]
   simp only [Option.bind_some]
   cases c with
   | false =>
    rw [if_neg (by decide)] at h2
    obtain rfl := Option.some.inj h2
    rfl
   | true =>
    rw [if_pos rfl] at h2
    have h3 : ofW c2 c3 (big a7) (nd a0 a1 a2 a3 a4 a5 a6 a7) = some v := h2
    rw [if_neg (by decide),h3]
    rfl
 · cases g
theorem eval_Holds.ok : AllOk specs_eval_Holds := okS (cx := cx_eval_Holds) rfl eval_Eval.ok (by kernel_rfl) fun args cs n K r g => by
 unfold eval_Holds.spec at g
 dsimp only [lcSt] at g
 split at g
 · rename_i s c0 c1 c2 c3 c4
   obtain ⟨v,h,h2⟩ := bind2 g
   clear g
   refine okG h2 ?_
   clear h2
   unfold holdsW at h
   refine ⟨0,?_⟩
   rw [eval_Holds.top]
   split at h
   · rename_i hs
     obtain rfl := Option.some.inj h
     rw [if_pos hs]
   · rename_i hs
     rw [if_neg hs]
     obtain ⟨p,h1,h2⟩ := bind2 h
     rw [h1]
     simp only [Option.bind_some,nd_y]
     split at h2
     · rename_i hp
       rw [if_neg (by simp [hp])]
       obtain ⟨u,h3,h4⟩ := bind2 h2
       obtain rfl := Option.some.inj h4
       rw [h3]
       simp only [Option.bind_some]
       have e : (if (if u.2.2.2.2 = true then u.1 == 2 else false) = true then u.2.2.1 else false) = finP u := by
        unfold finP
        rw [Bool.eq_iff_iff,ite_and,ite_and,Bool.and_eq_true,Bool.and_eq_true,decide_eq_true_eq,beq_iff_eq,and_assoc]
       rw [e]
     · rename_i hp
       obtain rfl := Option.some.inj h2
       rw [if_pos (by simpa using hp)]
 · cases g
def skipF : Bool → List UInt8 → List UInt8
 | _,[] => []
 | q,a :: r => if a = 35 then skipF true r else if a = 46 then a :: skipF false r else if q = true then skipF q r else a :: skipF q r
theorem skip_true : ∀ (l : List UInt8),(46 : UInt8) ∉ l → skipF true l = []
 | [],_ => rfl
 | a :: r,h => by
  have h1 : ¬ a = 46 := fun e => h (by simp [e])
  have ih := skip_true r (fun e => h (List.mem_cons_of_mem _ e))
  rw [skipF,if_neg h1,if_pos rfl,ih]
  split <;> rfl
theorem skip_take : ∀ (l : List UInt8),(46 : UInt8) ∉ l → skipF false l = l.takeWhile (· != 35)
 | [],_ => rfl
 | a :: r,h => by
  have h1 : ¬ a = 46 := fun e => h (by simp [e])
  have h2 : (46 : UInt8) ∉ r := fun e => h (List.mem_cons_of_mem _ e)
  rw [skipF,List.takeWhile_cons]
  by_cases h3 : a = 35
  · rw [if_pos h3,skip_true r h2]
    simp [h3]
  · rw [if_neg h3,if_neg h1,if_neg (by decide),skip_take r h2]
    simp [h3]
theorem skip_dot (r : List UInt8) : ∀ (l : List UInt8) (q : Bool),(46 : UInt8) ∉ l → skipF q (l ++ 46 :: r) = skipF q l ++ 46 :: skipF false r
 | [],q,_ => by
  rw [List.nil_append,show skipF q [] = [] by cases q <;> rfl,skipF,if_neg (by decide),if_pos rfl]
  rfl
 | a :: l,q,h => by
  have h1 : ¬ a = 46 := fun e => h (by simp [e])
  have h2 : (46 : UInt8) ∉ l := fun e => h (List.mem_cons_of_mem _ e)
  rw [List.cons_append,skipF,skipF,if_neg h1,if_neg h1]
  by_cases h3 : a = 35
  · rw [if_pos h3,if_pos h3,skip_dot r l true h2]
  · rw [if_neg h3,if_neg h3]
    cases q with
    | true => rw [if_pos rfl,if_pos rfl,skip_dot r l true h2]
    | false => rw [if_neg (by decide),if_neg (by decide),skip_dot r l false h2,List.cons_append]
theorem cut_take (l : List UInt8) : (Lib.cut l [35]).1 = l.takeWhile (· != 35) := by
 have key : ∀ l : List UInt8,(if 0 ≤ Lib.indexByte l 35 then l.take (Lib.indexByte l 35).toNat else l) = l.takeWhile (· != 35) := by
  intro l
  induction l with
  | nil => rfl
  | cons b l ih =>
   rw [List.takeWhile_cons,← ih]
   rw [show Lib.indexByte (b :: l) 35 = if b = 35 then 0 else if Lib.indexByte l 35 = -1 then -1 else Lib.indexByte l 35 + 1 by simp only [Lib.indexByte,beq_iff_eq]]
   by_cases hb : b = 35
   · simp [hb]
   · have hge := Lib.indexByte_ge l 35
     by_cases hm : Lib.indexByte l 35 = -1
     · simp [hb,hm]
     · have h0 : 0 ≤ Lib.indexByte l 35 := by omega
       have h1 : 0 ≤ Lib.indexByte l 35 + 1 := by omega
       have h2 : (Lib.indexByte l 35 + 1).toNat = (Lib.indexByte l 35).toNat + 1 := by omega
       simp [hb,hm,h0,h1,h2]
 unfold Lib.cut
 rw [Lib.index_one,← key]
 split <;> rfl
theorem join_two (x : List UInt8) (r : List (List UInt8)) (h : r ≠ []) : Lib.join (x :: r) [46] = x ++ 46 :: Lib.join r [46] := by
 cases r with
 | nil => exact absurd rfl h
 | cons y t => rw [Lib.join_cons,Lib.join_cons]; simp [Lib.joinTail]
theorem bare_skip : ∀ (n : Nat) (s : ByteArray),s.size ≤ n → (B.bareW s).data.toList = skipF false s.data.toList := by
 intro n
 induction n with
 | zero =>
  intro s hs
  have h0 : s = (⟨#[]⟩ : ByteArray) := Values.empty_of (by rw [Lib.toList_data]; exact List.eq_nil_of_length_eq_zero (by rw [Array.length_toList]; exact Nat.le_zero.1 hs))
  subst h0
  rfl
 | succ n ih =>
  intro s hs
  have hb : B.bareW s = B.joinP ((splitW s dotB).map B.cutP) := rfl
  have one : (46 : UInt8) ∉ s.data.toList → (B.bareW s).data.toList = skipF false s.data.toList := fun hm => by
   rw [hb,parts_miss (fun e => hm (by
    unfold bytesOf at e
    obtain ⟨x,hx,hy⟩ := List.mem_map.1 e
    rw [(dot_byte x).1 hy] at hx; exact hx))]
   unfold B.joinP
   simp only [List.map_cons,List.map_nil,Lib.join_one]
   unfold B.cutP
   simp only [List.toList_toArray]
   rw [cut_take,skip_take _ hm]
  by_cases hm : (46 : UInt8) ∈ s.data.toList
  · obtain ⟨a,b,hab,ha⟩ := List.eq_append_cons_of_mem hm
    have hlen : s.data.toList.length = s.size := by rw [Array.length_toList]; rfl
    have hj : a.length < s.data.toList.length := by rw [hab]; simp
    have h1 : ∀ i,i < a.length → (bytesOf s)[i]? ≠ some 46 := by
     intro i hi e
     unfold bytesOf at e
     rw [List.getElem?_map,hab,List.getElem?_append_left hi,List.getElem?_eq_getElem hi] at e
     have e2 := (dot_byte a[i]).1 (Option.some.inj e)
     exact ha (e2 ▸ List.getElem_mem hi)
    have h2 : (bytesOf s)[a.length]? = some 46 := by
     unfold bytesOf
     rw [List.getElem?_map,hab,List.getElem?_append_right (Nat.le_refl _),Nat.sub_self]
     rfl
    rw [hb,parts_hit h1 h2,List.map_cons]
    have hd : (s.extract 0 a.length).data.toList = a := by
     rw [ByteArray.data_extract,Array.toList_extract,hab]
     simp [List.extract]
    have hr : (s.extract (a.length + 1) s.size).data.toList = b := by
     rw [ByteArray.data_extract,Array.toList_extract]
     have hsz : s.size = a.length + 1 + b.length := by rw [← hlen,hab]; simp; omega
     rw [hab,hsz]
     simp [List.extract]
    have hz : (s.extract (a.length + 1) s.size).size ≤ n := by rw [ByteArray.size_extract]; omega
    have ih' := ih _ hz
    have hb2 : B.bareW (s.extract (a.length + 1) s.size) = B.joinP ((splitW (s.extract (a.length + 1) s.size) dotB).map B.cutP) := rfl
    rw [hb2,hr] at ih'
    have hne : splitW (s.extract (a.length + 1) s.size) dotB ≠ [] := by
     unfold splitW
     cases hc : Lib.countB (s.extract (a.length + 1) s.size) dotB with
     | zero => rw [Lib.splitB]; simp
     | succ k => rw [Lib.splitB]; split <;> simp
    rw [hab,skip_dot b a false ha,skip_take a ha,← cut_take a,← ih']
    unfold B.joinP
    simp only [List.map_cons,List.toList_toArray]
    rw [join_two _ _ (by simpa using hne)]
    unfold B.cutP
    simp only [List.toList_toArray,hd]
  · exact one hm
theorem bt_u {s : ByteArray} {i : Nat} (h : i < s.data.toList.length) : Ev.bt s (i : Int) = ((s.data.toList[i]).toNat : Int) := by
 unfold Ev.bt
 have h' : ((i : Int)).toNat < s.size := by rw [Int.toNat_natCast]; rw [Array.length_toList] at h; exact h
 rw [dif_pos h']
 rfl
theorem ext_u {s : ByteArray} {i : Nat} (h : i < s.data.toList.length) : (s.extract i (i + 1)).data.toList = [s.data.toList[i]] := by
 rw [ByteArray.data_extract,Array.toList_extract,List.extract,show i + 1 - i = 1 from by omega,List.drop_eq_getElem_cons h]
 rfl
theorem u8_is (a : UInt8) (k : Nat) (hk : k < 256) : (((a.toNat : Int)) == (k : Int)) = decide (a = UInt8.ofNat k) := by
 rw [Bool.eq_iff_iff,beq_iff_eq,decide_eq_true_eq]
 constructor
 · intro h
   apply UInt8.toNat_inj.1
   rw [UInt8.toNat_ofNat']
   omega
 · rintro rfl
   rw [UInt8.toNat_ofNat']
   omega
theorem ref11_base.l_ev (n : Nat) (s0 s : ByteArray) (hs : s.data.toList.length ≤ 900000) : ∀ (d m i : Nat) (o : ByteArray) (q : Bool),i + d = s.data.toList.length → d + 1 ≤ m → o.size ≤ i →
 ref11_base.L0 n m s0 s o q (s.size : Int) (i : Int) = some (.ret (.str ⟨(o.data.toList ++ skipF q (s.data.toList.drop i)).toArray⟩),lcRet [] [] 0) := by
 have hlen : s.data.toList.length = s.size := by rw [Array.length_toList]; rfl
 intro d
 induction d with
 | zero =>
  intro m i o q h1 h2 h3
  obtain ⟨m,rfl⟩ : ∃ m',m = m' + 1 := ⟨m - 1,by omega⟩
  rw [ref11_base.L0_s,if_neg (fun e => absurd (of_decide_eq_true e) (by omega)),List.drop_of_length_le (by omega),skipF,List.append_nil,Array.toArray_toList]
 | succ d ih =>
  intro m i o q h1 h2 h3
  obtain ⟨m,rfl⟩ : ∃ m',m = m' + 1 := ⟨m - 1,by omega⟩
  have hlt : i < s.data.toList.length := by omega
  have hw : IntKind.i64.wrap ((i : Int) + 1) = ((i + 1 : Nat) : Int) := wrN i (by omega)
  have hx : s.extract ((i : Int)).toNat (((i + 1 : Nat) : Int)).toNat = s.extract i (i + 1) := by rw [Int.toNat_natCast,Int.toNat_natCast]
  have hxs : (s.extract i (i + 1)).size = 1 := by rw [ByteArray.size_extract]; omega
  have k35 := u8_is (s.data.toList[i]) 35 (by decide)
  have k46 := u8_is (s.data.toList[i]) 46 (by decide)
  have put : ∀ q',ref11_base.L0 n m s0 s (o ++ s.extract i (i + 1)) q' (s.size : Int) ((i + 1 : Nat) : Int) = some (.ret (.str ⟨(o.data.toList ++ s.data.toList[i] :: skipF q' (s.data.toList.drop (i + 1))).toArray⟩),lcRet [] [] 0) := fun q' => by
   rw [ih m (i + 1) _ q' (by omega) (by omega) (by rw [ByteArray.size_append,hxs]; omega)]
   rw [ByteArray.data_append,Array.toList_append,ext_u hlt,List.append_assoc]
   rfl
  rw [ref11_base.L0_s,if_pos (decide_eq_true (by omega)),if_pos (by omega),if_pos (by omega),bt_u hlt,hw,hx,List.drop_eq_getElem_cons hlt,skipF]
  rw [show ((35 : Int)) = ((35 : Nat) : Int) from rfl,show ((46 : Int)) = ((46 : Nat) : Int) from rfl,k35,k46]
  have n1 : (0 : Int) ≤ (i : Int) := by omega
  have n2 : (i : Int) < (s.size : Int) := by omega
  have n3 : (i : Int) ≤ ((i + 1 : Nat) : Int) := by omega
  have n4 : ((i + 1 : Nat) : Int) ≤ (s.size : Int) := by omega
  have n5 : o.size + (s.extract i (i + 1)).size ≤ 9223372036854775807 := by rw [hxs]; omega
  have u35 : UInt8.ofNat 35 = 35 := rfl
  have u46 : UInt8.ofNat 46 = 46 := rfl
  rw [u35,u46]
  by_cases h35 : s.data.toList[i] = 35
  · have h46 : ¬ s.data.toList[i] = 46 := fun e => by rw [h35] at e; exact absurd e (by decide)
    rw [if_pos (decide_eq_true h35),if_pos h35,if_pos n1,if_pos n2,if_neg (fun e => h46 (of_decide_eq_true e))]
    exact ih m (i + 1) o true (by omega) (by omega) (by omega)
  · rw [if_neg (fun e => h35 (of_decide_eq_true e)),if_neg h35,if_pos n1,if_pos n2]
    by_cases h46 : s.data.toList[i] = 46
    · rw [if_pos (decide_eq_true h46),if_pos h46,if_pos n1,if_pos n3,if_pos n4,if_pos n5]
      exact put false
    · rw [if_neg (fun e => h46 (of_decide_eq_true e)),if_neg h46]
      cases q with
      | true =>
       rw [if_neg (by decide),if_pos rfl]
       exact ih m (i + 1) o true (by omega) (by omega) (by omega)
      | false =>
       rw [if_pos (by decide),if_pos n1,if_pos n3,if_pos n4,if_pos n5,if_neg (by decide)]
       exact put false
theorem ref11_base.ok : AllOk specs_ref11_base := okS (cx := cx_ref11_base) rfl eval_Holds.ok (by kernel_rfl) fun args cs n K r g => by
 unfold ref11_base.spec at g
 dsimp only [lcSt] at g
 split at g
 · rename_i s
   obtain ⟨v,h,h2⟩ := bind2 g
   clear g
   refine okG h2 ?_
   clear h2
   split at h
   · rename_i hs
     obtain rfl := Option.some.inj h
     have hlen : s.data.toList.length = s.size := by rw [Array.length_toList]; rfl
     refine ⟨s.data.toList.length + 1,?_⟩
     rw [ref11_base.top]
     have e := ref11_base.l_ev (s.data.toList.length + 1) s s (by omega) s.data.toList.length (s.data.toList.length + 1) 0 (⟨#[]⟩ : ByteArray) false (by omega) (Nat.le_refl _) (Nat.le_refl _)
     have hb : B.bareW s = ⟨(skipF false s.data.toList).toArray⟩ := by
      have := bare_skip s.size s (Nat.le_refl _)
      rw [← this,Array.toArray_toList]
     rw [hb]
     exact e
   · cases h
 · cases g
theorem ref11_Value.l1 (n : Nat) (c0 : Int) (c1 : ByteArray) (I : List InsD) (D : List DocD) (c4 : Int) (s0 s : ByteArray) (l : List DocD) (hl : l.length ≤ 1000) (y0 : Int) (y1 : ByteArray) (y2 : List InsD) (y3 : List DocD) (y4 z0 z1 : Int) (z2 : Bool) (z3 : ByteArray) (v : Val5) : ∀ (d m i : Nat),i + d = l.length → d + 1 ≤ m → valueW (l.drop i) s = some v →
 ref11_Value.L1 n m c0 c1 I D c4 s0 s l (l.length : Int) (i : Int) y0 y1 y2 y3 y4 z0 z1 z2 z3 = some (.ret (.tup [.agg [.int .i64 v.1,.int .i64 v.2.1,.bool v.2.2.1,.str v.2.2.2.1],.bool v.2.2.2.2]),lcRet [] [] 0) := by
 intro d
 induction d with
 | zero =>
  intro m i h1 h2 h
  obtain ⟨m,rfl⟩ : ∃ m',m = m' + 1 := ⟨m - 1,by omega⟩
  rw [List.drop_of_length_le (by omega),valueW] at h
  obtain rfl := Option.some.inj h
  rw [ref11_Value.L1_s,if_neg (fun e => absurd (of_decide_eq_true e) (by omega))]
  rfl
 | succ d ih =>
  intro m i h1 h2 h
  obtain ⟨m,rfl⟩ : ∃ m',m = m' + 1 := ⟨m - 1,by omega⟩
  have hlt : i < l.length := by omega
  rw [List.drop_eq_getElem_cons hlt,valueW] at h
  rw [ref11_Value.L1_s,if_pos (decide_eq_true (by omega)),if_pos (by omega),show ((i : Int)).toNat = i from by omega,nth_at hlt]
  simp only [Option.bind_some]
  split at h
  · rename_i hz
    rw [if_pos hz]
    simp only [Option.bind_some]
    split at h
    · rename_i hq
      obtain rfl := Option.some.inj h
      rw [if_pos hq]
      by_cases h0 : l[i].2.1.1 = 0
      · rw [if_pos (by rw [ite_or]; exact .inr (by simp [h0])),if_pos (.inl h0)]
        rfl
      · by_cases hc : Values.canV l[i].2.1.1 l[i].2.1.2.1 l[i].2.1.2.2.1 l[i].2.1.2.2.2 = true
        · rw [if_neg (show ¬ (if (!Values.canV l[i].2.1.1 l[i].2.1.2.1 l[i].2.1.2.2.1 l[i].2.1.2.2.2) = true then true else l[i].2.1.1 == 0) = true by simp [hc,h0]),if_neg (by simp [h0,hc])]
        · rw [if_pos (show (if (!Values.canV l[i].2.1.1 l[i].2.1.2.1 l[i].2.1.2.2.1 l[i].2.1.2.2.2) = true then true else l[i].2.1.1 == 0) = true by simp [hc]),if_pos (.inr (by simpa using hc))]
          rfl
    · rename_i hq
      rw [if_neg hq,wrN i (by omega)]
      exact ih m (i + 1) (by omega) (by omega) h
  · cases h
theorem ref11_Value.ok : AllOk specs_ref11_Value := okS (cx := cx_ref11_Value) rfl ref11_base.ok (by kernel_rfl) fun args cs n K r g => by
 unfold ref11_Value.spec at g
 dsimp only [lcSt] at g
 split at g
 · rename_i c0 c1 c2 c3 c4 s
   obtain ⟨v,h,h2⟩ := bind2 g
   clear g
   refine okG h2 ?_
   clear h2
   split at h
   · rename_i hl
     refine ⟨c3.length + 1,?_⟩
     rw [ref11_Value.top,ref11_Value.L1_s,← ref11_Value.L1_s]
     exact ref11_Value.l1 _ c0 c1 c2 c3 c4 s s c3 hl c0 c1 c2 c3 c4 0 0 false _ v c3.length _ 0 (by omega) (Nat.le_refl _) h
   · cases h
 · cases g
theorem ref11_Count.l1 (n : Nat) (c0 : Int) (c1 : ByteArray) (I : List InsD) (D : List DocD) (c4 : Int) (s0 s : ByteArray) (l : List DocD) (hl : l.length ≤ 1000) (y0 : Int) (y1 : ByteArray) (y2 : List InsD) (y3 : List DocD) (y4 v : Int) : ∀ (d m i : Nat) (x : Int),i + d = l.length → d + 1 ≤ m → countW (l.drop i) s x = some v →
 ref11_Count.L1 n m c0 c1 I D c4 s0 s x l (l.length : Int) (i : Int) y0 y1 y2 y3 y4 = some (.ret (.int .i64 v),lcRet [] [] 0) := by
 intro d
 induction d with
 | zero =>
  intro m i x h1 h2 h
  obtain ⟨m,rfl⟩ : ∃ m',m = m' + 1 := ⟨m - 1,by omega⟩
  rw [List.drop_of_length_le (by omega),countW] at h
  obtain rfl := Option.some.inj h
  rw [ref11_Count.L1_s,if_neg (fun e => absurd (of_decide_eq_true e) (by omega))]
 | succ d ih =>
  intro m i x h1 h2 h
  obtain ⟨m,rfl⟩ : ∃ m',m = m' + 1 := ⟨m - 1,by omega⟩
  have hlt : i < l.length := by omega
  rw [List.drop_eq_getElem_cons hlt,countW] at h
  rw [ref11_Count.L1_s,if_pos (decide_eq_true (by omega)),if_pos (by omega),show ((i : Int)).toNat = i from by omega,nth_at hlt]
  simp only [Option.bind_some]
  split at h
  · rename_i hz
    rw [if_pos hz,wrN i (by omega)]
    simp only [Option.bind_some]
    by_cases hq : seq (B.bareW l[i].1) s = true
    · rw [if_pos hq] at h ⊢
      exact ih m (i + 1) _ (by omega) (by omega) h
    · rw [if_neg hq] at h ⊢
      exact ih m (i + 1) _ (by omega) (by omega) h
  · cases h
theorem ref11_Count.ok : AllOk specs_ref11_Count := okS (cx := cx_ref11_Count) rfl ref11_Value.ok (by kernel_rfl) fun args cs n K r g => by
 unfold ref11_Count.spec at g
 dsimp only [lcSt] at g
 split at g
 · rename_i c0 c1 c2 c3 c4 s
   obtain ⟨v,h,h2⟩ := bind2 g
   clear g
   refine okG h2 ?_
   clear h2
   split at h
   · rename_i hl
     refine ⟨c3.length + 1,?_⟩
     rw [ref11_Count.top,ref11_Count.L1_s,← ref11_Count.L1_s]
     exact ref11_Count.l1 _ c0 c1 c2 c3 c4 s s c3 hl c0 c1 c2 c3 c4 v c3.length _ 0 0 (by omega) (Nat.le_refl _) h
   · cases h
 · cases g
theorem ref11_Number.l1 (n : Nat) (c0 : Int) (c1 : ByteArray) (I : List InsD) (D : List DocD) (c4 : Int) (s0 : ByteArray) (q0 : Int) (s : ByteArray) (q : Int) (l : List InsD) (hl : l.length ≤ 1000) (y0 : Int) (y1 : ByteArray) (y2 : List InsD) (y3 : List DocD) (y4 : Int) : ∀ (d m i : Nat) (x : Int),i + d = l.length → d + 1 ≤ m →
 ref11_Number.L1 n m c0 c1 I D c4 s0 q0 s q x l (l.length : Int) (i : Int) y0 y1 y2 y3 y4 = some (.ret (.int .i64 (numberW (l.drop i) s q x)),lcRet [] [] 0) := by
 intro d
 induction d with
 | zero =>
  intro m i x h1 h2
  obtain ⟨m,rfl⟩ : ∃ m',m = m' + 1 := ⟨m - 1,by omega⟩
  rw [List.drop_of_length_le (by omega),numberW,ref11_Number.L1_s,if_neg (fun e => absurd (of_decide_eq_true e) (by omega))]
 | succ d ih =>
  intro m i x h1 h2
  obtain ⟨m,rfl⟩ : ∃ m',m = m' + 1 := ⟨m - 1,by omega⟩
  have hlt : i < l.length := by omega
  rw [List.drop_eq_getElem_cons hlt,numberW,ref11_Number.L1_s,if_pos (decide_eq_true (by omega)),if_pos (by omega),show ((i : Int)).toNat = i from by omega,nth_at hlt]
  simp only [Option.bind_some]
  rw [wrN i (by omega)]
  by_cases hq : seq l[i].2.1 s = true ∧ l[i].2.2.1 = q
  · rw [if_pos hq,if_pos (by rw [ite_and]; simpa using hq)]
    exact ih m (i + 1) _ (by omega) (by omega)
  · rw [if_neg hq,if_neg (by rw [ite_and]; simpa using hq)]
    exact ih m (i + 1) _ (by omega) (by omega)
theorem ref11_Number.ok : AllOk specs_ref11_Number := okS (cx := cx_ref11_Number) rfl ref11_Count.ok (by kernel_rfl) fun args cs n K r g => by
 unfold ref11_Number.spec at g
 dsimp only [lcSt] at g
 split at g
 · rename_i c0 c1 c2 c3 c4 s z
   obtain ⟨v,h,h2⟩ := bind2 g
   clear g
   refine okG h2 ?_
   clear h2
   split at h
   · rename_i hl
     obtain rfl := Option.some.inj h
     refine ⟨c2.length + 1,?_⟩
     rw [ref11_Number.top,ref11_Number.L1_s,← ref11_Number.L1_s]
     exact ref11_Number.l1 _ c0 c1 c2 c3 c4 s z s z c2 hl c0 c1 c2 c3 c4 c2.length _ 0 0 (by omega) (Nat.le_refl _)
   · cases h
 · cases g
theorem ref11_eval.step (k : Nat) (h0 : CallOkL Tryz.prog C0 35 (ref11_eval.specR k)) : CallOkL Tryz.prog C0 35 (ref11_eval.specR (k + 1)) := okR (cx := cx_ref11_eval) (R := ref11_eval.rec k) rfl rfl ref11_Number.ok (fun x hx => by
 obtain rfl := List.mem_singleton.1 hx
 exact ⟨fnOk_of (by kernel_rfl),h0⟩) fun args cs n K r g => by
 unfold ref11_eval.specR at g
 dsimp only [lcSt] at g
 split at g
 · rename_i a0 a1 a2 a3 a4 a5 a6 a7 c0 c1 c2 c3 c4
   obtain ⟨v,h,h2⟩ := bind2 g
   clear g
   refine okG h2 ?_
   clear h2
   rw [ofW_nd] at h
   refine ⟨3,?_⟩
   rw [ref11_eval.top]
   by_cases h1 : a0 = 1
   · rw [if_pos h1] at h
     obtain rfl := Option.some.inj h
     rw [if_pos (by simpa using h1)]
   rw [if_neg h1] at h
   rw [if_neg (by simpa using h1)]
   by_cases h2 : a0 = 2
   · rw [if_pos h2] at h
     rw [if_pos (by simpa using h2),h]
     rfl
   rw [if_neg h2] at h
   rw [if_neg (by simpa using h2)]
   by_cases h3 : a0 = 3
   · rw [if_pos h3] at h
     rw [if_pos (by simpa using h3)]
     split at h
     · rename_i hl
       obtain ⟨z,h5,h6⟩ := bind2 h
       obtain rfl := Option.some.inj h6
       rw [if_pos hl,h5]
       rfl
     · cases h
   rw [if_neg h3] at h
   rw [if_neg (by simpa using h3)]
   by_cases h4 : a0 = 4
   · rw [if_pos h4] at h
     rw [if_pos (by simpa using h4)]
     split at h
     · rename_i hl
       obtain rfl := Option.some.inj h
       rw [if_pos hl]
       rfl
     · cases h
   rw [if_neg h4] at h
   rw [if_neg (by simpa using h4)]
   split at h
   · rename_i hl
     obtain ⟨t,h5,h6⟩ := bind2 h
     match a7,hl with
     | [],_ =>
      rw [sidesW] at h5
      obtain rfl := Option.some.inj h5
      rw [if_pos rfl] at h6
      rw [ref11_eval.L1_s,if_neg (by simp),if_neg (by decide)]
      exact dow_R h6
     | [x],_ =>
      rw [sidesW] at h5
      obtain ⟨u,h7,h8⟩ := bind2 h5
      obtain rfl := Option.some.inj h8
      rw [ref11_eval.L1_s,if_pos (by simp),if_pos (by simp),show nth [x] (Int.toNat 0) = some x from rfl]
      simp only [Option.bind_some,nd_y]
      rw [h7]
      simp only [Option.bind_some]
      rw [if_neg (by decide),if_pos (by simp),v01,ref11_eval.L1_s,if_neg (by simp)]
      split at h6
      · rename_i hu
        rw [if_neg (by simp at hu; simp [hu])]
        exact dow_R h6
      · rename_i hu
        obtain rfl := Option.some.inj h6
        rw [if_pos (by simpa using hu)]
        rfl
     | [x,y],_ =>
      rw [sidesW] at h5
      obtain ⟨u,h7,h8⟩ := bind2 h5
      obtain ⟨w,h9,h10⟩ := bind2 h8
      obtain rfl := Option.some.inj h10
      rw [ref11_eval.L1_s,if_pos (by simp),if_pos (by simp),show nth [x,y] (Int.toNat 0) = some x from rfl]
      rw [Option.bind_some]
      simp only [nd_y]
      rw [h7]
      rw [Option.bind_some]
      rw [if_neg (by decide),if_pos (by simp),v01,ref11_eval.L1_s,if_pos (by simp),if_pos (by simp),show nth [x,y] (Int.toNat 1) = some y from rfl]
      rw [Option.bind_some]
      simp only [nd_y]
      rw [h9]
      rw [Option.bind_some]
      rw [if_pos (by simp),v12,ref11_eval.L1_s,if_neg (by simp)]
      by_cases hu : (u.2.2.2.2 && w.2.2.2.2) = true
      · rw [if_pos hu] at h6
        rw [if_neg (by rw [Bool.and_eq_true] at hu; simp [hu.1,hu.2])]
        exact dow_R h6
      · rw [if_neg hu] at h6
        obtain rfl := Option.some.inj h6
        rw [if_pos (by revert hu; cases u.2.2.2.2 <;> cases w.2.2.2.2 <;> simp)]
        rfl
   · cases h
 · cases g
theorem ref11_eval.zero : CallOkL Tryz.prog C0 35 (ref11_eval.specR 0) := fun args cs n K r h => by
 unfold ref11_eval.specR at h
 dsimp only [lcSt] at h
 split at h
 · obtain ⟨v,h1,h2⟩ := bind2 h
   exact absurd h1 (by first | (simp [ofW]; done) | (unfold ofW; simp))
 · cases h
theorem ref11_eval.recOk : ∀ k,CallOkL Tryz.prog C0 35 (ref11_eval.specR k)
 | 0 => ref11_eval.zero
 | k + 1 => ref11_eval.step k (ref11_eval.recOk k)
theorem ref11_eval.ok : AllOk specs_ref11_eval := allOk_cons ref11_Number.ok (fnOk_of (by kernel_rfl)) fun args cs n K r h => by
 unfold ref11_eval.spec at h
 dsimp only [lcSt] at h
 split at h
 · rename_i a0 a1 a2 a3 a4 a5 a6 a7 c0 c1 c2 c3 c4
   refine ref11_eval.recOk (big a7) _ _ _ K r ?_
   unfold ref11_eval.specR
   exact h
 · cases h
theorem ref11_Eval.ok : AllOk specs_ref11_Eval := okS (cx := cx_ref11_Eval) rfl ref11_eval.ok (by kernel_rfl) fun args cs n K r g => by
 unfold ref11_Eval.spec at g
 dsimp only [lcSt] at g
 split at g
 · rename_i a0 a1 a2 a3 a4 a5 a6 a7 c0 c1 c2 c3 c4
   obtain ⟨v,h,h2⟩ := bind2 g
   clear g
   refine okG h2 ?_
   clear h2
   unfold evalW at h
   obtain ⟨c,h1,h2⟩ := bind2 h
   refine ⟨0,?_⟩
   rw [ref11_Eval.top,h1]
   simp only [Option.bind_some]
   cases c with
   | false =>
    rw [if_neg (by decide)] at h2
    obtain rfl := Option.some.inj h2
    rfl
   | true =>
    rw [if_pos rfl] at h2
    have h3 : ofW c2 c3 (big a7) (nd a0 a1 a2 a3 a4 a5 a6 a7) = some v := h2
    rw [if_neg (by decide),h3]
    rfl
 · cases g
theorem ref11_Holds.ok : AllOk specs_ref11_Holds := okS (cx := cx_ref11_Holds) rfl ref11_Eval.ok (by kernel_rfl) fun args cs n K r g => by
 unfold ref11_Holds.spec at g
 dsimp only [lcSt] at g
 split at g
 · rename_i s c0 c1 c2 c3 c4
   obtain ⟨v,h,h2⟩ := bind2 g
   clear g
   refine okG h2 ?_
   clear h2
   unfold holdsW at h
   refine ⟨0,?_⟩
   rw [ref11_Holds.top]
   split at h
   · rename_i hs
     obtain rfl := Option.some.inj h
     rw [if_pos hs]
   · rename_i hs
     rw [if_neg hs]
     obtain ⟨p,h1,h2⟩ := bind2 h
     rw [h1]
     simp only [Option.bind_some,nd_y]
     split at h2
     · rename_i hp
       rw [if_neg (by simp [hp])]
       obtain ⟨u,h3,h4⟩ := bind2 h2
       obtain rfl := Option.some.inj h4
       rw [h3,Option.bind_some]
       unfold finR
       cases hu : u.2.2.2.2 with
       | false => rfl
       | true =>
        have e : (if True then u.1 == 2 && (u.2.1 == 0 && (u.2.2.1 == true && (seq u.2.2.2.1 (ByteArray.mk #[]) && true))) else false) = (true && (decide (u.1 = 2) && (decide (u.2.1 = 0) && (u.2.2.1 && seq u.2.2.2.1 (ByteArray.mk #[]))))) := by
         rw [Bool.eq_iff_iff]
         simp
        rw [if_pos rfl,e]
     · rename_i hp
       obtain rfl := Option.some.inj h2
       rw [if_pos (by simpa using hp)]
 · cases g
theorem law11_awake.ok : AllOk specs_law11_awake := okS (cx := cx_law11_awake) rfl ref11_Holds.ok (by kernel_rfl) fun args cs n K r g => by
 unfold law11_awake.spec at g
 dsimp only [lcSt] at g
 split at g
 · obtain ⟨v,h,h2⟩ := bind2 g
   clear g
   refine okG h2 ?_
   clear h2
   unfold awakeH at h
   refine ⟨0,?_⟩
   rw [law11_awake.top]
   obtain ⟨x,h1,h2⟩ := bind2 h
   rw [h1]
   simp only [Option.bind_some]
   split at h2
   · rename_i hx
     obtain ⟨y,h3,h4⟩ := bind2 h2
     obtain rfl := Option.some.inj h4
     rw [if_pos hx,h3]
     rfl
   · rename_i hx
     obtain rfl := Option.some.inj h2
     rw [if_neg hx]
 · cases g
theorem awakeH_R {v : Bool} (h : awakeH = some v) : (awakeH.bind fun v1 => some (.ret (.bool (if true = true then v1 else false)),lcRet [] [] 0)) = (some (.ret (.bool v),lcRet [] [] 0) : Option (Rr U0)) := by
 rw [h]
 rfl
theorem law_Holds.ok : AllOk specs_law_Holds := okS (cx := cx_law_Holds) rfl law11_awake.ok (by kernel_rfl) fun args cs n K r g => by
 unfold law_Holds.spec at g
 dsimp only [lcSt] at g
 split at g
 · rename_i s c0 c1 c2 c3 c4
   obtain ⟨v,h,h2⟩ := bind2 g
   clear g
   refine okG h2 ?_
   clear h2
   unfold lawH at h
   refine ⟨0,?_⟩
   rw [law_Holds.top]
   split at h
   · rename_i hs
     rw [if_pos hs]
     simp only [Option.bind_some]
     split at h
     · rename_i hc
       obtain ⟨x,h1,h2⟩ := bind2 h
       obtain ⟨y,h3,h4⟩ := bind2 h2
       rw [if_neg (by simp [hc]),h1,h3]
       simp only [Option.bind_some]
       split at h4
       · rename_i hxy
         rw [if_pos (by simp [hxy])]
         exact awakeH_R h4
       · rename_i hxy
         obtain rfl := Option.some.inj h4
         rw [if_neg (by simp [hxy])]
     · rename_i hc
       rw [if_pos (by simpa using hc)]
       exact awakeH_R h
   · cases h
 · cases g
end Go.Proofs.YtbcpnpbkbndkjaaGreatDoor.Ev
end
section
/- The two parsers tell the same of a list of words that ends. -/
set_option linter.unusedVariables false
set_option linter.unusedSimpArgs false
namespace Go.Proofs.YtbcpnpbkbndkjaaGreatDoor.Ev
open Go Go.RowKit Go.Proofs.YtbcpnpbkbndkjaaGreatDoorW.PrintWords
/-- Words that an end ends. -/
def Wf : List Wd → Prop
 | [] => False
 | w :: r => (w.2.1.size ≤ 400 ∧ (-9223372036854775808 ≤ w.2.2 ∧ w.2.2 < 9223372036854775808)) ∧ ((r = [] ∧ w.1 = 0) ∨ Wf r)
theorem Wf.cons {l : List Wd} (h : Wf l) : ∃ w r,l = w :: r ∧ w.2.1.size ≤ 400 ∧ (w.1 ≠ 0 → Wf r) := by
 cases l with
 | nil => cases h
 | cons w r =>
  refine ⟨w,r,rfl,h.1.1,fun h0 => ?_⟩
  rcases h.2 with ⟨_,h1⟩ | h1
  · exact absurd h1 h0
  · exact h1
theorem isW_ne {s : ByteArray} {w : Wd} (h : isW s w = true) : w.1 ≠ 0 := by
 unfold isW at h
 intro h0
 rw [h0] at h
 simp at h
theorem take_rel {l : List Wd} (h : Wf l) (s : ByteArray) : (∃ r,takeP s l = some (true,r) ∧ (∀ q,takeR s l q = some (true,r,q)) ∧ Wf r ∧ r.length + 1 = l.length) ∨ (takeP s l = some (false,l) ∧ ∀ q,takeR s l q = some (false,l,q)) := by
 obtain ⟨w,r,rfl,h1,h2⟩ := h.cons
 by_cases hw : isW s w = true
 · exact .inl ⟨r,by simp [takeP,nth,hw],fun q => by simp [takeR,nth,hw],h2 (isW_ne hw),rfl⟩
 · exact .inr ⟨by simp [takeP,nth,hw],fun q => by simp [takeR,nth,hw]⟩
theorem name_rel {l : List Wd} (h : Wf l) : (∃ t r,nameP l = some (true,t,r) ∧ (∀ q,nameR l q = some (t,r,q)) ∧ Wf r ∧ r.length + 1 = l.length ∧ t.size ≤ 400) ∨ (nameP l = some (false,⟨#[]⟩,l) ∧ ∀ q,nameR l q = some (⟨#[]⟩,l,true)) := by
 obtain ⟨w,r,rfl,h1,h2⟩ := h.cons
 by_cases hw : w.1 = 1 ∧ kwP w.2.1 = false
 · exact .inl ⟨w.2.1,r,by simp [nameP,nth,hw],fun q => by simp [nameR,nth,hw],h2 (by rw [hw.1]; decide),rfl,h1⟩
 · refine .inr ⟨?_,fun q => ?_⟩
   · unfold nameP; simp only [nth,Option.bind_some]; rw [if_neg hw]
   · unfold nameR; simp only [nth,Option.bind_some]; rw [if_neg hw]
abbrev dot : ByteArray := (⟨#[46]⟩ : ByteArray)
theorem join_snoc (x : List (List UInt8)) (hx : x ≠ []) (a sep : List UInt8) : Lib.join (x ++ [a]) sep = Lib.join x sep ++ (sep ++ a) := by
 cases x with
 | nil => exact absurd rfl hx
 | cons b r =>
  rw [List.cons_append,Lib.join_cons,Lib.join_cons]
  unfold Lib.joinTail
  simp
theorem joinF_snoc {x : List ByteArray} {t : ByteArray} (hx : x ≠ []) (h : Q.strings_Join.f x dot = some t) (a : ByteArray) (hl : x.length ≤ 1000) (ht : t.size ≤ 1000000) (ha : a.size ≤ 400) : Q.strings_Join.f (x ++ [a]) dot = some (t ++ (dot ++ a)) := by
 unfold Q.strings_Join.f at h ⊢
 have e : Lib.join ((x ++ [a]).map (·.data.toList)) dot.data.toList = Lib.join (x.map (·.data.toList)) dot.data.toList ++ (dot.data.toList ++ a.data.toList) := by
  rw [List.map_append,List.map_cons,List.map_nil,join_snoc]
  intro q
  exact hx (List.map_eq_nil_iff.1 q)
 rw [e]
 split at h
 · rename_i hc
   have h' := Option.some.inj h
   have hz : (Lib.join (x.map (·.data.toList)) dot.data.toList).length = t.size := by rw [← h']; rfl
   have hd : dot.data.toList.length = 1 := rfl
   have hb : a.data.toList.length = a.size := rfl
   rw [if_pos ⟨by simp; omega,by rw [List.length_append,List.length_append,hz,hd,hb]; omega⟩]
   rw [← h']
   congr 1
   first | done | (apply ByteArray.ext; rw [ByteArray.data_append,ByteArray.data_append]; apply Array.ext'; simp)
 · cases h
theorem more_rel : ∀ (k : Nat) (l : List Wd) (x : List ByteArray) (t : ByteArray),Wf l → l.length < k → Q.strings_Join.f x dot = some t → x ≠ [] → t.size ≤ 401 * x.length → x.length + l.length ≤ 1000 →
 (∃ y t' r,moreP k x l = some (true,y,r) ∧ Q.strings_Join.f y dot = some t' ∧ moreR k t l false = some (t',r,false) ∧ Wf r ∧ r.length ≤ l.length ∧ t'.size ≤ 401000) ∨
 (∃ y r t' r',moreP k x l = some (false,y,r) ∧ moreR k t l false = some (t',r',true) ∧ Wf r' ∧ r'.length ≤ l.length) := by
 intro k
 induction k with
 | zero => intro l x t _ h; omega
 | succ k ih =>
  intro l x t hw hk hj hx ht hn
  rcases take_rel hw dot with ⟨r,h1,h2,h3,h4⟩ | ⟨h1,h2⟩
  · rcases name_rel h3 with ⟨a,r2,g1,g2,g3,g4,g5⟩ | ⟨g1,g2⟩
    · have hm : (x.length + [a].length) * 16 ≤ most := by unfold most; simp; omega
      have hd : ((⟨#[46]⟩ : ByteArray) : ByteArray).size = 1 := rfl
      have hs : (((⟨#[46]⟩ : ByteArray) : ByteArray) ++ a).size = 1 + a.size := by rw [ByteArray.size_append,hd]
      have hta : (t ++ (((⟨#[46]⟩ : ByteArray) : ByteArray) ++ a)).size = t.size + (1 + a.size) := by rw [ByteArray.size_append,hs]
      have e1 : moreP (k + 1) x l = moreP k (x ++ [a]) r2 := by rw [moreP,h1]; simp only [Option.bind_some,if_true,g1]; rw [if_pos hm]
      have e2 : moreR (k + 1) t l false = moreR k (t ++ (((⟨#[46]⟩ : ByteArray) : ByteArray) ++ a)) r2 false := by
       rw [moreR,if_neg (by decide),h2]; simp only [Option.bind_some,if_true,g2]
       rw [if_pos (by rw [hd]; omega),if_pos (by rw [hs]; omega)]
      rw [e1,e2]
      rcases ih r2 (x ++ [a]) (t ++ (dot ++ a)) g3 (by omega) (joinF_snoc hx hj a (by omega) (by omega) g5) (by simp) (by rw [hta]; simp; omega) (by simp; omega) with ⟨y,t',r',q1,q2,q3,q4,q5,q6⟩ | ⟨y,r',t',r'',q1,q2,q3,q4⟩
      · exact .inl ⟨y,t',r',q1,q2,q3,q4,by omega,q6⟩
      · exact .inr ⟨y,r',t',r'',q1,q2,q3,by omega⟩
    · have hd : ((⟨#[46]⟩ : ByteArray) : ByteArray).size = 1 := rfl
      obtain ⟨k',rfl⟩ : ∃ k',k = k' + 1 := ⟨k - 1,by have := h3.cons; obtain ⟨_,_,rfl,_⟩ := this; simp at h4; omega⟩
      refine .inr ⟨[],r,t ++ (((⟨#[46]⟩ : ByteArray) : ByteArray) ++ ⟨#[]⟩),r,?_,?_,h3,by omega⟩
      · rw [moreP,h1]; simp only [Option.bind_some,if_true,g1]; rfl
      · rw [moreR,if_neg (by decide),h2]; simp only [Option.bind_some,if_true,g2]
        rw [if_pos (by rw [hd]; decide),if_pos (by rw [ByteArray.size_append,hd]; show t.size + (1 + 0) ≤ _; omega),moreR,if_pos rfl]
  · refine .inl ⟨x,t,l,?_,hj,?_,hw,Nat.le_refl _,by omega⟩
    · rw [moreP,h1]; simp
    · rw [moreR,if_neg (by decide),h2]; simp
theorem path_rel {l : List Wd} (hw : Wf l) (hn : l.length ≤ 500) :
 (∃ t r,pathQ l = some (true,t,r) ∧ pathRQ l false = some (t,r,false) ∧ Wf r ∧ r.length < l.length ∧ t.size ≤ 401000) ∨
 (∃ t r t' r',pathQ l = some (false,t,r) ∧ pathRQ l false = some (t',r',true) ∧ Wf r' ∧ r'.length ≤ l.length) := by
 unfold pathQ pathP pathRQ pathR
 rcases name_rel hw with ⟨a,r,g1,g2,g3,g4,g5⟩ | ⟨g1,g2⟩
 · rw [g1,g2]
   simp only [Option.bind_some,if_true]
   have hj : Q.strings_Join.f [a] dot = some a := by
    unfold Q.strings_Join.f
    rw [show List.map (fun b : ByteArray => b.data.toList) [a] = [a.data.toList] from rfl,Lib.join_one]
    rw [if_pos ⟨by simp,by show a.size ≤ _; omega⟩]
   rcases more_rel (l.length + 1) r [a] a g3 (by omega) hj (by simp) (by simp; omega) (by simp; omega) with ⟨y,t',r',q1,q2,q3,q4,q5,q6⟩ | ⟨y,r',t',r'',q1,q2,q3,q4⟩
   · exact .inl ⟨t',r',by rw [q1]; simp only [Option.bind_some,if_true]; rw [q2]; rfl,q3,q4,by omega,q6⟩
   · exact .inr ⟨_,_,t',r'',by rw [q1]; simp only [Option.bind_some]; rfl,q2,q3,by omega⟩
 · rw [g1,g2]
   simp only [Option.bind_some]
   exact .inr ⟨_,_,⟨#[]⟩,l,rfl,by rw [moreR,if_pos rfl],hw,Nat.le_refl _⟩
/-! ### trees -/
inductive Small : Node → Prop
 | mk (n : Node) : n.x.2.2.2.2.length ≤ 2 → (n.x.2.1.2.2.2.size ≤ 900000 ∧ (-9223372036854775808 ≤ n.x.2.1.2.1 ∧ n.x.2.1.2.1 < 9223372036854775808)) → n.x.2.2.1.size ≤ 900000 → (∀ m ∈ n.x.2.2.2.2,Small m) → Small n
theorem small_nd {op a b j : Int} {c : Bool} {t s : ByteArray} {ks : List Node} (ht : t.size ≤ 900000) (hs : s.size ≤ 900000) (h1 : ks.length ≤ 2) (h2 : ∀ m ∈ ks,Small m) (hb : -9223372036854775808 ≤ b ∧ b < 9223372036854775808 := by decide) : Small (nd op a b c t s j ks) := .mk _ h1 ⟨ht,hb⟩ hs h2
theorem small0 {op a b j : Int} {c : Bool} {t s : ByteArray} (ht : t.size ≤ 900000) (hs : s.size ≤ 900000) (hb : -9223372036854775808 ≤ b ∧ b < 9223372036854775808 := by decide) : Small (nd op a b c t s j []) := small_nd ht hs (by simp) (fun _ h => by cases h) hb
theorem size0 : ((⟨#[]⟩ : ByteArray) : ByteArray).size ≤ 900000 := by decide
theorem small1 {op a b j : Int} {c : Bool} {n : Node} (h : Small n) (hb : -9223372036854775808 ≤ b ∧ b < 9223372036854775808 := by decide) : Small (nd op a b c (⟨#[]⟩ : ByteArray) (⟨#[]⟩ : ByteArray) j [n]) := small_nd size0 size0 (by simp) (fun m hm => by rw [List.mem_singleton.1 hm]; exact h) hb
theorem small2 {op a b j : Int} {c : Bool} {n m : Node} (h : Small n) (h' : Small m) (hb : -9223372036854775808 ≤ b ∧ b < 9223372036854775808 := by decide) : Small (nd op a b c (⟨#[]⟩ : ByteArray) (⟨#[]⟩ : ByteArray) j [n,m]) := small_nd size0 size0 (by simp) (fun x hx => by
 rcases List.mem_cons.1 hx with rfl | hx
 · exact h
 · rw [List.mem_singleton.1 hx]; exact h') hb
theorem kids_lt (n : Node) : SizeOf.sizeOf n.x.2.2.2.2 < SizeOf.sizeOf n := by
 obtain ⟨op,p,s,j,ks⟩ := n
 show SizeOf.sizeOf ks < _
 simp
 omega
theorem mem_lt {n : Node} {l : List Node} (h : n ∈ l) : SizeOf.sizeOf n.x.2.2.2.2 < SizeOf.sizeOf l := Nat.lt_trans (kids_lt n) (List.sizeOf_lt_of_mem h)
theorem deepL_some {D : Node → Option Int} : ∀ (l : List Node) (d : Int),(∀ n ∈ l,∃ e,D n = some e) → ∃ e,deepL D l d = some e
 | [],d,_ => ⟨_,rfl⟩
 | n :: r,d,h => by
  obtain ⟨e,he⟩ := h n (List.mem_cons_self ..)
  rw [deepL,he]
  exact deepL_some r _ fun m hm => h m (List.mem_cons_of_mem _ hm)
theorem deep_some : ∀ (k : Nat) (l : List Node),l.length ≤ 2 → (∀ m ∈ l,Small m) → SizeOf.sizeOf l < k → ∃ d,deepP k l = some d
 | 0,l,_,_,h => absurd h (Nat.not_lt_zero _)
 | k + 1,l,h1,h2,h => by
  rw [deepP,if_pos (by omega)]
  refine deepL_some l 0 fun n hn => ?_
  cases h2 n hn with
  | mk _ h3 _ _ h4 => exact deep_some k _ h3 h4 (by have := mem_lt hn; omega)
/-! ### the grammar -/
def Rel (a : PR Node) (b : RR Node) (n : Nat) : Prop := (∃ x r,a = some (true,x,r) ∧ b = some (x,r,false) ∧ Wf r ∧ r.length < n ∧ Small x) ∨ (∃ x r y s,a = some (false,x,r) ∧ b = some (y,s,true) ∧ Wf s ∧ s.length ≤ n)
theorem Rel.le {a : PR Node} {b : RR Node} {n m : Nat} (h : Rel a b n) (hm : n ≤ m) : Rel a b m := by
 rcases h with ⟨x,r,h1,h2,h3,h4,h5⟩ | ⟨x,r,y,s,h1,h2,h3,h4⟩
 · exact .inl ⟨x,r,h1,h2,h3,by omega,h5⟩
 · exact .inr ⟨x,r,y,s,h1,h2,h3,by omega⟩
theorem need_rel {l : List Wd} (h : Wf l) (s : ByteArray) : (∃ r,takeP s l = some (true,r) ∧ (∀ q,needR s l q = some (r,q)) ∧ Wf r ∧ r.length + 1 = l.length) ∨ (takeP s l = some (false,l) ∧ ∀ q,needR s l q = some (l,true)) := by
 rcases take_rel h s with ⟨r,h1,h2,h3,h4⟩ | ⟨h1,h2⟩
 · exact .inl ⟨r,h1,fun q => by rw [needR,h2]; rfl,h3,h4⟩
 · exact .inr ⟨h1,fun q => by rw [needR,h2]; rfl⟩
theorem need_bad {l : List Wd} (h : Wf l) (s : ByteArray) : ∃ r,needR s l true = some (r,true) ∧ Wf r ∧ r.length ≤ l.length := by
 rcases need_rel h s with ⟨r,h1,h2,h3,h4⟩ | ⟨h1,h2⟩
 · exact ⟨r,h2 _,h3,by omega⟩
 · exact ⟨l,h2 _,h,Nat.le_refl _⟩
theorem name_bad {l : List Wd} (h : Wf l) : ∃ t r,nameR l true = some (t,r,true) ∧ Wf r ∧ r.length ≤ l.length := by
 rcases name_rel h with ⟨a,r,g1,g2,g3,g4,g5⟩ | ⟨g1,g2⟩
 · exact ⟨a,r,g2 _,g3,by omega⟩
 · exact ⟨_,l,g2 _,h,Nat.le_refl _⟩
theorem path_bad {l : List Wd} (h : Wf l) : ∃ t r,pathRQ l true = some (t,r,true) ∧ Wf r ∧ r.length ≤ l.length := by
 obtain ⟨t,r,h1,h2,h3⟩ := name_bad h
 exact ⟨t,r,by rw [pathRQ,pathR,h1]; simp only [Option.bind_some]; rw [moreR,if_pos rfl],h2,h3⟩
theorem opo_rel0 {own : Int} {l : List Wd} (h : Wf l) : ∀ (L : List (Int × Int × ByteArray)),(∀ x ∈ L,tightP x.1 = x.2.1 ∧ signP x.1 = x.2.2 ∧ 0 < x.1) → (∃ o r,opP own L l = some (o,true,r) ∧ opR own (L.map (·.1)) l = some o ∧ 0 < o ∧ r = l.drop 1 ∧ Wf r ∧ r.length + 1 = l.length) ∨ (opP own L l = some (0,false,l) ∧ opR own (L.map (·.1)) l = some 0)
 | [],_ => .inr ⟨rfl,rfl⟩
 | x :: L,hL => by
  obtain ⟨e1,e2,e3⟩ := hL x (List.mem_cons_self ..)
  have ih := opo_rel0 (own := own) h L fun y hy => hL y (List.mem_cons_of_mem _ hy)
  rw [List.map_cons,opP,opR,e1,e2]
  by_cases hx : x.2.1 = own
  · rw [if_pos hx,if_pos hx]
    obtain ⟨w,r,rfl,h1,h2⟩ := h.cons
    by_cases hw : isW x.2.2 w = true
    · exact .inl ⟨x.1,r,by simp [takeP,nth,hw],by simp [atP,nth,hw],e3,rfl,h2 (isW_ne hw),rfl⟩
    · have e4 : takeP x.2.2 (w :: r) = some (false,w :: r) := by simp [takeP,nth,hw]
      have e5 : atP x.2.2 (w :: r) = some false := by simp [atP,nth,hw]
      rw [e4,e5]
      simp only [Option.bind_some,Bool.false_eq_true,if_false]
      exact ih
  · rw [if_neg hx,if_neg hx]
    exact ih
theorem opo_rel {own : Int} {l : List Wd} (h : Wf l) : (∃ o r,opP own opsL l = some (o,true,r) ∧ opR own opsR l = some o ∧ 0 < o ∧ r = l.drop 1 ∧ Wf r ∧ r.length + 1 = l.length) ∨ (opP own opsL l = some (0,false,l) ∧ opR own opsR l = some 0) :=
 opo_rel0 h opsL (by decide +kernel)
theorem wf_pos {l : List Wd} (h : Wf l) : 0 < l.length := by obtain ⟨_,_,rfl,_⟩ := h.cons; simp
theorem opR_some {own : Int} {l : List Wd} (h : Wf l) : ∃ o,opR own opsR l = some o := by
 rcases opo_rel (own := own) h with ⟨o,r,_,h2,_⟩ | ⟨_,h2⟩
 · exact ⟨_,h2⟩
 · exact ⟨_,h2⟩
theorem loop_rel {E : Int → List Wd → PR Node} {E' : Int → List Wd → Bool → RR Node} {own : Int} : ∀ (m : Nat) (n : Node) (l : List Wd),Wf l → l.length ≤ m → Small n → (∀ r,Wf r → r.length < l.length → Rel (E (IntKind.i64.wrap (own + 1)) r) (E' (IntKind.i64.wrap (own + 1)) r false) r.length) →
 Rel (loopP E own (m + 1) n l) ((opR own opsR l).bind fun o => loopR E' own (m + 1) o n l false) (l.length + 1)
 | m,n,l,hw,hm,hn,hE => by
  rcases opo_rel (own := own) hw with ⟨o,r,h1,h2,h3,h4,h5,h6⟩ | ⟨h1,h2⟩
  · rw [loopP,h1,h2]
    simp only [Option.bind_some,if_true]
    obtain ⟨w,r',rfl,_,_⟩ := hw.cons
    obtain rfl : r = r' := h4
    have e0 : nth (w :: r) 0 = some w := by simp [nth]
    rw [loopR,if_pos ⟨h3,rfl⟩,e0]
    simp only [Option.bind_some,List.drop_succ_cons,List.drop_zero]
    rcases hE r h5 (by omega) with ⟨x,s,g1,g2,g3,g4,g5⟩ | ⟨x,s,y,s',g1,g2,g3,g4⟩
    · rw [thenP,g1,g2]
      simp only [Option.bind_some,if_true]
      by_cases ho : own = 4
      · rw [if_pos ho,if_pos ho]
        exact .inl ⟨_,s,rfl,rfl,g3,by omega,small2 hn g5⟩
      · rw [if_neg ho,if_neg ho]
        obtain ⟨m',rfl⟩ : ∃ m',m = m' + 1 := ⟨m - 1,by have := wf_pos g3; omega⟩
        exact (loop_rel m' _ s g3 (by omega) (small2 hn g5) fun r hr hl => hE r hr (by omega)).le (by omega)
    · rw [thenP,g1,g2]
      simp only [Option.bind_some,Bool.false_eq_true,if_false]
      by_cases ho : own = 4
      · rw [if_pos ho]
        exact .inr ⟨_,_,_,s',rfl,rfl,g3,by omega⟩
      · rw [if_neg ho]
        obtain ⟨o',h7⟩ := opR_some (own := own) g3
        rw [h7]
        simp only [Option.bind_some]
        obtain ⟨m',rfl⟩ : ∃ m',m = m' + 1 := ⟨m - 1,by have := wf_pos g3; omega⟩
        rw [loopR,if_neg (by simp)]
        exact .inr ⟨_,_,_,s',rfl,rfl,g3,by omega⟩
  · rw [loopP,h1,h2]
    simp only [Option.bind_some,Bool.false_eq_true,if_false]
    rw [loopR,if_neg (by simp)]
    exact .inl ⟨n,l,rfl,rfl,hw,Nat.lt_succ_self _,hn⟩
theorem bin_rel {E : Int → List Wd → PR Node} {E' : Int → List Wd → Bool → RR Node} {own : Int} {l : List Wd} (h0 : Rel (E (IntKind.i64.wrap (own + 1)) l) (E' (IntKind.i64.wrap (own + 1)) l false) l.length) (hE : ∀ r,Wf r → r.length < l.length → Rel (E (IntKind.i64.wrap (own + 1)) r) (E' (IntKind.i64.wrap (own + 1)) r false) r.length) :
 Rel (exprB E own l) ((E' (IntKind.i64.wrap (own + 1)) l false).bind fun b => (opR own opsR b.2.1).bind fun o => loopR E' own (b.2.1.length + 1) o b.1 b.2.1 b.2.2) l.length := by
 unfold exprB thenP
 rcases h0 with ⟨x,r,h1,h2,h3,h4,h5⟩ | ⟨x,r,y,s,h1,h2,h3,h4⟩
 · rw [h1,h2]
   simp only [Option.bind_some,if_true]
   exact (loop_rel r.length x r h3 (Nat.le_refl _) h5 fun t ht hl => hE t ht (by omega)).le h4
 · rw [h1,h2]
   simp only [Option.bind_some,Bool.false_eq_true,if_false]
   obtain ⟨o',h7⟩ := opR_some (own := own) h3
   rw [h7]
   simp only [Option.bind_some]
   rw [loopR,if_neg (by simp)]
   exact .inr ⟨_,_,_,s,rfl,rfl,h3,h4⟩
theorem prt_rel {E : Int → List Wd → PR Node} {E' : Int → List Wd → Bool → RR Node} {l : List Wd} (hw : Wf l) (hn : l.length ≤ 500) (hE : ∀ r,Wf r → r.length < l.length → Rel (E 1 r) (E' 1 r false) r.length) : Rel (partP E l) (partR E' l false) l.length := by
 obtain ⟨w,r0,hl,h1,h2⟩ := hw.cons
 have e0 : nth l 0 = some w := by rw [hl]; simp [nth]
 have ed : l.drop 1 = r0 := by rw [hl]; rfl
 have el : r0.length + 1 = l.length := by rw [hl]; rfl
 have hnum : -9223372036854775808 ≤ w.2.2 ∧ w.2.2 < 9223372036854775808 := by have := hw; rw [hl] at this; exact this.1.2
 unfold partP partR
 rw [e0]
 simp only [Option.bind_some]
 by_cases hw2 : w.1 = 2
 · rw [if_pos hw2,if_pos hw2,ed]
   exact .inl ⟨_,r0,rfl,rfl,h2 (by rw [hw2]; decide),by omega,small0 size0 size0 hnum⟩
 rw [if_neg hw2,if_neg hw2]
 by_cases hw3 : w.1 = 3
 · rw [if_pos hw3,if_pos hw3,ed]
   exact .inl ⟨_,r0,rfl,rfl,h2 (by rw [hw3]; decide),by omega,small0 (by omega) size0⟩
 rw [if_neg hw3,if_neg hw3]
 rcases take_rel hw (⟨#[116,114,117,101]⟩ : ByteArray) with ⟨r,g1,g2,g3,g4⟩ | ⟨g1,g2⟩
 · rw [g1,g2]
   exact .inl ⟨_,r,rfl,rfl,g3,by omega,small0 size0 size0⟩
 rw [g1,g2]
 simp only [Option.bind_some,Bool.false_eq_true,if_false]
 rcases take_rel hw (⟨#[102,97,108,115,101]⟩ : ByteArray) with ⟨r,g1,g2,g3,g4⟩ | ⟨g1,g2⟩
 · rw [g1,g2]
   exact .inl ⟨_,r,rfl,rfl,g3,by omega,small0 size0 size0⟩
 rw [g1,g2]
 simp only [Option.bind_some,Bool.false_eq_true,if_false]
 rcases take_rel hw (⟨#[40]⟩ : ByteArray) with ⟨r,g1,g2,g3,g4⟩ | ⟨g1,g2⟩
 · rw [g1,g2]
   simp only [Option.bind_some,if_true]
   rcases hE r g3 (by omega) with ⟨x,s,q1,q2,q3,q4,q5⟩ | ⟨x,s,y,s',q1,q2,q3,q4⟩
   · rw [thenP,q1,q2]
     simp only [Option.bind_some,if_true]
     rcases need_rel q3 (⟨#[41]⟩ : ByteArray) with ⟨u,p1,p2,p3,p4⟩ | ⟨p1,p2⟩
     · rw [mustP,p1,p2]
       exact .inl ⟨_,u,rfl,rfl,p3,by omega,q5⟩
     · rw [mustP,p1,p2]
       exact .inr ⟨_,_,_,s,rfl,rfl,q3,by omega⟩
   · rw [thenP,q1,q2]
     simp only [Option.bind_some,Bool.false_eq_true,if_false]
     obtain ⟨u,p1,p2,p3⟩ := need_bad q3 (⟨#[41]⟩ : ByteArray)
     rw [p1]
     exact .inr ⟨_,_,_,u,rfl,rfl,p2,by omega⟩
 rw [g1,g2]
 simp only [Option.bind_some,Bool.false_eq_true,if_false]
 rcases take_rel hw (⟨#[99,111,117,110,116]⟩ : ByteArray) with ⟨r,g1,g2,g3,g4⟩ | ⟨g1,g2⟩
 · rw [g1,g2]
   simp only [Option.bind_some,if_true]
   rcases need_rel g3 (⟨#[40]⟩ : ByteArray) with ⟨u,p1,p2,p3,p4⟩ | ⟨p1,p2⟩
   · rw [mustP,p1,p2]
     simp only [Option.bind_some,if_true]
     rcases path_rel p3 (by omega) with ⟨t,v,q1,q2,q3,q4,q5⟩ | ⟨t,v,t',v',q1,q2,q3,q4⟩
     · rw [thenP,q1,q2]
       simp only [Option.bind_some,if_true]
       rcases need_rel q3 (⟨#[41]⟩ : ByteArray) with ⟨z,n1,n2,n3,n4⟩ | ⟨n1,n2⟩
       · rw [mustP,n1,n2]
         exact .inl ⟨_,z,rfl,rfl,n3,by omega,small0 size0 (by omega)⟩
       · rw [mustP,n1,n2]
         exact .inr ⟨_,_,_,v,rfl,rfl,q3,by omega⟩
     · rw [thenP,q1,q2]
       simp only [Option.bind_some,Bool.false_eq_true,if_false]
       obtain ⟨z,n1,n2,n3⟩ := need_bad q3 (⟨#[41]⟩ : ByteArray)
       rw [n1]
       exact .inr ⟨_,_,_,z,rfl,rfl,n2,by omega⟩
   · rw [mustP,p1,p2]
     simp only [Option.bind_some,Bool.false_eq_true,if_false]
     obtain ⟨t,v,q1,q2,q3⟩ := path_bad g3
     rw [q1]
     simp only [Option.bind_some]
     obtain ⟨z,n1,n2,n3⟩ := need_bad q2 (⟨#[41]⟩ : ByteArray)
     rw [n1]
     exact .inr ⟨_,_,_,z,rfl,rfl,n2,by omega⟩
 rw [g1,g2]
 simp only [Option.bind_some,Bool.false_eq_true,if_false]
 rcases take_rel hw (⟨#[110,117,109,98,101,114]⟩ : ByteArray) with ⟨r,g1,g2,g3,g4⟩ | ⟨g1,g2⟩
 · rw [g1,g2]
   simp only [Option.bind_some,if_true]
   have bad2 : ∀ (t : ByteArray) (l' : List Wd),Wf l' → l'.length ≤ l.length → ∃ y s,((nameR l' true).bind fun d => (needR (⟨#[41]⟩ : ByteArray) d.2.1 (if d.2.2 = true then true else !decide (1 ≤ stP d.1))).bind fun c => some (nd 4 0 0 false (⟨#[]⟩ : ByteArray) t (stP d.1) [],c)) = some (y,s,true) ∧ Wf s ∧ s.length ≤ l.length := by
    intro t l' hl' hn'
    obtain ⟨t2,v2,q1,q2,q3⟩ := name_bad hl'
    rw [q1]
    simp only [Option.bind_some,if_true]
    obtain ⟨z,n1,n2,n3⟩ := need_bad q2 (⟨#[41]⟩ : ByteArray)
    rw [n1]
    exact ⟨_,z,rfl,n2,by omega⟩
   have bad1 : ∀ (t : ByteArray) (l' : List Wd),Wf l' → l'.length ≤ l.length → ∃ y s,((needR (⟨#[44]⟩ : ByteArray) l' true).bind fun c => (nameR c.1 c.2).bind fun d => (needR (⟨#[41]⟩ : ByteArray) d.2.1 (if d.2.2 = true then true else !decide (1 ≤ stP d.1))).bind fun c => some (nd 4 0 0 false (⟨#[]⟩ : ByteArray) t (stP d.1) [],c)) = some (y,s,true) ∧ Wf s ∧ s.length ≤ l.length := by
    intro t l' hl' hn'
    obtain ⟨z,n1,n2,n3⟩ := need_bad hl' (⟨#[44]⟩ : ByteArray)
    rw [n1]
    exact bad2 t z n2 (by omega)
   rcases need_rel g3 (⟨#[40]⟩ : ByteArray) with ⟨u,p1,p2,p3,p4⟩ | ⟨p1,p2⟩
   · rw [mustP,p1,p2]
     simp only [Option.bind_some,if_true]
     rcases name_rel p3 with ⟨t,v,q1,q2,q3,q4,q5⟩ | ⟨q1,q2⟩
     · rw [thenP,q1,q2]
       simp only [Option.bind_some,if_true]
       rcases need_rel q3 (⟨#[44]⟩ : ByteArray) with ⟨z,n1,n2,n3,n4⟩ | ⟨n1,n2⟩
       · rw [mustP,n1,n2]
         simp only [Option.bind_some,if_true]
         rcases name_rel n3 with ⟨t',v',m1,m2,m3,m4,m5⟩ | ⟨m1,m2⟩
         · rw [thenP,m1,m2]
           simp only [Option.bind_some,if_true,Bool.false_eq_true,if_false]
           by_cases hs : 1 ≤ stP t'
           · rw [if_pos hs]
             rcases need_rel m3 (⟨#[41]⟩ : ByteArray) with ⟨z',k1,k2,k3,k4⟩ | ⟨k1,k2⟩
             · rw [mustP,k1,k2]
               exact .inl ⟨_,z',rfl,by simp [hs],k3,by omega,small0 size0 (by omega)⟩
             · rw [mustP,k1,k2]
               exact .inr ⟨_,_,_,v',rfl,rfl,m3,by omega⟩
           · rw [if_neg hs]
             rw [show (!decide (1 ≤ stP t')) = true by simp [hs]]
             obtain ⟨z',k1,k2,k3⟩ := need_bad m3 (⟨#[41]⟩ : ByteArray)
             rw [k1]
             exact .inr ⟨_,_,_,z',rfl,rfl,k2,by omega⟩
         · rw [thenP,m1,m2]
           simp only [Option.bind_some,if_true,Bool.false_eq_true,if_false]
           obtain ⟨z',k1,k2,k3⟩ := need_bad n3 (⟨#[41]⟩ : ByteArray)
           rw [k1]
           exact .inr ⟨_,_,_,z',rfl,rfl,k2,by omega⟩
       · rw [mustP,n1,n2]
         simp only [Option.bind_some,Bool.false_eq_true,if_false]
         obtain ⟨y,s,k1,k2,k3⟩ := bad2 t v q3 (by omega)
         exact .inr ⟨_,_,y,s,rfl,k1,k2,k3⟩
     · rw [thenP,q1,q2]
       simp only [Option.bind_some,Bool.false_eq_true,if_false]
       obtain ⟨y,s,k1,k2,k3⟩ := bad1 _ u p3 (by omega)
       exact .inr ⟨_,_,y,s,rfl,k1,k2,k3⟩
   · rw [mustP,p1,p2]
     simp only [Option.bind_some,Bool.false_eq_true,if_false]
     obtain ⟨t,v,q1,q2,q3⟩ := name_bad g3
     rw [q1]
     simp only [Option.bind_some]
     obtain ⟨y,s,k1,k2,k3⟩ := bad1 t v q2 (by omega)
     exact .inr ⟨_,_,y,s,rfl,k1,k2,k3⟩
 rw [g1,g2]
 simp only [Option.bind_some,Bool.false_eq_true,if_false]
 rcases path_rel hw hn with ⟨t,v,q1,q2,q3,q4,q5⟩ | ⟨t,v,t',v',q1,q2,q3,q4⟩
 · rw [thenP,q1,q2]
   exact .inl ⟨_,v,rfl,rfl,q3,q4,small0 size0 (show t.size ≤ 900000 by omega)⟩
 · rw [thenP,q1,q2]
   exact .inr ⟨_,_,_,v',rfl,rfl,q3,q4⟩
theorem wrap_small {n : Int} (h : 1 ≤ n) (h' : n ≤ 7) : IntKind.i64.wrap (n + 1) = n + 1 := by
 have hc : n = 1 ∨ n = 2 ∨ n = 3 ∨ n = 4 ∨ n = 5 ∨ n = 6 ∨ n = 7 := by omega
 rcases hc with rfl | rfl | rfl | rfl | rfl | rfl | rfl <;> decide +kernel
theorem expr_rel : ∀ (M : Nat) (own : Int) (l : List Wd) (k k' : Nat),Wf l → l.length ≤ 500 → 1 ≤ own → own ≤ 7 → 9 * l.length + (8 - own.toNat) ≤ M → M < k → M < k' → Rel (exprP k own l) (looseR k' own l false) l.length := by
 intro M
 induction M using Nat.strongRecOn with
 | ind M ih =>
  intro own l k k' hw hn ho1 ho2 hM hk hk'
  have hp := wf_pos hw
  obtain ⟨k,rfl⟩ : ∃ j,k = j + 1 := ⟨k - 1,by omega⟩
  obtain ⟨k',rfl⟩ : ∃ j,k' = j + 1 := ⟨k' - 1,by omega⟩
  obtain ⟨k1,rfl⟩ : ∃ j,k' = j + 1 := ⟨k' - 1,by omega⟩
  rw [exprP,looseR,if_neg (show ¬ (false = true) from by decide)]
  by_cases h3 : own = 3
  · subst h3
    rw [if_pos rfl,if_pos rfl]
    rcases take_rel hw (⟨#[110,111,116]⟩ : ByteArray) with ⟨r,g1,g2,g3,g4⟩ | ⟨g1,g2⟩
    · rw [g1,g2]
      simp only [Option.bind_some,if_true]
      rcases ih (M - 9) (by omega) 3 r k (k1 + 1) g3 (by omega) (by decide) (by decide) (by omega) (by omega) (by omega) with ⟨x,s,q1,q2,q3,q4,q5⟩ | ⟨x,s,y,s',q1,q2,q3,q4⟩
      · rw [thenP,q1,q2]
        exact .inl ⟨_,s,rfl,rfl,q3,by omega,small1 q5⟩
      · rw [thenP,q1,q2]
        exact .inr ⟨_,_,_,s',rfl,rfl,q3,by omega⟩
    · rw [g1,g2]
      simp only [Option.bind_some,Bool.false_eq_true,if_false]
      rw [looseR,if_neg (show ¬ (false = true) from by decide),if_neg (show ¬ ((4 : Int) = 3) from by decide),if_neg (show ¬ ((4 : Int) = 7) from by decide),show IntKind.i64.wrap (3 + 1) = 4 from by decide +kernel]
      refine bin_rel (E := exprP k) (E' := looseR k1) ?_ ?_
      · rw [show IntKind.i64.wrap (4 + 1) = 5 from by decide +kernel]
        exact ih (M - 2) (by omega) 5 l k k1 hw hn (by decide) (by decide) (by omega) (by omega) (by omega)
      · intro r hr hl
        rw [show IntKind.i64.wrap (4 + 1) = 5 from by decide +kernel]
        exact ih (M - 2) (by omega) 5 r k k1 hr (by omega) (by decide) (by decide) (by omega) (by omega) (by omega)
  rw [if_neg h3,if_neg h3]
  by_cases h7 : own = 7
  · subst h7
    rw [if_pos rfl,if_pos rfl]
    rw [factorR,if_neg (show ¬ (false = true) from by decide)]
    rcases take_rel hw (⟨#[45]⟩ : ByteArray) with ⟨r,g1,g2,g3,g4⟩ | ⟨g1,g2⟩
    · rw [g1,g2]
      simp only [Option.bind_some,if_true]
      have e7 : looseR (k1 + 1) 7 r false = factorR k1 r false := by rw [looseR,if_neg (show ¬ (false = true) from by decide),if_neg (show ¬ ((7 : Int) = 3) from by decide),if_pos rfl]
      have := ih (M - 9) (by omega) 7 r k (k1 + 1) g3 (by omega) (by decide) (by decide) (by omega) (by omega) (by omega)
      rw [e7] at this
      rcases this with ⟨x,s,q1,q2,q3,q4,q5⟩ | ⟨x,s,y,s',q1,q2,q3,q4⟩
      · rw [thenP,q1,q2]
        exact .inl ⟨_,s,rfl,rfl,q3,by omega,small1 q5⟩
      · rw [thenP,q1,q2]
        exact .inr ⟨_,_,_,s',rfl,rfl,q3,by omega⟩
    · rw [g1,g2]
      simp only [Option.bind_some,Bool.false_eq_true,if_false]
      exact prt_rel hw hn fun r hr hl => ih (M - 3) (by omega) 1 r k k1 hr (by omega) (by decide) (by decide) (by omega) (by omega) (by omega)
  rw [if_neg h7,if_neg h7]
  have hm : (own + 1).toNat = own.toNat + 1 := by omega
  refine bin_rel (E := exprP k) (E' := looseR (k1 + 1)) ?_ ?_
  · rw [wrap_small ho1 ho2]
    exact ih (M - 1) (by omega) _ l k (k1 + 1) hw hn (by omega) (by omega) (by omega) (by omega) (by omega)
  · intro r hr hl
    rw [wrap_small ho1 ho2]
    exact ih (M - 1) (by omega) _ r k (k1 + 1) hr (by omega) (by omega) (by omega) (by omega) (by omega) (by omega)
/-- What follows the words of a text: both answers are the same, and the trees. -/
theorem both_rel {l : List Wd} (hw : Wf l) (hn : l.length ≤ 500) : Rel (exprP (9 * l.length + 9) 1 l) (looseR (9 * l.length + 9) 1 l false) l.length :=
 expr_rel (9 * l.length + 8) 1 l _ _ hw hn (by decide) (by decide) (by show 9 * l.length + (8 - 1) ≤ _; omega) (by omega) (by omega)
end Go.Proofs.YtbcpnpbkbndkjaaGreatDoor.Ev
end
section
/- Both parsers tell the same of any text. -/
set_option linter.unusedVariables false
set_option linter.unusedSimpArgs false
namespace Go.Proofs.YtbcpnpbkbndkjaaGreatDoor.Ev
open Go Go.RowKit Go.Proofs.YtbcpnpbkbndkjaaGreatDoorW.PrintWords
theorem wf_of : ∀ (l : List Q.S69),Words.Ends l → Wf (l.map fun x : Q.S69 => (x.f0,x.f1,x.f2))
 | [],h => h
 | w :: r,h => by
  refine ⟨⟨h.1.1,h.1.2⟩,?_⟩
  rcases h.2 with ⟨h1,h2⟩ | h1
  · exact .inl ⟨by rw [h1]; rfl,h2⟩
  · exact .inr (wf_of r h1)
noncomputable def parsePof (w : List Q.S69 × Int × Int) : Option (Node × Int) := if w.2.2 = 0 then (exprP (9 * (w.1.map fun x : Q.S69 => (x.f0,x.f1,x.f2)).length + 9) 1 (w.1.map fun x : Q.S69 => (x.f0,x.f1,x.f2))).bind fun v => if v.1 = true then (nth v.2.2 0).bind fun u => if u.1 = 0 then (deepP (big v.2.1.x.2.2.2.2) v.2.1.x.2.2.2.2).bind fun d => if d > 24 then some (nilN,4) else some (v.2.1,0) else some (nilN,21) else some (nilN,21) else some (nilN,w.2.2)
theorem parseP_is (s : ByteArray) : parseP s = (lim fun k => Q.lexer_Words.f k s).bind parsePof := rfl
noncomputable def parseRof (w : List Q.S69 × Int × Int) : Option (Node × Int) := if w.2.2 = 0 then (looseR (9 * (w.1.map fun x : Q.S69 => (x.f0,x.f1,x.f2)).length + 9) 1 (w.1.map fun x : Q.S69 => (x.f0,x.f1,x.f2)) false).bind fun v => if v.2.2 = true then some (nilN,21) else (nth v.2.1 0).bind fun u => if u.1 = 0 then (deepP (big v.1.x.2.2.2.2) v.1.x.2.2.2.2).bind fun d => if d > 24 then some (nilN,4) else some (v.1,0) else some (nilN,21) else some (nilN,w.2.2)
theorem parseR_of (s : ByteArray) : parseR s = (lim fun k => Q.dossierref08_Words.f k s).bind parseRof := rfl
theorem small_nil : Small nilN := small0 size0 size0
theorem both_parse (s : ByteArray) : ∃ n c,parseP s = some (n,c) ∧ parseR s = some (n,c) ∧ Small n := by
 obtain ⟨w,h1,h2,h3,h4⟩ := Words.words_same' s 4000 (Nat.le_refl _)
 rw [parseP_is,parseR_of,lim_of (X := fun k => Q.lexer_Words.f k s) (fun k => Q.lexer_Words.mono s k) (by decide) h1,lim_of (X := fun k => Q.dossierref08_Words.f k s) (fun k => Q.dossierref08_Words.mono s k) (by decide) h2]
 simp only [Option.bind_some]
 unfold parsePof parseRof
 by_cases hw : w.2.2 = 0
 · rw [if_pos hw,if_pos hw]
   have hl : (w.1.map fun x : Q.S69 => (x.f0,x.f1,x.f2)).length ≤ 500 := by rw [List.length_map]; omega
   generalize hg : (w.1.map fun x : Q.S69 => (x.f0,x.f1,x.f2)) = l at hl ⊢
   have hf : Wf l := by rw [← hg]; exact wf_of _ (h4 hw)
   rcases both_rel hf hl with ⟨x,r,q1,q2,q3,q4,q5⟩ | ⟨x,r,y,t,q1,q2,q3,q4⟩
   · rw [q1,q2]
     simp only [Option.bind_some,if_true,Bool.false_eq_true,if_false]
     obtain ⟨u,r',hr,_,_⟩ := q3.cons
     have e0 : nth r 0 = some u := by rw [hr]; simp [nth]
     rw [e0]
     simp only [Option.bind_some]
     by_cases hu : u.1 = 0
     · rw [if_pos hu]
       have hd : ∃ d,deepP (big x.x.2.2.2.2) x.x.2.2.2.2 = some d := by
        cases q5 with
        | mk _ g1 _ _ g2 => exact deep_some _ _ g1 g2 (Nat.lt_succ_self _)
       obtain ⟨d,hd⟩ := hd
       rw [hd]
       simp only [Option.bind_some]
       by_cases h24 : d > 24
       · rw [if_pos h24]
         exact ⟨_,_,rfl,rfl,small_nil⟩
       · rw [if_neg h24]
         exact ⟨_,_,rfl,rfl,q5⟩
     · rw [if_neg hu]
       exact ⟨_,_,rfl,rfl,small_nil⟩
   · rw [q1,q2]
     simp only [Option.bind_some,if_true,Bool.false_eq_true,if_false]
     exact ⟨_,_,rfl,rfl,small_nil⟩
 · rw [if_neg hw,if_neg hw]
   exact ⟨_,_,rfl,rfl,small_nil⟩
end Go.Proofs.YtbcpnpbkbndkjaaGreatDoor.Ev
end
section
/- What a condition comes to in a case: always to something, and both answers are one. -/
set_option linter.unusedVariables false
set_option linter.unusedSimpArgs false
namespace Go.Proofs.YtbcpnpbkbndkjaaGreatDoor.Ev
open Go Go.RowKit Go.Proofs.YtbcpnpbkbndkjaaGreatDoorW.PrintWords
theorem allW_some {F : Node → Option Bool} : ∀ (l : List Node),(∀ n ∈ l,∃ b,F n = some b) → ∃ b,allW F l = some b
 | [],_ => ⟨_,rfl⟩
 | n :: r,h => by
  obtain ⟨b,hb⟩ := h n (List.mem_cons_self ..)
  rw [allW,hb]
  simp only [Option.bind_some]
  split
  · exact allW_some r fun m hm => h m (List.mem_cons_of_mem _ hm)
  · exact ⟨_,rfl⟩
theorem allW_true {F : Node → Option Bool} : ∀ (l : List Node),allW F l = some true → ∀ n ∈ l,F n = some true
 | [],_,n,hn => by cases hn
 | a :: r,h,n,hn => by
  rw [allW] at h
  obtain ⟨b,h1,h2⟩ := bind2 h
  split at h2
  · rename_i hb
    subst hb
    rcases List.mem_cons.1 hn with rfl | hn
    · exact h1
    · exact allW_true r h2 n hn
  · cases h2
theorem rightW_some : ∀ (k : Nat) (n : Node),Small n → SizeOf.sizeOf n.x.2.2.2.2 < k → ∃ b,rightW k n = some b
 | 0,n,_,h => absurd h (Nat.not_lt_zero _)
 | k + 1,n,hs,h => by
  cases hs with
  | mk _ h1 h2 h3 h4 =>
   rw [rightW,if_pos ⟨h2.1,h3⟩]
   split
   · exact allW_some _ fun m hm => rightW_some k m (h4 m hm) (by have := mem_lt hm; omega)
   · exact ⟨_,rfl⟩
theorem canW_some {n : Node} (hs : Small n) : ∃ b,canW n = some b := by
 have hd : ∃ d,deepP (big n.x.2.2.2.2) n.x.2.2.2.2 = some d := by
  cases hs with
  | mk _ h1 _ _ h4 => exact deep_some _ _ h1 h4 (Nat.lt_succ_self _)
 obtain ⟨d,hd⟩ := hd
 unfold canW
 rw [hd]
 simp only [Option.bind_some]
 split
 · exact rightW_some _ n hs (Nat.lt_succ_self _)
 · exact ⟨_,rfl⟩
theorem canW_true {n : Node} (h : canW n = some true) : rightW (big n.x.2.2.2.2) n = some true := by
 unfold canW at h
 obtain ⟨d,_,h2⟩ := bind2 h
 split at h2
 · exact h2
 · cases h2
/-- A value that is a truth is nothing else. -/
def Good (u : Val5) : Prop := Does.In64 u.2.1 ∧ (u.2.2.2.2 = true → u.1 = 2 → u.2.1 = 0 ∧ seq u.2.2.2.1 (⟨#[]⟩ : ByteArray) = true)
theorem in0 : Does.In64 0 := by unfold Does.In64; omega
theorem seq0 : seq (⟨#[]⟩ : ByteArray) (⟨#[]⟩ : ByteArray) = true := by simp [seq]
theorem good0 : Good zero5 := ⟨in0,fun h => by cases h⟩
theorem fin_same {u : Val5} (h : Good u) : finP u = finR u := by
 unfold finP finR
 cases h5 : u.2.2.2.2 with
 | false => rfl
 | true =>
  by_cases h2 : u.1 = 2
  · obtain ⟨a,b⟩ := h.2 h5 h2
    simp [h2,a,b]
  · simp [h2]
theorem can_two {i : Int} {y : Bool} {t : ByteArray} (h : Values.canV 2 i y t = true) : i = 0 ∧ seq t (⟨#[]⟩ : ByteArray) = true := by
 unfold Values.canV at h
 rw [if_neg (by decide),if_neg (by decide),if_pos rfl,Bool.and_eq_true,beq_iff_eq] at h
 refine ⟨h.1,?_⟩
 rw [Values.empty_of (List.isEmpty_iff.1 h.2)]
 exact seq0
theorem reckon_in (op a b : Int) (ha : Does.In64 a) (hb : Does.In64 b) : Does.In64 (Does.reckonV op a b).1 := by
 have z := in0
 unfold Does.reckonV
 repeat' split
 all_goals first | exact Does.wrap_in _ | exact z | skip
 rename_i h0 _ h1
 have h2 : (Int.tmod a b).natAbs < b.natAbs := by rw [Int.natAbs_tmod]; exact Nat.mod_lt _ (by omega)
 show Does.In64 (Int.tmod a b)
 unfold Does.In64 at hb ⊢
 omega
theorem dow_good (z : Int) {u w : Val5} (hu : Good u) (hw : Good w) : ∃ v,dow z u w = some v ∧ Good v := by
 refine ⟨doW z u.1 u.2.1 u.2.2.1 u.2.2.2.1 w.1 w.2.1 w.2.2.1 w.2.2.2.1,by unfold dow; rw [if_pos ⟨hu.1,hw.1⟩],?_⟩
 unfold doW Does.doV
 split
 · split
   · exact ⟨in0,fun _ _ => ⟨rfl,seq0⟩⟩
   · split
     · exact ⟨reckon_in _ _ _ hu.1 hw.1,fun _ h => absurd (show (1 : Int) = 2 from h) (by decide)⟩
     · exact good0
 · exact good0
/-- Names of data are not long, and numbers are numbers. -/
def DocsOk (D : List DocD) : Prop := ∀ d ∈ D,d.1.size ≤ 900000 ∧ Does.In64 d.2.1.2.1
theorem valueW_good : ∀ (D : List DocD) (s : ByteArray),DocsOk D → ∃ v,valueW D s = some v ∧ Good v
 | [],s,_ => ⟨_,rfl,good0⟩
 | d :: r,s,h => by
  have h1 := h d (List.mem_cons_self ..)
  rw [valueW,if_pos h1.1]
  split
  · by_cases hc : d.2.1.1 = 0 ∨ Values.canV d.2.1.1 d.2.1.2.1 d.2.1.2.2.1 d.2.1.2.2.2 = false
    · rw [if_pos hc]
      exact ⟨_,rfl,good0⟩
    · rw [if_neg hc]
      refine ⟨_,rfl,h1.2,fun _ h2 => ?_⟩
      have hcan : Values.canV d.2.1.1 d.2.1.2.1 d.2.1.2.2.1 d.2.1.2.2.2 = true := by
       cases e : Values.canV d.2.1.1 d.2.1.2.1 d.2.1.2.2.1 d.2.1.2.2.2 with
       | true => rfl
       | false => exact absurd (.inr e) hc
      have h2' : d.2.1.1 = 2 := h2
      rw [h2'] at hcan
      exact can_two hcan
  · exact valueW_good r s fun x hx => h x (List.mem_cons_of_mem _ hx)
theorem countW_good : ∀ (D : List DocD) (s : ByteArray) (z : Int),DocsOk D → Does.In64 z → ∃ v,countW D s z = some v ∧ Does.In64 v
 | [],s,z,_,hz => ⟨_,rfl,hz⟩
 | d :: r,s,z,h,hz => by
  rw [countW,if_pos (h d (List.mem_cons_self ..)).1]
  refine countW_good r s _ (fun x hx => h x (List.mem_cons_of_mem _ hx)) ?_
  split
  · exact Does.in_wrap _
  · exact hz
theorem numberW_in : ∀ (l : List InsD) (s : ByteArray) (z n : Int),Does.In64 n → Does.In64 (numberW l s z n)
 | [],s,z,n,h => h
 | x :: r,s,z,n,h => by
  rw [numberW]
  refine numberW_in r s z _ ?_
  split
  · exact Does.in_wrap _
  · exact h
theorem sides_good {F : Node → Option Val5} : ∀ (l : List Node),(∀ m ∈ l,∃ u,F m = some u ∧ Good u) → ∃ t,sidesW F l = some t ∧ Good t.2.1 ∧ Good t.2.2
 | [],_ => ⟨_,rfl,good0,good0⟩
 | [a],h => by
  obtain ⟨u,h1,h2⟩ := h a (by simp)
  rw [sidesW,h1]
  exact ⟨_,rfl,h2,good0⟩
 | a :: b :: r,h => by
  obtain ⟨u,h1,h2⟩ := h a (by simp)
  obtain ⟨w,h3,h4⟩ := h b (by simp)
  rw [sidesW,h1,h3]
  exact ⟨_,rfl,h2,h4⟩
theorem ofW_good {I : List InsD} {D : List DocD} (hI : I.length ≤ 1000) (hD : D.length ≤ 1000) (hd : DocsOk D) : ∀ (k : Nat) (n : Node),Small n → SizeOf.sizeOf n.x.2.2.2.2 < k → rightW k n = some true → ∃ u,ofW I D k n = some u ∧ Good u
 | 0,n,_,h,_ => absurd h (Nat.not_lt_zero _)
 | k + 1,n,hs,h,hr => by
  cases hs with
  | mk _ h1 h2 h3 h4 =>
   rw [rightW,if_pos ⟨h2.1,h3⟩] at hr
   split at hr
   · rename_i ha
     have ih : ∀ m ∈ n.x.2.2.2.2,∃ u,ofW I D k m = some u ∧ Good u := fun m hm => ofW_good hI hD hd k m (h4 m hm) (by have := mem_lt hm; omega) (allW_true _ hr m hm)
     rw [ofW]
     by_cases e1 : n.x.1 = 1
     · rw [if_pos e1]
       refine ⟨_,rfl,h2.2,fun _ h5 => ?_⟩
       have hc := ha.1
       rw [e1] at hc
       unfold aloneB at hc
       rw [if_pos rfl,Bool.and_eq_true] at hc
       have hc1 : Values.canV n.x.2.1.1 n.x.2.1.2.1 n.x.2.1.2.2.1 n.x.2.1.2.2.2 = true := hc.1
       have h5' : n.x.2.1.1 = 2 := h5
       rw [h5'] at hc1
       exact can_two hc1
     rw [if_neg e1]
     by_cases e2 : n.x.1 = 2
     · rw [if_pos e2,if_pos hD]
       exact valueW_good D _ hd
     rw [if_neg e2]
     by_cases e3 : n.x.1 = 3
     · rw [if_pos e3,if_pos hD]
       obtain ⟨z,g1,g2⟩ := countW_good D n.x.2.2.1 0 hd in0
       rw [g1]
       exact ⟨_,rfl,g2,fun _ h => absurd (show (1 : Int) = 2 from h) (by decide)⟩
     rw [if_neg e3]
     by_cases e4 : n.x.1 = 4
     · rw [if_pos e4,if_pos hI]
       exact ⟨_,rfl,numberW_in _ _ _ _ in0,fun _ h => absurd (show (1 : Int) = 2 from h) (by decide)⟩
     rw [if_neg e4,if_pos h1]
     obtain ⟨t,g1,g2,g3⟩ := sides_good _ ih
     rw [g1]
     simp only [Option.bind_some]
     split
     · exact dow_good _ g2 g3
     · exact ⟨_,rfl,good0⟩
   · cases hr
theorem eval_good {I : List InsD} {D : List DocD} (hI : I.length ≤ 1000) (hD : D.length ≤ 1000) (hd : DocsOk D) {n : Node} (hs : Small n) : ∃ u,evalW I D n = some u ∧ Good u := by
 obtain ⟨c,hc⟩ := canW_some hs
 unfold evalW
 rw [hc]
 simp only [Option.bind_some]
 split
 · rename_i h
   subst h
   exact ofW_good hI hD hd _ n hs (Nat.lt_succ_self _) (canW_true hc)
 · exact ⟨_,rfl,good0⟩
theorem holds_same {I : List InsD} {D : List DocD} (hI : I.length ≤ 1000) (hD : D.length ≤ 1000) (hd : DocsOk D) (s : ByteArray) : ∃ b,holdsW parseP finP s I D = some b ∧ holdsW parseR finR s I D = some b := by
 unfold holdsW
 by_cases hs : seq s (⟨#[]⟩ : ByteArray) = true
 · rw [if_pos hs,if_pos hs]; exact ⟨_,rfl,rfl⟩
 · rw [if_neg hs,if_neg hs]
   obtain ⟨n,c,h1,h2,h3⟩ := both_parse s
   rw [h1,h2]
   simp only [Option.bind_some]
   by_cases hc : c = 0
   · rw [if_pos hc,if_pos hc]
     obtain ⟨u,hu,hg⟩ := eval_good hI hD hd h3
     rw [hu]
     simp only [Option.bind_some]
     rw [fin_same hg]
     exact ⟨_,rfl,rfl⟩
   · rw [if_neg hc,if_neg hc]; exact ⟨_,rfl,rfl⟩
abbrev doc5 : List DocD := [((⟨#[97,35,49]⟩ : ByteArray),(1,5,false,(⟨#[]⟩ : ByteArray)),[])]
abbrev cond4 : ByteArray := (⟨#[97,32,62,32,52,32,97,110,100,32,99,111,117,110,116,40,97,41,32,61,32,49]⟩ : ByteArray)
abbrev cond5 : ByteArray := (⟨#[97,32,62,32,53]⟩ : ByteArray)
noncomputable def endOf (v : Node × Int) : Option Bool := if v.2 = 0 then (evalW [] doc5 v.1).bind fun u => some (finP u) else some false
set_option maxRecDepth 100000 in
theorem awake_4 : ((Q.lexer_Words.f 100 cond4).bind fun w => (parsePof w).bind endOf) = some true := by kernel_rfl
set_option maxRecDepth 100000 in
theorem awake_5 : ((Q.lexer_Words.f 100 cond5).bind fun w => (parsePof w).bind endOf) = some false := by kernel_rfl
theorem holds_at (s : ByteArray) (b : Bool) (hs : ¬ seq s (⟨#[]⟩ : ByteArray) = true) (h : ((Q.lexer_Words.f 100 s).bind fun w => (parsePof w).bind endOf) = some b) : holdsW parseP finP s [] doc5 = some b := by
 obtain ⟨w,h1,h2⟩ := bind2 h
 unfold holdsW
 rw [if_neg hs,parseP_is,lim_of (X := fun k => Q.lexer_Words.f k s) (fun k => Q.lexer_Words.mono s k) (by decide) h1]
 exact h2
theorem awakeH_true : awakeH = some true := by
 unfold awakeH
 rw [holds_at cond4 true (by decide +kernel) awake_4,holds_at cond5 false (by decide +kernel) awake_5]
 rfl
theorem lawH_true {I : List InsD} {D : List DocD} (hI : I.length ≤ 9223372036854775807) (hD : D.length ≤ 9223372036854775807) (hd : ∀ d ∈ D,Does.In64 d.2.1.2.1) (s : ByteArray) : lawH s I D = some true := by
 unfold lawH
 rw [if_pos ⟨hI,hD⟩]
 by_cases hc : caseB I D = true
 · rw [if_pos hc]
   unfold caseB at hc
   simp only [Bool.and_eq_true,decide_eq_true_eq,List.all_eq_true] at hc
   obtain ⟨b,h1,h2⟩ := holds_same (I := I) (D := D) (by omega) (by omega) (fun d hm => ⟨by have := (hc.2.1 d hm).1; omega,hd d hm⟩) s
   rw [h1,h2]
   simp only [Option.bind_some,if_true]
   exact awakeH_true
 · rw [if_neg hc]
   exact awakeH_true
end Go.Proofs.YtbcpnpbkbndkjaaGreatDoor.Ev
end
