/- Several texts in one, in their order. -/
import Derived.Test.YtbcpnpbkbndkjaaGreatDoorBCheckTruths9
import Derived.Test.YtbcpnpbkbndkjaaGreatDoorBCheckTruths12
section
/- The evaluator's trees are the words: conditions and what they name. -/
set_option linter.unusedVariables false
set_option linter.unusedSimpArgs false
namespace Go.Proofs.YtbcpnpbkbndkjaaGreatDoor.Ev
open Go Go.RowKit Go.Proofs.YtbcpnpbkbndkjaaGreatDoorW.PrintWords
theorem bt_nat {s : ByteArray} {i : Nat} (h : i < (bytesOf s).length) : Ev.bt s (i : Int) = (bytesOf s)[i] := Bytes.bt_at' h
theorem wrN (i : Nat) (h : i ≤ 9223372036854775806) : IntKind.i64.wrap ((i : Int) + 1) = ((i + 1 : Nat) : Int) := by
 rw [wrap_64]; unfold wrap64; omega
theorem size_b (s : ByteArray) : s.size = (bytesOf s).length := Bytes.b_size s
theorem nd_y (n : Node) : nd n.x.1 n.x.2.1.1 n.x.2.1.2.1 n.x.2.1.2.2.1 n.x.2.1.2.2.2 n.x.2.2.1 n.x.2.2.2.1 n.x.2.2.2.2 = n := by cases n; rfl
theorem ndx (c0 c1 c2 : Int) (c3 : Bool) (c4 c5 : ByteArray) (c6 : Int) (c7 : List Node) : (nd c0 c1 c2 c3 c4 c5 c6 c7).x = (c0,(c1,c2,c3,c4),c5,c6,c7) := rfl
theorem rightW_nd (k : Nat) (a0 a1 a2 : Int) (a3 : Bool) (a4 a5 : ByteArray) (a6 : Int) (a7 : List Node) : rightW (k + 1) (nd a0 a1 a2 a3 a4 a5 a6 a7) = (if a4.size ≤ 900000 ∧ a5.size ≤ 900000 then if aloneB a0 a1 a2 a3 a4 a5 a6 = true ∧ (a7.length : Int) = kidsZ a0 then allW (rightW k) a7 else some false else none) := rfl
theorem kindW_nd (f : List FileItem) (i : List ByteArray) (k : Nat) (a0 a1 a2 : Int) (a3 : Bool) (a4 a5 : ByteArray) (a6 : Int) (a7 : List Node) : kindW f i (k + 1) (nd a0 a1 a2 a3 a4 a5 a6 a7) = (if a0 = 1 then some (a1,0) else if a0 = 4 then (if i.length ≤ 1000 then (if hasS i a5 = true then some (1,0) else some (0,23)) else none)
 else if a0 = 2 ∨ a0 = 3 then (fileW f a5).bind fun v => (if v.2 = true then (if a0 = 3 then some (1,0) else if v.1.x.2.1 = 0 then some (0,22) else some (v.1.x.2.1,0)) else some (0,23))
 else if a7.length ≤ 2 then (kindL (kindW f i k) a7).bind fun v => if v.2 = 0 then some (if (kindV a0 (v.1.getD 0 0) (v.1.getD 1 0)).2 = true then ((kindV a0 (v.1.getD 0 0) (v.1.getD 1 0)).1,0) else (0,22)) else some (0,v.2) else none) := rfl
theorem wrong_lim (s : ByteArray) (hs : s.size ≤ 256) : (lim fun k => Q.chars_Wrong.f k (toBytes s)) = some (Chars.wrong (bytesOf s)) := by
 have hz := size_b s
 exact lim_of (X := fun k => Q.chars_Wrong.f k (toBytes s)) (fun k => Q.chars_Wrong.mono (toBytes s) k) (k := 1000) (by decide) (Lex.wrong_at _ (Chars.bytes_of s) (by omega) 1000 (by omega))
theorem wrongR_lim (s : ByteArray) (hs : s.size ≤ 256) : (lim fun k => Q.dossierref01_Wrong.f k (toBytes s)) = some (Chars.wrong (bytesOf s)) := by
 have hz := size_b s
 exact lim_of (X := fun k => Q.dossierref01_Wrong.f k (toBytes s)) (fun k => Q.dossierref01_Wrong.mono (toBytes s) k) (k := 1000) (by decide) (Chars.wrong_spec _ (Chars.bytes_of s) (by omega) 1000 (by omega)).2
theorem seq_nil (s : ByteArray) : seq s (⟨#[]⟩ : ByteArray) = s.toList.isEmpty := by
 rw [Bool.eq_iff_iff,seq_list,ByteArray.toList_eq,ByteArray.toList_eq]
 simp
theorem kids_le (z : Int) : kidsZ z ≤ 2 := by unfold kidsZ; repeat' split; all_goals omega
theorem tw_all (p : Int → Bool) : ∀ l : List Int,decide ((l.takeWhile p).length = l.length) = l.all p
 | [] => rfl
 | a :: r => by
  rw [List.takeWhile_cons,List.all_cons]
  cases h : p a with
  | true =>
   rw [if_pos rfl,Bool.true_and,← tw_all p r]
   simp
  | false => simp
theorem lexer_Plain.ev (s : ByteArray) (v : Bool) (h : (if s.size ≤ 900000 then some (plainB s) else none) = some v) : ∃ m,callX false (fnF cx_lexer_Plain noCalls m 119) [.str s] (lcSt [] 0) out = some (.ret (.bool v),lcRet [] [] 0) := by
 split at h
 · rename_i hs
   obtain rfl := Option.some.inj h
   have hz := size_b s
   refine ⟨0,?_⟩
   rw [lexer_Plain.top]
   unfold plainB
   match hb : bytesOf s with
   | [] =>
    have h0 : s = (⟨#[]⟩ : ByteArray) := by apply Bytes.b_inj; rw [hb]; rfl
    subst h0
    rfl
   | a :: r =>
    have hlt : 0 < (bytesOf s).length := by rw [hb]; simp
    have h1 : (bytesOf s)[0] = a := by simp [hb]
    have hbt := bt_nat hlt
    rw [show ((0 : Nat) : Int) = 0 from rfl,h1] at hbt
    have ha := Chars.bytes_of s a (by rw [hb]; simp)
    have hS := Bytes.sets_at a ha
    have hn : seq s (⟨#[]⟩ : ByteArray) = false := by
     rw [seq_nil]
     have : s.toList ≠ [] := fun e => by
      have := Values.empty_of e
      rw [this] at hb
      cases hb
     simpa using this
    have hrun := Bytes.run_spec s Bytes.LETDIG Words.nameP (fun x hx => (Bytes.sets_at x hx).2.1) (by omega) (s.size + 1) (by omega)
    unfold Bytes.LET at hS
    unfold Bytes.LETDIG at hrun
    rw [if_pos (by rw [hn]; rfl),if_pos (by omega),hbt,hS.1,lim_of (X := fun k => Q.lexer_run.f k s _) (fun k => Q.lexer_run.mono s _ k) (by omega) hrun]
    simp only [Option.bind_some]
    have hle := Words.while_len Words.nameP (bytesOf s)
    have hsz : ((s.extract 0 ((bytesOf s).takeWhile Words.nameP).length).size : Int) = (((bytesOf s).takeWhile Words.nameP).length : Int) := by rw [ByteArray.size_extract]; omega
    have hall := tw_all Words.nameP (bytesOf s)
    rw [hsz]
    cases hl : Bytes.letterV a with
    | false => rfl
    | true =>
     have hna : Words.nameP a = true := by unfold Words.nameP; rw [hl]; rfl
     rw [hb,List.all_cons,hna,Bool.true_and] at hall
     rw [hb]
     simp only [if_true,Bool.true_and]
     rw [← hall,hz,hb]
     have e : (((List.takeWhile Words.nameP (a :: r)).length : Int) == ((a :: r).length : Int)) = decide ((List.takeWhile Words.nameP (a :: r)).length = (a :: r).length) := by
      rw [Bool.eq_iff_iff,beq_iff_eq,decide_eq_true_eq]
      omega
     rw [e]
 · cases h
theorem lexer_Plain.ok : AllOk specs_lexer_Plain := allOk_cons ref_Parse.ok (fnOk_of (by kernel_rfl)) (sealed_of (kp := false) (ok_ext _) (cok_of ref_Parse.ok) fun args cs n K r h => by
 unfold lexer_Plain.spec at h
 dsimp only [lcSt] at h
 split at h
 · obtain ⟨v,h1,h2⟩ := bind2 h
   obtain ⟨m,h4⟩ := lexer_Plain.ev _ v h1
   exact ⟨m,_,_,h4,h2⟩
 · cases h)
theorem ref08_Plain.l_ev (n : Nat) (s0 s : ByteArray) (hs : (bytesOf s).length ≤ 9223372036854775806) : ∀ (d m i : Nat),i + d = (bytesOf s).length → 1 ≤ i → d + 1 ≤ m → ref08_Plain.L0 n m s0 s (s.size : Int) (i : Int) = some (.ret (.bool (((bytesOf s).drop i).all Words.nameP)),lcRet [] [] 0) := by
 intro d
 induction d with
 | zero =>
  intro m i h1 h2 h3
  obtain ⟨m,rfl⟩ : ∃ m',m = m' + 1 := ⟨m - 1,by omega⟩
  have hz := size_b s
  rw [ref08_Plain.L0_s,if_neg (by simp; omega),List.drop_of_length_le (by omega),decide_eq_true (show (s.size : Int) > 0 by omega)]
  rfl
 | succ d ih =>
  intro m i h1 h2 h3
  obtain ⟨m,rfl⟩ : ∃ m',m = m' + 1 := ⟨m - 1,by omega⟩
  have hz := size_b s
  have hlt : i < (bytesOf s).length := by omega
  rw [ref08_Plain.L0_s,if_pos (by simp; omega),if_pos (by omega),if_pos (by omega),bt_nat hlt,Bytes.letter_spec,Bytes.drop_cons hlt,wrN i (by omega),ih m (i + 1) (by omega) (by omega) (by omega),List.all_cons]
  rw [Option.bind_some]
  have h0 : ¬ ((i : Int) == 0) = true := by simp; omega
  have hn : Words.nameP (bytesOf s)[i] = (Bytes.letterV (bytesOf s)[i] || Bytes.digitV (bytesOf s)[i]) := rfl
  rw [hn]
  cases Bytes.letterV (bytesOf s)[i] with
  | true => rfl
  | false =>
   rw [if_pos (by rfl),if_neg h0,if_pos (by omega : (0 : Int) ≤ (i : Int)),if_pos (by omega : (i : Int) < (s.size : Int)),Bytes.digit_spec,Option.bind_some]
   cases Bytes.digitV (bytesOf s)[i] <;> rfl
theorem ref08_Plain.ev (s : ByteArray) (v : Bool) (h : (if s.size ≤ 900000 then some (plainB s) else none) = some v) : ∃ m,callX false (fnF cx_ref08_Plain noCalls m 156) [.str s] (lcSt [] 0) out = some (.ret (.bool v),lcRet [] [] 0) := by
 split at h
 · rename_i hs
   obtain rfl := Option.some.inj h
   have hz := size_b s
   refine ⟨(bytesOf s).length + 1,?_⟩
   rw [ref08_Plain.top]
   unfold plainB
   match hb : bytesOf s with
   | [] =>
    have h0 : s.size = 0 := by rw [hz,hb]; rfl
    rw [ref08_Plain.L0_s,if_neg (by simp [h0]),decide_eq_false (show ¬ (s.size : Int) > 0 by omega)]
   | a :: r =>
    have hlt : 0 < (bytesOf s).length := by rw [hb]; simp
    have h1 : (bytesOf s)[0] = a := by simp [hb]
    have hd : (bytesOf s).drop 1 = r := by rw [hb]; rfl
    have hbl : (bytesOf s).length = r.length + 1 := by rw [hb]; rfl
    have e := ref08_Plain.l_ev (r.length + 2) s s (by omega) r.length (r.length + 1) 1 (by omega) (Nat.le_refl _) (Nat.le_refl _)
    have hbt := bt_nat hlt
    rw [show ((0 : Nat) : Int) = 0 from rfl,h1] at hbt
    rw [show (a :: r).length + 1 = (r.length + 1) + 1 from rfl,ref08_Plain.L0_s,if_pos (by simp; omega),if_pos (by omega),if_pos (by omega),hbt,Bytes.letter_spec,show IntKind.i64.wrap (0 + 1) = ((1 : Nat) : Int) from wrN 0 (by omega)]
    rw [Option.bind_some]
    show _ = some (Res.ret (AVal.bool (Bytes.letterV a && r.all Words.nameP)),lcRet [] [] 0)
    cases Bytes.letterV a with
    | false => rfl
    | true =>
     rw [if_neg (by simp)]
     exact e.trans (by rw [hd]; rfl)
 · cases h
theorem ref08_Plain.ok : AllOk specs_ref08_Plain := allOk_cons lexer_Plain.ok (fnOk_of (by kernel_rfl)) (sealed_of (kp := false) (ok_ext _) (cok_of lexer_Plain.ok) fun args cs n K r h => by
 unfold ref08_Plain.spec at h
 dsimp only [lcSt] at h
 split at h
 · obtain ⟨v,h1,h2⟩ := bind2 h
   obtain ⟨m,h4⟩ := ref08_Plain.ev _ v h1
   exact ⟨m,_,_,h4,h2⟩
 · cases h)
theorem expr_Named.ev (s : ByteArray) (v : Bool) (h : (if s.size ≤ 900000 then some (namedB s) else none) = some v) : ∃ m,callX false (fnF cx_expr_Named noCalls m 83) [.str s] (lcSt [] 0) out = some (.ret (.bool v),lcRet [] [] 0) := by
 split at h
 · rename_i hs
   obtain rfl := Option.some.inj h
   refine ⟨0,?_⟩
   rw [expr_Named.top,if_pos hs]
   simp only [Option.bind_some]
   unfold namedB
   cases plainB s <;> rfl
 · cases h
theorem expr_Named.ok : AllOk specs_expr_Named := allOk_cons ref08_Plain.ok (fnOk_of (by kernel_rfl)) (sealed_of (kp := false) (ok_ext _) (cok_of ref08_Plain.ok) fun args cs n K r h => by
 unfold expr_Named.spec at h
 dsimp only [lcSt] at h
 split at h
 · obtain ⟨v,h1,h2⟩ := bind2 h
   obtain ⟨m,h4⟩ := expr_Named.ev _ v h1
   exact ⟨m,_,_,h4,h2⟩
 · cases h)
theorem ref_Named.ev (s : ByteArray) (v : Bool) (h : (if s.size ≤ 900000 then some (namedB s) else none) = some v) : ∃ m,callX false (fnF cx_ref_Named noCalls m 132) [.str s] (lcSt [] 0) out = some (.ret (.bool v),lcRet [] [] 0) := by
 split at h
 · rename_i hs
   obtain rfl := Option.some.inj h
   refine ⟨0,?_⟩
   rw [ref_Named.top,if_pos hs]
   simp only [Option.bind_some]
   unfold namedB
   cases plainB s <;> rfl
 · cases h
theorem ref_Named.ok : AllOk specs_ref_Named := allOk_cons expr_Named.ok (fnOk_of (by kernel_rfl)) (sealed_of (kp := false) (ok_ext _) (cok_of expr_Named.ok) fun args cs n K r h => by
 unfold ref_Named.spec at h
 dsimp only [lcSt] at h
 split at h
 · obtain ⟨v,h1,h2⟩ := bind2 h
   obtain ⟨m,h4⟩ := ref_Named.ev _ v h1
   exact ⟨m,_,_,h4,h2⟩
 · cases h)
theorem first_at : ∀ (l : List Int),(46 : Int) ∈ l → ∃ j : Nat,(∀ i : Nat,i < j → l[i]? ≠ some 46) ∧ l[j]? = some 46
 | [],h => by cases h
 | a :: l,h => by
  by_cases ha : a = 46
  · exact ⟨0,fun i hi => by omega,by rw [ha]; rfl⟩
  · obtain ⟨j,h1,h2⟩ := first_at l (by simpa [Ne.symm ha] using h)
    refine ⟨j + 1,fun i hi => ?_,by simpa using h2⟩
    cases i with
    | zero => simpa using ha
    | succ i => simpa using h1 i (by omega)
theorem split_le : ∀ (n : Nat) (s : ByteArray),s.size ≤ n → ∀ p ∈ splitW s dotB,p.size ≤ s.size := by
 intro n
 induction n with
 | zero =>
  intro s hs p hp
  have hz := size_b s
  have : bytesOf s = [] := List.eq_nil_of_length_eq_zero (by omega)
  rw [parts_miss (by rw [this]; simp)] at hp
  rw [List.mem_singleton.1 hp]
  exact Nat.le_refl _
 | succ n ih =>
  intro s hs p hp
  by_cases hm : (46 : Int) ∈ bytesOf s
  · have hz := size_b s
    have hex : ∃ j : Nat,(∀ i : Nat,i < j → (bytesOf s)[i]? ≠ some 46) ∧ (bytesOf s)[j]? = some 46 := first_at _ hm
    obtain ⟨j,h1,h2⟩ := hex
    have hj : j < (bytesOf s).length := (List.getElem?_eq_some_iff.1 h2).1
    rw [parts_hit h1 h2] at hp
    rcases List.mem_cons.1 hp with rfl | hp
    · rw [ByteArray.size_extract]; omega
    · have h3 := ih (s.extract (j + 1) s.size) (by rw [ByteArray.size_extract]; omega) p hp
      rw [ByteArray.size_extract] at h3
      omega
  · rw [parts_miss hm] at hp
    rw [List.mem_singleton.1 hp]
    exact Nat.le_refl _
theorem parts_len (s : ByteArray) : (partsW s).length ≤ s.size + 1 := by
 have h := Lib.splitB_length_le dotB 0 (Lib.countB s dotB) s
 have h2 := Lib.countB_le dotB (by decide) s.size s (Nat.le_refl _)
 show (splitW s dotB).length ≤ _
 unfold splitW
 omega
theorem expr_pathed.l_ev (n : Nat) (s0 : ByteArray) (l : List ByteArray) (hp : ∀ p ∈ l,p.size ≤ 900000) (hl : l.length ≤ 9223372036854775806) : ∀ (k m i : Nat),i + k = l.length → k + 1 ≤ m → expr_pathed.L0 n m s0 l (l.length : Int) (i : Int) = some (.ret (.bool ((l.drop i).all namedB)),lcRet [] [] 0) := by
 intro k
 induction k with
 | zero =>
  intro m i h1 h2
  obtain ⟨m,rfl⟩ : ∃ m',m = m' + 1 := ⟨m - 1,by omega⟩
  rw [expr_pathed.L0_s,if_neg (by simp; omega),List.drop_of_length_le (by omega)]
  rfl
 | succ k ih =>
  intro m i h1 h2
  obtain ⟨m,rfl⟩ : ∃ m',m = m' + 1 := ⟨m - 1,by omega⟩
  have hlt : i < l.length := by omega
  rw [expr_pathed.L0_s,if_pos (by simp; omega),if_pos (by omega),show ((i : Int)).toNat = i from by omega,nth_at hlt,List.drop_eq_getElem_cons hlt,wrN i (by omega),ih m (i + 1) (by omega) (by omega)]
  simp only [Option.bind_some,List.all_cons]
  rw [if_pos (hp _ (List.getElem_mem hlt))]
  simp only [Option.bind_some]
  cases namedB l[i] <;> rfl
theorem expr_pathed.ev (s : ByteArray) (v : Bool) (h : (if s.size ≤ 900000 then some (pathB s) else none) = some v) : ∃ m,callX false (fnF cx_expr_pathed noCalls m 82) [.str s] (lcSt [] 0) out = some (.ret (.bool v),lcRet [] [] 0) := by
 split at h
 · rename_i hs
   obtain rfl := Option.some.inj h
   have h3 := parts_len s
   refine ⟨(partsW s).length + 1,?_⟩
   rw [expr_pathed.top,if_pos ⟨by omega,by decide⟩]
   exact expr_pathed.l_ev _ s (partsW s) (fun p hp => Nat.le_trans (split_le s.size s (Nat.le_refl _) p hp) hs) (by omega) (partsW s).length _ 0 (by omega) (Nat.le_refl _)
 · cases h
theorem expr_pathed.ok : AllOk specs_expr_pathed := allOk_cons ref_Named.ok (fnOk_of (by kernel_rfl)) (sealed_of (kp := false) (ok_ext _) (cok_of ref_Named.ok) fun args cs n K r h => by
 unfold expr_pathed.spec at h
 dsimp only [lcSt] at h
 split at h
 · obtain ⟨v,h1,h2⟩ := bind2 h
   obtain ⟨m,h4⟩ := expr_pathed.ev _ v h1
   exact ⟨m,_,_,h4,h2⟩
 · cases h)
theorem ref_Parts.l_ev (n : Nat) (s0 s : ByteArray) (hs : s.size ≤ 900000) : ∀ (d m a i : Nat) (acc : List ByteArray),i + d = (bytesOf s).length → a ≤ i → (∀ j,a ≤ j → j < i → (bytesOf s)[j]? ≠ some 46) → acc.length ≤ i → d + 2 ≤ m →
 ref_Parts.L0 n m s0 s acc (a : Int) ((s.size + 1 : Nat) : Int) (i : Int) = some (.ret (.sl .str (acc ++ splitW (s.extract a s.size) dotB) .no),lcRet [] [] 0) := by
 intro d
 induction d with
 | zero =>
  intro m a i acc h1 h2 h3 h4 h5
  obtain ⟨m,rfl⟩ : ∃ m',m = m' + 2 := ⟨m - 2,by omega⟩
  have hz := size_b s
  have hb : bytesOf (s.extract a s.size) = (bytesOf s).drop a := Quoted.ext_all s a
  have hmiss : (46 : Int) ∉ bytesOf (s.extract a s.size) := by
   rw [hb]
   intro hm
   obtain ⟨j,hj,e⟩ := List.getElem_of_mem hm
   rw [List.length_drop] at hj
   refine h3 (a + j) (by omega) (by omega) ?_
   rw [← e,List.getElem_drop]
   exact List.getElem?_eq_getElem _
  have hi : i = s.size := by omega
  subst hi
  rw [ref_Parts.L0_s,if_pos (decide_eq_true (by omega)),if_pos (by simp),if_pos (by omega),if_pos (by omega),if_pos (by omega),if_pos (by rw [List.length_singleton]; unfold most; omega),wrN s.size (by omega),parts_miss hmiss,ref_Parts.L0_s,if_neg (fun e => absurd (of_decide_eq_true e) (by omega))]
  rfl
 | succ d ih =>
  intro m a i acc h1 h2 h3 h4 h5
  obtain ⟨m,rfl⟩ : ∃ m',m = m' + 1 := ⟨m - 1,by omega⟩
  have hz := size_b s
  have hlt : i < (bytesOf s).length := by omega
  rw [ref_Parts.L0_s,if_pos (decide_eq_true (by omega)),if_neg (by rw [beq_iff_eq]; omega),if_pos (by omega),if_pos (by omega),bt_nat hlt,wrN i (by omega)]
  by_cases hd : (bytesOf s)[i] = 46
  · rw [if_pos (by rw [hd]; rfl),if_pos (by omega),if_pos (by omega),if_pos (by omega),if_pos (by rw [List.length_singleton]; unfold most; omega)]
    rw [ih m (i + 1) (i + 1) _ (by omega) (Nat.le_refl _) (fun j h6 h7 => by omega) (by simp; omega) (by omega)]
    have hb : bytesOf (s.extract a s.size) = (bytesOf s).drop a := Quoted.ext_all s a
    have hh := parts_hit (t := s.extract a s.size) (j := i - a) (fun j hj => by
     rw [hb,List.getElem?_drop]
     exact h3 (a + j) (by omega) (by omega)) (by
     rw [hb,List.getElem?_drop,show a + (i - a) = i from by omega,List.getElem?_eq_getElem hlt,hd])
    have e1 : (s.extract a s.size).extract 0 (i - a) = s.extract ((a : Int)).toNat ((i : Int)).toNat := by
     apply Bytes.b_inj
     rw [Bytes.b_extract,hb,Bytes.b_extract,List.drop_zero,show ((a : Int)).toNat = a from by omega,show ((i : Int)).toNat = i from by omega,Nat.sub_zero]
    have e2 : (s.extract a s.size).extract (i - a + 1) (s.extract a s.size).size = s.extract (i + 1) s.size := by
     apply Bytes.b_inj
     rw [Quoted.ext_all,hb,Quoted.ext_all,List.drop_drop,show a + (i - a + 1) = i + 1 from by omega]
    rw [hh,e1,e2,List.append_assoc]
    rfl
  · rw [if_neg (by simpa using hd)]
    exact ih m a (i + 1) acc (by omega) (by omega) (fun j h6 h7 => by
     by_cases hj : j = i
     · subst hj
       rw [List.getElem?_eq_getElem hlt]
       intro e
       exact hd (Option.some.inj e)
     · exact h3 j h6 (by omega)) (by omega) (by omega)
theorem ref_Parts.ev (s : ByteArray) (v : List (ByteArray)) (h : (if s.size ≤ 900000 then some (partsW s) else none) = some v) : ∃ m,callX false (fnF cx_ref_Parts noCalls m 103) [.str s] (lcSt [] 0) out = some (.ret (.sl .str (v) .no),lcRet [] [] 0) := by
 split at h
 · rename_i hs
   obtain rfl := Option.some.inj h
   have hz := size_b s
   refine ⟨s.size + 2,?_⟩
   rw [ref_Parts.top,wrN s.size (by omega)]
   have := ref_Parts.l_ev (s.size + 2) s s hs s.size (s.size + 2) 0 0 [] (by omega) (Nat.le_refl _) (fun j h1 h2 => by omega) (Nat.le_refl _) (Nat.le_refl _)
   rw [List.nil_append,show s.extract 0 s.size = s from by simp] at this
   exact this
 · cases h
theorem ref_Parts.ok : AllOk specs_ref_Parts := allOk_cons expr_pathed.ok (fnOk_of (by kernel_rfl)) (sealed_of (kp := false) (ok_ext _) (cok_of expr_pathed.ok) fun args cs n K r h => by
 unfold ref_Parts.spec at h
 dsimp only [lcSt] at h
 split at h
 · obtain ⟨v,h1,h2⟩ := bind2 h
   obtain ⟨m,h4⟩ := ref_Parts.ev _ v h1
   exact ⟨m,_,_,h4,h2⟩
 · cases h)
theorem ref_pathed.l_ev (n : Nat) (s0 : ByteArray) (l : List ByteArray) (hp : ∀ p ∈ l,p.size ≤ 900000) (hl : l.length ≤ 9223372036854775806) : ∀ (k m i : Nat),i + k = l.length → k + 1 ≤ m → ref_pathed.L0 n m s0 l (l.length : Int) (i : Int) = some (.ret (.bool ((l.drop i).all namedB)),lcRet [] [] 0) := by
 intro k
 induction k with
 | zero =>
  intro m i h1 h2
  obtain ⟨m,rfl⟩ : ∃ m',m = m' + 1 := ⟨m - 1,by omega⟩
  rw [ref_pathed.L0_s,if_neg (by simp; omega),List.drop_of_length_le (by omega)]
  rfl
 | succ k ih =>
  intro m i h1 h2
  obtain ⟨m,rfl⟩ : ∃ m',m = m' + 1 := ⟨m - 1,by omega⟩
  have hlt : i < l.length := by omega
  rw [ref_pathed.L0_s,if_pos (by simp; omega),if_pos (by omega),show ((i : Int)).toNat = i from by omega,nth_at hlt,List.drop_eq_getElem_cons hlt,wrN i (by omega),ih m (i + 1) (by omega) (by omega)]
  simp only [Option.bind_some,List.all_cons]
  rw [if_pos (hp _ (List.getElem_mem hlt))]
  simp only [Option.bind_some]
  cases namedB l[i] <;> rfl
theorem ref_pathed.ev (s : ByteArray) (v : Bool) (h : (if s.size ≤ 900000 then some (pathB s) else none) = some v) : ∃ m,callX false (fnF cx_ref_pathed noCalls m 131) [.str s] (lcSt [] 0) out = some (.ret (.bool v),lcRet [] [] 0) := by
 split at h
 · rename_i hs
   obtain rfl := Option.some.inj h
   have h3 := parts_len s
   refine ⟨(partsW s).length + 1,?_⟩
   rw [ref_pathed.top,if_pos hs]
   simp only [Option.bind_some]
   exact ref_pathed.l_ev _ s (partsW s) (fun p hp => Nat.le_trans (split_le s.size s (Nat.le_refl _) p hp) hs) (by omega) (partsW s).length _ 0 (by omega) (Nat.le_refl _)
 · cases h
theorem ref_pathed.ok : AllOk specs_ref_pathed := allOk_cons ref_Parts.ok (fnOk_of (by kernel_rfl)) (sealed_of (kp := false) (ok_ext _) (cok_of ref_Parts.ok) fun args cs n K r h => by
 unfold ref_pathed.spec at h
 dsimp only [lcSt] at h
 split at h
 · obtain ⟨v,h1,h2⟩ := bind2 h
   obtain ⟨m,h4⟩ := ref_pathed.ev _ v h1
   exact ⟨m,_,_,h4,h2⟩
 · cases h)
def findC (z : Int) : List (Int × Int × ByteArray) → Option (Rr U0)
 | [] => some (.ret (.tup [.agg [.int .i64 0,.int .i64 0,.str (⟨#[]⟩ : ByteArray)],.bool false]),lcRet [] [] 0)
 | o :: r => if (o.1 == z) = true then some (.ret (.tup [.agg [.int .i64 o.1,.int .i64 o.2.1,.str o.2.2],.bool true]),lcRet [] [] 0) else findC z r
theorem findC_is (z : Int) : ∀ l : List (Int × Int × ByteArray),findC z l = (match l.find? (fun o => o.1 == z) with
 | some o => some (.ret (.tup [.agg [.int .i64 o.1,.int .i64 o.2.1,.str o.2.2],.bool true]),lcRet [] [] 0)
 | none => some (.ret (.tup [.agg [.int .i64 0,.int .i64 0,.str (⟨#[]⟩ : ByteArray)],.bool false]),lcRet [] [] 0))
 | [] => rfl
 | o :: r => by
  rw [findC,List.find?_cons,findC_is z r]
  cases h : (o.1 == z) <;> rfl
theorem expr_find.run (z : Int) : callX false (fnF cx_expr_find noCalls 14 120) ([AVal.int IntKind.i64 z]) (lcSt [] 0) out = findC z opsL := by kernel_rfl
theorem expr_find.ev (z : Int) (v : Int × Int × ByteArray × Bool) (h : (some (findO z)) = some v) : ∃ m,callX false (fnF cx_expr_find noCalls m 120) [.int .i64 z] (lcSt [] 0) out = some (.ret (.tup [.agg [.int .i64 v.1,.int .i64 v.2.1,.str v.2.2.1],.bool v.2.2.2]),lcRet [] [] 0) := by
 obtain rfl := Option.some.inj h
 refine ⟨14,?_⟩
 rw [expr_find.run,findC_is]
 unfold findO
 cases opsL.find? (fun o => o.1 == z) <;> rfl
theorem expr_find.ok : AllOk specs_expr_find := allOk_cons ref_pathed.ok (fnOk_of (by kernel_rfl)) (sealed_of (kp := false) (ok_ext _) (cok_of ref_pathed.ok) fun args cs n K r h => by
 unfold expr_find.spec at h
 dsimp only [lcSt] at h
 split at h
 · obtain ⟨v,h1,h2⟩ := bind2 h
   obtain ⟨m,h4⟩ := expr_find.ev _ v h1
   exact ⟨m,_,_,h4,h2⟩
 · cases h)
theorem findO_is (z : Int) : (findO z).2.2.2 = decide (7 ≤ z ∧ z ≤ 19) := by
 by_cases h : 7 ≤ z ∧ z ≤ 19
 · have hc : z = 7 ∨ z = 8 ∨ z = 9 ∨ z = 10 ∨ z = 11 ∨ z = 12 ∨ z = 13 ∨ z = 14 ∨ z = 15 ∨ z = 16 ∨ z = 17 ∨ z = 18 ∨ z = 19 := by omega
   rcases hc with rfl | rfl | rfl | rfl | rfl | rfl | rfl | rfl | rfl | rfl | rfl | rfl | rfl <;> rfl
 · have e : opsL.find? (fun o => o.1 == z) = none := by
    rw [List.find?_eq_none]
    intro o ho
    have : ∀ o ∈ opsL,7 ≤ o.1 ∧ o.1 ≤ 19 := by decide +kernel
    have := this o ho
    simp
    omega
   unfold findO
   rw [e,decide_eq_false h]
theorem expr_kids.ev (z : Int) (v : Int) (h : (some (kidsZ z)) = some v) : ∃ m,callX false (fnF cx_expr_kids noCalls m 85) [.int .i64 z] (lcSt [] 0) out = some (.ret (.int .i64 v),lcRet [] [] 0) := by
 obtain rfl := Option.some.inj h
 refine ⟨0,?_⟩
 rw [expr_kids.top,findO_is]
 unfold kidsZ
 simp only [ite_or,beq_iff_eq,decide_eq_true_eq]
 repeat' split
 all_goals first | rfl | (exfalso; omega)
theorem expr_kids.ok : AllOk specs_expr_kids := allOk_cons expr_find.ok (fnOk_of (by kernel_rfl)) (sealed_of (kp := false) (ok_ext _) (cok_of expr_find.ok) fun args cs n K r h => by
 unfold expr_kids.spec at h
 dsimp only [lcSt] at h
 split at h
 · obtain ⟨v,h1,h2⟩ := bind2 h
   obtain ⟨m,h4⟩ := expr_kids.ev _ v h1
   exact ⟨m,_,_,h4,h2⟩
 · cases h)
theorem ref_kids.ev (z : Int) (v : Int) (h : (some (kidsZ z)) = some v) : ∃ m,callX false (fnF cx_ref_kids noCalls m 100) [.int .i64 z] (lcSt [] 0) out = some (.ret (.int .i64 v),lcRet [] [] 0) := by
 obtain rfl := Option.some.inj h
 refine ⟨0,?_⟩
 rw [ref_kids.top]
 unfold kidsZ
 simp only [ite_or,ite_and,decide_eq_true_eq,beq_iff_eq]
 by_cases h1 : 1 ≤ z ∧ z ≤ 4
 · rw [if_pos (by omega),if_pos h1]
 rw [if_neg (by omega),if_neg h1]
 by_cases h2 : z = 5 ∨ z = 6
 · rw [if_pos h2,if_pos h2]
 rw [if_neg h2,if_neg h2]
 by_cases h3 : 7 ≤ z ∧ z ≤ 19
 · rw [if_pos (by omega),if_pos h3]
 · rw [if_neg (by omega),if_neg h3]
theorem ref_kids.ok : AllOk specs_ref_kids := allOk_cons expr_kids.ok (fnOk_of (by kernel_rfl)) (sealed_of (kp := false) (ok_ext _) (cok_of expr_kids.ok) fun args cs n K r h => by
 unfold ref_kids.spec at h
 dsimp only [lcSt] at h
 split at h
 · obtain ⟨v,h1,h2⟩ := bind2 h
   obtain ⟨m,h4⟩ := ref_kids.ev _ v h1
   exact ⟨m,_,_,h4,h2⟩
 · cases h)
theorem ref01_Wrong.l_ev (n : Nat) (b : List Int) : ∀ (k m : Nat) (l : List Int) (i : Int) (v : Int),k ≤ 1000000 → k ≤ m → Q.dossierref01_Wrong.l0 k l i = some v → ref01_Wrong.L0 n m b l i = some (.ret (.int .i64 v),lcRet [] [] 0) := by
 intro k
 induction k with
 | zero => intro m l i v _ _ h; simp [Q.dossierref01_Wrong.l0] at h
 | succ k ih =>
  intro m l i v hk0 hk h
  obtain ⟨m,rfl⟩ : ∃ m',m = m' + 1 := ⟨m - 1,by omega⟩
  rw [Q.dossierref01_Wrong.l0] at h
  rw [ref01_Wrong.L0_s]
  have hx : ∀ r v,Q.dossierref01_OfXML.f k r = some v → lim (fun k => Q.dossierref01_OfXML.f k r) = some v := fun r v h => lim_of (fun k => Q.dossierref01_OfXML.mono r k) (by omega) h
  have hy : ∀ r v,Q.dossierref01_Decode.f k r = some v → lim (fun k => Q.dossierref01_Decode.f k r) = some v := fun r v h => lim_of (fun k => Q.dossierref01_Decode.mono r k) (by omega) h
  simp only [ite_or,ite_and,seq_list,wrap_64,ba_list,decide_eq_true_eq,beq_iff_eq] at h ⊢
  grind [→ bindE]
theorem ref01_Wrong.ev (b : List (Int)) (k : Nat) (hk : k ≤ 1000000) (v : Int) (h : (Q.dossierref01_Wrong.f k b) = some v) : ∃ m,callX false (fnF cx_ref01_Wrong noCalls m 138) [.sl (.int .u8) b .no] (lcSt [] 0) out = some (.ret (.int .i64 v),lcRet [] [] 0) := by
 refine ⟨k,?_⟩
 rw [ref01_Wrong.top]
 exact ref01_Wrong.l_ev k b k k b 0 v hk (Nat.le_refl _) h
theorem ref01_Wrong.ok : AllOk specs_ref01_Wrong := allOk_cons ref_kids.ok (fnOk_of (by kernel_rfl)) (sealed_of (kp := false) (ok_ext _) (cok_of ref_kids.ok) fun args cs n K r h => by
 unfold ref01_Wrong.spec at h
 dsimp only [lcSt] at h
 split at h
 · obtain ⟨v,h1,h2⟩ := bind2 h
   obtain ⟨k,hk,h3⟩ := lim_some h1
   obtain ⟨m,h4⟩ := ref01_Wrong.ev _ k hk v h3
   exact ⟨m,_,_,h4,h2⟩
 · cases h)
theorem value_Can.ev (y0 : Int) (y1 : Int) (y2 : Bool) (y3 : ByteArray) (v : Bool) (h : (if y3.size ≤ 900000 then some (canV y0 y1 y2 y3) else none) = some v) : ∃ m,callX false (fnF cx_value_Can noCalls m 81) [.agg [.int .i64 y0,.int .i64 y1,.bool y2,.str y3]] (lcSt [] 0) out = some (.ret (.bool v),lcRet [] [] 0) := by
 split at h
 · rename_i hs
   obtain rfl := Option.some.inj h
   refine ⟨0,?_⟩
   rw [value_Can.top]
   have hnil : seq y3 (⟨#[]⟩ : ByteArray) = true → y3 = (⟨#[]⟩ : ByteArray) := fun e => by rw [seq_nil] at e; exact Values.empty_of (by simpa using e)
   have wn := Values.wrong_none
   have hz0 : (((⟨#[]⟩ : ByteArray) : ByteArray).size : Int) ≤ 256 := by decide
   show _ = some (Res.ret (AVal.bool (Values.canV y0 y1 y2 y3)),lcRet [] [] 0)
   unfold Values.canV
   simp only [← seq_nil]
   by_cases h0 : y0 = 0
   · subst h0
     by_cases hn : seq y3 (⟨#[]⟩ : ByteArray) = true
     · obtain rfl := hnil hn
       rw [wrong_lim _ (by decide),wn]
       by_cases h1 : y1 = 0 <;> cases y2 <;> simp [h1,seq,hz0]
     · simp [hn]
   by_cases h1 : y0 = 1
   · subst h1
     by_cases hn : seq y3 (⟨#[]⟩ : ByteArray) = true
     · obtain rfl := hnil hn
       rw [wrong_lim _ (by decide),wn]
       cases y2 <;> simp [seq,hz0]
     · simp [hn]
   by_cases h2 : y0 = 2
   · subst h2
     by_cases hn : seq y3 (⟨#[]⟩ : ByteArray) = true
     · obtain rfl := hnil hn
       rw [wrong_lim _ (by decide),wn]
       by_cases h1 : y1 = 0 <;> simp [h1,seq,hz0]
     · simp [hn]
   by_cases h3 : y0 = 3
   · subst h3
     by_cases hz : y3.size ≤ 256
     · rw [wrong_lim _ hz]
       have : (y3.size : Int) ≤ 256 := by omega
       by_cases h1 : y1 = 0 <;> cases y2 <;> simp [h1,seq,hz,this]
     · have : ¬ (y3.size : Int) ≤ 256 := by omega
       by_cases h1 : y1 = 0 <;> cases y2 <;> simp [h1,seq,hz,this]
   · simp [h0,h1,h2,h3]
 · cases h
theorem value_Can.ok : AllOk specs_value_Can := allOk_cons ref01_Wrong.ok (fnOk_of (by kernel_rfl)) (sealed_of (kp := false) (ok_ext _) (cok_of ref01_Wrong.ok) fun args cs n K r h => by
 unfold value_Can.spec at h
 dsimp only [lcSt] at h
 split at h
 · obtain ⟨v,h1,h2⟩ := bind2 h
   obtain ⟨m,h4⟩ := value_Can.ev _ _ _ _ v h1
   exact ⟨m,_,_,h4,h2⟩
 · cases h)
theorem ref07_Can.ev (y0 : Int) (y1 : Int) (y2 : Bool) (y3 : ByteArray) (v : Bool) (h : (if y3.size ≤ 900000 then some (canV y0 y1 y2 y3) else none) = some v) : ∃ m,callX false (fnF cx_ref07_Can noCalls m 108) [.agg [.int .i64 y0,.int .i64 y1,.bool y2,.str y3]] (lcSt [] 0) out = some (.ret (.bool v),lcRet [] [] 0) := by
 split at h
 · rename_i hs
   obtain rfl := Option.some.inj h
   refine ⟨0,?_⟩
   rw [ref07_Can.top]
   show _ = some (Res.ret (AVal.bool (Values.canV y0 y1 y2 y3)),lcRet [] [] 0)
   unfold Values.canV
   simp only [← seq_nil]
   by_cases h0 : y0 = 0
   · subst h0
     cases y2 <;> simp
   by_cases h1 : y0 = 1
   · subst h1
     cases y2 <;> simp
   by_cases h2 : y0 = 2
   · subst h2
     simp
   by_cases h3 : y0 = 3
   · subst h3
     by_cases hz : y3.size ≤ 256
     · rw [wrongR_lim _ hz]
       have : (y3.size : Int) ≤ 256 := by omega
       by_cases h1 : y1 = 0 <;> cases y2 <;> simp [h1,seq,hz,this]
     · have : ¬ (y3.size : Int) ≤ 256 := by omega
       by_cases h1 : y1 = 0 <;> cases y2 <;> simp [h1,seq,hz,this]
   · simp [h0,h1,h2,h3]
 · cases h
theorem ref07_Can.ok : AllOk specs_ref07_Can := allOk_cons value_Can.ok (fnOk_of (by kernel_rfl)) (sealed_of (kp := false) (ok_ext _) (cok_of value_Can.ok) fun args cs n K r h => by
 unfold ref07_Can.spec at h
 dsimp only [lcSt] at h
 split at h
 · obtain ⟨v,h1,h2⟩ := bind2 h
   obtain ⟨m,h4⟩ := ref07_Can.ev _ _ _ _ v h1
   exact ⟨m,_,_,h4,h2⟩
 · cases h)
theorem value_sortOf.ev (z : Int) (v : Int) (h : (some (sortZ z)) = some v) : ∃ m,callX false (fnF cx_value_sortOf noCalls m 90) [.int .i64 z] (lcSt [] 0) out = some (.ret (.int .i64 v),lcRet [] [] 0) := by
 obtain rfl := Option.some.inj h
 refine ⟨0,?_⟩
 rw [value_sortOf.top]
 unfold sortZ Values.sortV
 simp only [ite_or,beq_iff_eq]
 repeat' split
 all_goals first | rfl | (exfalso; omega)
theorem value_sortOf.ok : AllOk specs_value_sortOf := allOk_cons ref07_Can.ok (fnOk_of (by kernel_rfl)) (sealed_of (kp := false) (ok_ext _) (cok_of ref07_Can.ok) fun args cs n K r h => by
 unfold value_sortOf.spec at h
 dsimp only [lcSt] at h
 split at h
 · obtain ⟨v,h1,h2⟩ := bind2 h
   obtain ⟨m,h4⟩ := value_sortOf.ev _ v h1
   exact ⟨m,_,_,h4,h2⟩
 · cases h)
theorem value_Kind.ev (z : Int) (a : Int) (b : Int) (v : Int × Bool) (h : (some (kindV z a b)) = some v) : ∃ m,callX false (fnF cx_value_Kind noCalls m 44) [.int .i64 z,.int .i64 a,.int .i64 b] (lcSt [] 0) out = some (.ret (.tup [.int .i64 v.1,.bool v.2]),lcRet [] [] 0) := by
 obtain rfl := Option.some.inj h
 refine ⟨0,?_⟩
 rw [value_Kind.top]
 show _ = some (Res.ret (AVal.tup [AVal.int .i64 (Values.kindV z a b).1,AVal.bool (Values.kindV z a b).2]),lcRet [] [] 0)
 by_cases hz : z < 5 ∨ 19 < z
 · rw [show sortZ z = 0 from Values.sortV_out z hz,Values.kindV_out z a b hz]; rfl
 rcases Values.op_in z hz with rfl | rfl | rfl | rfl | rfl | rfl | rfl | rfl | rfl | rfl | rfl | rfl | rfl | rfl | rfl
 all_goals (simp only [sortZ,Values.sortV,Values.kindV]; simp; repeat' split)
 all_goals first | rfl | (exfalso; omega)
theorem value_Kind.ok : AllOk specs_value_Kind := allOk_cons value_sortOf.ok (fnOk_of (by kernel_rfl)) (sealed_of (kp := false) (ok_ext _) (cok_of value_sortOf.ok) fun args cs n K r h => by
 unfold value_Kind.spec at h
 dsimp only [lcSt] at h
 split at h
 · obtain ⟨v,h1,h2⟩ := bind2 h
   obtain ⟨m,h4⟩ := value_Kind.ev _ _ _ v h1
   exact ⟨m,_,_,h4,h2⟩
 · cases h)
theorem ref07_Kind.ev (z : Int) (a : Int) (b : Int) (v : Int × Bool) (h : (some (kindV z a b)) = some v) : ∃ m,callX false (fnF cx_ref07_Kind noCalls m 53) [.int .i64 z,.int .i64 a,.int .i64 b] (lcSt [] 0) out = some (.ret (.tup [.int .i64 v.1,.bool v.2]),lcRet [] [] 0) := by
 obtain rfl := Option.some.inj h
 refine ⟨0,?_⟩
 rw [ref07_Kind.top]
 show _ = some (Res.ret (AVal.tup [AVal.int .i64 (Values.kindV z a b).1,AVal.bool (Values.kindV z a b).2]),lcRet [] [] 0)
 unfold Values.kindV
 simp only [ite_or,ite_and,beq_iff_eq,decide_eq_true_eq]
 repeat' split
 all_goals first | rfl | (exfalso; omega)
theorem ref07_Kind.ok : AllOk specs_ref07_Kind := allOk_cons value_Kind.ok (fnOk_of (by kernel_rfl)) (sealed_of (kp := false) (ok_ext _) (cok_of value_Kind.ok) fun args cs n K r h => by
 unfold ref07_Kind.spec at h
 dsimp only [lcSt] at h
 split at h
 · obtain ⟨v,h1,h2⟩ := bind2 h
   obtain ⟨m,h4⟩ := ref07_Kind.ev _ _ _ v h1
   exact ⟨m,_,_,h4,h2⟩
 · cases h)
theorem nmP_ne (j : Int) : (seq (nmP j) (⟨#[]⟩ : ByteArray) = false) = (1 ≤ j ∧ j ≤ 8) := by
 apply propext
 constructor
 · intro h
   unfold nmP at h
   split at h
   · rw [show seq (⟨#[]⟩ : ByteArray) (⟨#[]⟩ : ByteArray) = true from rfl] at h; cases h
   · split at h
     · rw [show seq (⟨#[]⟩ : ByteArray) (⟨#[]⟩ : ByteArray) = true from rfl] at h; cases h
     · omega
 · intro h
   have : j = 1 ∨ j = 2 ∨ j = 3 ∨ j = 4 ∨ j = 5 ∨ j = 6 ∨ j = 7 ∨ j = 8 := by omega
   rcases this with rfl | rfl | rfl | rfl | rfl | rfl | rfl | rfl <;> rfl
theorem seq_self (s : ByteArray) : seq s s = true := by simp [seq]
theorem expr_right.l1 (n k : Nat) (a0 a1 a2 : Int) (a3 : Bool) (a4 a5 : ByteArray) (a6 : Int) (a7 : List Node) (b0 b1 b2 : Int) (b3 : Bool) (b4 b5 : ByteArray) (b6 : Int) (b7 : List Node) (c0 c1 c2 : Int) (c3 : Bool) (c4 c5 : ByteArray) (c6 : Int) (c7 : List Node) (l : List Node) (hl : l.length ≤ 1000000) : ∀ (j m : Nat) (i : Int) (v : Bool),0 ≤ i → j + i = l.length → j + 1 ≤ m → allW (rightW k) (l.drop i.toNat) = some v →
 expr_right.L1 n m k a0 a1 a2 a3 a4 a5 a6 a7 l l.length i b0 b1 b2 b3 b4 b5 b6 b7 c0 c1 c2 c3 c4 c5 c6 c7 = some (.ret (.bool v),lcRet [] [] 0) := by
 intro j
 induction j with
 | zero =>
  intro m i v h0 h1 h2 h
  obtain ⟨m,rfl⟩ : ∃ m',m = m' + 1 := ⟨m - 1,by omega⟩
  rw [List.drop_eq_nil_of_le (by omega),allW] at h
  obtain rfl := Option.some.inj h
  rw [expr_right.L1_s,if_neg (by simp; omega)]
 | succ j ih =>
  intro m i v h0 h1 h2 h
  obtain ⟨m,rfl⟩ : ∃ m',m = m' + 1 := ⟨m - 1,by omega⟩
  have hlt : i.toNat < l.length := by omega
  rw [List.drop_eq_getElem_cons hlt,allW] at h
  obtain ⟨e,h3,h4⟩ := bind2 h
  rw [expr_right.L1_s,if_pos (by simp; omega),if_pos h0,nth_at hlt,Option.bind_some,nd_y,h3,Option.bind_some]
  cases e with
  | false =>
   rw [if_neg (by decide)] at h4
   obtain rfl := Option.some.inj h4
   rw [if_pos (by decide)]
  | true =>
   rw [if_pos rfl] at h4
   rw [if_neg (by decide),wrS i h0 (by omega)]
   refine ih m (i + 1) v (by omega) (by omega) (by omega) ?_
   rw [show (i + 1).toNat = i.toNat + 1 from by omega]
   exact h4
theorem expr_right.ev (k : Nat) (a0 : Int) (a1 : Int) (a2 : Int) (a3 : Bool) (a4 : ByteArray) (a5 : ByteArray) (a6 : Int) (a7 : List (Node)) (v : Bool) (h : (rightW (k + 1) (nd a0 a1 a2 a3 a4 a5 a6 a7)) = some v) : ∃ m,callX false (fnF cx_expr_right (expr_right.rec k) m 41) [.agg [.int .i64 a0,.int .i64 a1,.int .i64 a2,.bool a3,.str a4,.str a5,.int .i64 a6,.sl (.user 0) a7 .no]] (lcSt [] 0) out = some (.ret (.bool v),lcRet [] [] 0) := by
 rw [rightW_nd] at h
 split at h
 · rename_i hs
   refine ⟨a7.length + 1,?_⟩
   rw [expr_right.top]
   have hx := kids_le a0
   by_cases hA : aloneB a0 a1 a2 a3 a4 a5 a6 = true ∧ (a7.length : Int) = kidsZ a0
   · rw [if_pos hA] at h
     obtain ⟨hA,hK⟩ := hA
     have fin : ∀ c0 c1 c2 c3 c4 c5 c6 c7,expr_right.L0 (a7.length + 1) (a7.length + 1) k a0 a1 a2 a3 a4 a5 a6 a7 a7 a7.length 0 a0 a1 a2 a3 a4 a5 a6 a7 c0 c1 c2 c3 c4 c5 c6 c7 = some (.ret (.bool v),lcRet [] [] 0) := fun c0 c1 c2 c3 c4 c5 c6 c7 => by
      rw [expr_right.L0_s,← expr_right.L1_s]
      exact expr_right.l1 _ _ _ _ _ _ _ _ _ _ _ _ _ _ _ _ _ _ _ _ _ _ _ _ _ _ a7 (by omega) a7.length _ 0 v (by omega) (by omega) (Nat.le_refl _) h
     have hk : ((a7.length : Int) != kidsZ a0) = false := by simp [hK]
     unfold aloneB none4 at hA
     by_cases h1 : a0 = 1
     · rw [if_pos h1] at hA
       simp only [Bool.and_eq_true,decide_eq_true_eq] at hA
       obtain ⟨g1,g2,g3,g4,g5⟩ := hA
       rw [if_pos (by simpa using h1),if_pos hs.1]
       simp only [Option.bind_some]
       rw [if_neg (by simp [g1,g2,g3]),if_neg (by simp [seq_self]),if_neg (by simp [g4]),if_neg (by simp [g5]),if_neg (by simp [hk])]
       exact fin _ _ _ _ _ _ _ _
     rw [if_neg h1] at hA
     by_cases h2 : a0 = 2 ∨ a0 = 3
     · rw [if_pos h2] at hA
       simp only [Bool.and_eq_true,decide_eq_true_eq,Bool.not_eq_true'] at hA
       obtain ⟨⟨g1,g2,g3,g4⟩,g5,g6⟩ := hA
       rw [if_neg (by simpa using h1),if_pos (by simpa using h2),if_pos hs.2]
       simp only [Option.bind_some]
       rw [if_neg (by simp [g5]),if_neg (by simp [g1,g2,g3,g4]),if_neg (by simp [seq_self]),if_neg (by simp [g6]),if_neg (by simp [hk])]
       exact fin _ _ _ _ _ _ _ _
     rw [if_neg h2] at hA
     by_cases h4 : a0 = 4
     · rw [if_pos h4] at hA
       simp only [Bool.and_eq_true,decide_eq_true_eq,Bool.not_eq_true'] at hA
       obtain ⟨⟨g1,g2,g3,g4⟩,g5,g6⟩ := hA
       have g7 : seq (nmP a6) (⟨#[]⟩ : ByteArray) = false := by rw [nmP_ne]; exact g6
       rw [if_neg (by simpa using h1),if_neg (by simpa using h2),if_pos (by simpa using h4),if_pos hs.2]
       simp only [Option.bind_some]
       rw [if_pos g5,if_neg (by simp [g7]),if_neg (by simp [g1,g2,g3,g4]),if_neg (by simp [seq_self]),if_neg (by simp),if_neg (by simp [hk])]
       exact fin _ _ _ _ _ _ _ _
     · rw [if_neg h4] at hA
       simp only [Bool.and_eq_true,decide_eq_true_eq,Bool.not_eq_true'] at hA
       obtain ⟨⟨g1,g2,g3,g4⟩,g5,g6⟩ := hA
       rw [if_neg (by simpa using h1),if_neg (by simpa using h2),if_neg (by simpa using h4)]
       rw [if_neg (by simp [g1,g2,g3,g4]),if_neg (by simp [g5]),if_neg (by simp [g6]),if_neg (by simp [hk])]
       exact fin _ _ _ _ _ _ _ _
   · rw [if_neg hA] at h
     obtain rfl := Option.some.inj h
     unfold aloneB none4 at hA
     by_cases h1 : a0 = 1
     · rw [if_pos h1] at hA
       rw [if_pos (by simpa using h1),if_pos hs.1]
       simp only [Option.bind_some]
       repeat' split
       all_goals first | rfl | contradiction | (exfalso; apply hA; clear hA hs hx h; simp_all [seq_self])
     rw [if_neg h1] at hA
     by_cases h2 : a0 = 2 ∨ a0 = 3
     · rw [if_pos h2] at hA
       rw [if_neg (by simpa using h1),if_pos (by simpa using h2),if_pos hs.2]
       simp only [Option.bind_some]
       repeat' split
       all_goals first | rfl | contradiction | (exfalso; apply hA; clear hA hs hx h; simp_all [seq_self])
     rw [if_neg h2] at hA
     by_cases h4 : a0 = 4
     · rw [if_pos h4] at hA
       have g7 := nmP_ne a6
       rw [if_neg (by simpa using h1),if_neg (by simpa using h2),if_pos (by simpa using h4),if_pos hs.2]
       simp only [Option.bind_some]
       repeat' split
       all_goals first | rfl | contradiction | (exfalso; apply hA; clear hA hs hx h; simp_all [seq_self])
     · rw [if_neg h4] at hA
       rw [if_neg (by simpa using h1),if_neg (by simpa using h2),if_neg (by simpa using h4)]
       repeat' split
       all_goals first | rfl | contradiction | (exfalso; apply hA; clear hA hs hx h; simp_all [seq_self])
 · cases h
theorem expr_right.step (k : Nat) (h0 : CallOkL Tryz.prog C0 41 (expr_right.specR k)) : CallOkL Tryz.prog C0 41 (expr_right.specR (k + 1)) :=
 sealed_of (kp := false) (ok_ext _) (rec_cok (l := [(41,expr_right.specR k)]) ref07_Kind.ok (fun x hx => by
  obtain rfl := List.mem_singleton.1 hx
  exact ⟨fnOk_of (by kernel_rfl),h0⟩)) fun args cs n K r h => by
  unfold expr_right.specR at h
  dsimp only [lcSt] at h
  split at h
  · obtain ⟨v,h1,h2⟩ := bind2 h
    obtain ⟨m,h4⟩ := expr_right.ev k _ _ _ _ _ _ _ _ v h1
    exact ⟨m,_,_,h4,h2⟩
  · cases h
theorem expr_right.zero : CallOkL Tryz.prog C0 41 (expr_right.specR 0) := fun args cs n K r h => by
 unfold expr_right.specR at h
 dsimp only [lcSt] at h
 split at h
 · obtain ⟨v,h1,h2⟩ := bind2 h
   exact absurd h1 (by first | (simp [rightW]; done) | (unfold rightW; simp))
 · cases h
theorem expr_right.recOk : ∀ k,CallOkL Tryz.prog C0 41 (expr_right.specR k)
 | 0 => expr_right.zero
 | k + 1 => expr_right.step k (expr_right.recOk k)
theorem expr_right.ok : AllOk specs_expr_right := allOk_cons ref07_Kind.ok (fnOk_of (by kernel_rfl)) fun args cs n K r h => by
 unfold expr_right.spec at h
 dsimp only [lcSt] at h
 split at h
 · rename_i a0 a1 a2 a3 a4 a5 a6 a7
   refine expr_right.recOk (big a7) _ _ _ K r ?_
   unfold expr_right.specR
   exact h
 · cases h
theorem expr_Can.ev (a0 : Int) (a1 : Int) (a2 : Int) (a3 : Bool) (a4 : ByteArray) (a5 : ByteArray) (a6 : Int) (a7 : List (Node)) (v : Bool) (h : (canW (nd a0 a1 a2 a3 a4 a5 a6 a7)) = some v) : ∃ m,callX false (fnF cx_expr_Can noCalls m 27) [.agg [.int .i64 a0,.int .i64 a1,.int .i64 a2,.bool a3,.str a4,.str a5,.int .i64 a6,.sl (.user 0) a7 .no]] (lcSt [] 0) out = some (.ret (.bool v),lcRet [] [] 0) := by
 refine ⟨0,?_⟩
 rw [expr_Can.top]
 unfold canW at h
 simp only [ndx] at h
 obtain ⟨d,h1,h2⟩ := bind2 h
 rw [h1]
 simp only [Option.bind_some]
 split at h2
 · rename_i hd
   rw [if_pos (by simpa using hd),h2]
   rfl
 · rename_i hd
   rw [if_neg (by simpa using hd)]
   obtain rfl := Option.some.inj h2
   rfl
theorem expr_Can.ok : AllOk specs_expr_Can := allOk_cons expr_right.ok (fnOk_of (by kernel_rfl)) (sealed_of (kp := false) (ok_ext _) (cok_of expr_right.ok) fun args cs n K r h => by
 unfold expr_Can.spec at h
 dsimp only [lcSt] at h
 split at h
 · obtain ⟨v,h1,h2⟩ := bind2 h
   obtain ⟨m,h4⟩ := expr_Can.ev _ _ _ _ _ _ _ _ v h1
   exact ⟨m,_,_,h4,h2⟩
 · cases h)
theorem ref_alone.ev (a0 : Int) (a1 : Int) (a2 : Int) (a3 : Bool) (a4 : ByteArray) (a5 : ByteArray) (a6 : Int) (a7 : List (Node)) (v : Bool) (h : (if a4.size ≤ 900000 ∧ a5.size ≤ 900000 then some (aloneB a0 a1 a2 a3 a4 a5 a6) else none) = some v) : ∃ m,callX false (fnF cx_ref_alone noCalls m 101) [.agg [.int .i64 a0,.int .i64 a1,.int .i64 a2,.bool a3,.str a4,.str a5,.int .i64 a6,.sl (.user 0) a7 .no]] (lcSt [] 0) out = some (.ret (.bool v),lcRet [] [] 0) := by
 split at h
 · rename_i hs
   obtain rfl := Option.some.inj h
   refine ⟨0,?_⟩
   rw [ref_alone.top]
   unfold aloneB none4
   by_cases h1 : a0 = 1
   · subst h1
     simp only [if_pos hs.1]
     cases canV a1 a2 a3 a4 <;> by_cases e1 : a1 = 0 <;> by_cases e2 : 0 ≤ a2 <;> cases seq a5 (⟨#[]⟩ : ByteArray) <;> by_cases e3 : a6 = 0 <;> simp [e1,e2,e3]
   by_cases h2 : a0 = 2 ∨ a0 = 3
   · rw [if_neg (by simpa using h1),if_pos (by simpa using h2),if_neg h1,if_pos h2]
     simp only [if_pos hs.2]
     by_cases e1 : a1 = 0 <;> by_cases e2 : a2 = 0 <;> cases a3 <;> cases seq a4 (⟨#[]⟩ : ByteArray) <;> cases pathB a5 <;> by_cases e3 : a6 = 0 <;> simp [e1,e2,e3]
   by_cases h4 : a0 = 4
   · rw [if_neg (by simpa using h1),if_neg (by simpa using h2),if_pos (by simpa using h4),if_neg h1,if_neg h2,if_pos h4]
     simp only [if_pos hs.2]
     by_cases e1 : a1 = 0 <;> by_cases e2 : a2 = 0 <;> cases a3 <;> cases seq a4 (⟨#[]⟩ : ByteArray) <;> cases namedB a5 <;> by_cases e3 : 1 ≤ a6 <;> by_cases e4 : a6 ≤ 8 <;> simp [e1,e2,e3,e4]
   · rw [if_neg (by simpa using h1),if_neg (by simpa using h2),if_neg (by simpa using h4),if_neg h1,if_neg h2,if_neg h4]
     by_cases e1 : a1 = 0 <;> by_cases e2 : a2 = 0 <;> cases a3 <;> cases seq a4 (⟨#[]⟩ : ByteArray) <;> cases seq a5 (⟨#[]⟩ : ByteArray) <;> by_cases e3 : a6 = 0 <;> simp [e1,e2,e3]
 · cases h
theorem ref_alone.ok : AllOk specs_ref_alone := allOk_cons expr_Can.ok (fnOk_of (by kernel_rfl)) (sealed_of (kp := false) (ok_ext _) (cok_of expr_Can.ok) fun args cs n K r h => by
 unfold ref_alone.spec at h
 dsimp only [lcSt] at h
 split at h
 · obtain ⟨v,h1,h2⟩ := bind2 h
   obtain ⟨m,h4⟩ := ref_alone.ev _ _ _ _ _ _ _ _ v h1
   exact ⟨m,_,_,h4,h2⟩
 · cases h)
theorem ref_can.l1 (n k : Nat) (a0 a1 a2 : Int) (a3 : Bool) (a4 a5 : ByteArray) (a6 : Int) (a7 : List Node) (b0 b1 b2 : Int) (b3 : Bool) (b4 b5 : ByteArray) (b6 : Int) (b7 : List Node) (l : List Node) (hl : l.length ≤ 1000000) : ∀ (j m : Nat) (i : Int) (v : Bool),0 ≤ i → j + i = l.length → j + 1 ≤ m → allW (rightW k) (l.drop i.toNat) = some v →
 ref_can.L1 n m k a0 a1 a2 a3 a4 a5 a6 a7 l l.length i b0 b1 b2 b3 b4 b5 b6 b7 = some (.ret (.bool v),lcRet [] [] 0) := by
 intro j
 induction j with
 | zero =>
  intro m i v h0 h1 h2 h
  obtain ⟨m,rfl⟩ : ∃ m',m = m' + 1 := ⟨m - 1,by omega⟩
  rw [List.drop_eq_nil_of_le (by omega),allW] at h
  obtain rfl := Option.some.inj h
  rw [ref_can.L1_s,if_neg (by simp; omega)]
 | succ j ih =>
  intro m i v h0 h1 h2 h
  obtain ⟨m,rfl⟩ : ∃ m',m = m' + 1 := ⟨m - 1,by omega⟩
  have hlt : i.toNat < l.length := by omega
  rw [List.drop_eq_getElem_cons hlt,allW] at h
  obtain ⟨e,h3,h4⟩ := bind2 h
  rw [ref_can.L1_s,if_pos (by simp; omega),if_pos h0,nth_at hlt,Option.bind_some,nd_y,h3,Option.bind_some]
  cases e with
  | false =>
   rw [if_neg (by decide)] at h4
   obtain rfl := Option.some.inj h4
   rw [if_pos (by decide)]
  | true =>
   rw [if_pos rfl] at h4
   rw [if_neg (by decide),wrS i h0 (by omega)]
   refine ih m (i + 1) v (by omega) (by omega) (by omega) ?_
   rw [show (i + 1).toNat = i.toNat + 1 from by omega]
   exact h4
theorem ref_can.ev (k : Nat) (a0 : Int) (a1 : Int) (a2 : Int) (a3 : Bool) (a4 : ByteArray) (a5 : ByteArray) (a6 : Int) (a7 : List (Node)) (v : Bool) (h : (rightW (k + 1) (nd a0 a1 a2 a3 a4 a5 a6 a7)) = some v) : ∃ m,callX false (fnF cx_ref_can (ref_can.rec k) m 50) [.agg [.int .i64 a0,.int .i64 a1,.int .i64 a2,.bool a3,.str a4,.str a5,.int .i64 a6,.sl (.user 0) a7 .no]] (lcSt [] 0) out = some (.ret (.bool v),lcRet [] [] 0) := by
 rw [rightW_nd] at h
 split at h
 · rename_i hs
   have hx := kids_le a0
   refine ⟨a7.length + 1,?_⟩
   rw [ref_can.top,if_pos hs]
   simp only [Option.bind_some]
   split at h
   · rename_i hc
     rw [if_neg (by simp [hc.2]),if_neg (by simp [hc.1]),ref_can.L0_s,← ref_can.L1_s]
     exact ref_can.l1 _ _ _ _ _ _ _ _ _ _ _ _ _ _ _ _ _ _ a7 (by omega) a7.length _ 0 v (by omega) (by omega) (Nat.le_refl _) h
   · rename_i hc
     obtain rfl := Option.some.inj h
     by_cases hk : (a7.length : Int) = kidsZ a0
     · rw [if_neg (by simp [hk]),if_pos]
       have : ¬ aloneB a0 a1 a2 a3 a4 a5 a6 = true := fun q => hc ⟨q,hk⟩
       simp [this]
     · rw [if_pos (by simpa using hk)]
 · cases h
theorem ref_can.step (k : Nat) (h0 : CallOkL Tryz.prog C0 50 (ref_can.specR k)) : CallOkL Tryz.prog C0 50 (ref_can.specR (k + 1)) :=
 sealed_of (kp := false) (ok_ext _) (rec_cok (l := [(50,ref_can.specR k)]) ref_alone.ok (fun x hx => by
  obtain rfl := List.mem_singleton.1 hx
  exact ⟨fnOk_of (by kernel_rfl),h0⟩)) fun args cs n K r h => by
  unfold ref_can.specR at h
  dsimp only [lcSt] at h
  split at h
  · obtain ⟨v,h1,h2⟩ := bind2 h
    obtain ⟨m,h4⟩ := ref_can.ev k _ _ _ _ _ _ _ _ v h1
    exact ⟨m,_,_,h4,h2⟩
  · cases h
theorem ref_can.zero : CallOkL Tryz.prog C0 50 (ref_can.specR 0) := fun args cs n K r h => by
 unfold ref_can.specR at h
 dsimp only [lcSt] at h
 split at h
 · obtain ⟨v,h1,h2⟩ := bind2 h
   exact absurd h1 (by first | (simp [rightW]; done) | (unfold rightW; simp))
 · cases h
theorem ref_can.recOk : ∀ k,CallOkL Tryz.prog C0 50 (ref_can.specR k)
 | 0 => ref_can.zero
 | k + 1 => ref_can.step k (ref_can.recOk k)
theorem ref_can.ok : AllOk specs_ref_can := allOk_cons ref_alone.ok (fnOk_of (by kernel_rfl)) fun args cs n K r h => by
 unfold ref_can.spec at h
 dsimp only [lcSt] at h
 split at h
 · rename_i a0 a1 a2 a3 a4 a5 a6 a7
   refine ref_can.recOk (big a7) _ _ _ K r ?_
   unfold ref_can.specR
   exact h
 · cases h
theorem ref_Can.ev (a0 : Int) (a1 : Int) (a2 : Int) (a3 : Bool) (a4 : ByteArray) (a5 : ByteArray) (a6 : Int) (a7 : List (Node)) (v : Bool) (h : (canW (nd a0 a1 a2 a3 a4 a5 a6 a7)) = some v) : ∃ m,callX false (fnF cx_ref_Can noCalls m 32) [.agg [.int .i64 a0,.int .i64 a1,.int .i64 a2,.bool a3,.str a4,.str a5,.int .i64 a6,.sl (.user 0) a7 .no]] (lcSt [] 0) out = some (.ret (.bool v),lcRet [] [] 0) := by
 refine ⟨0,?_⟩
 rw [ref_Can.top]
 unfold canW at h
 simp only [ndx] at h
 obtain ⟨d,h1,h2⟩ := bind2 h
 rw [h1]
 simp only [Option.bind_some]
 split at h2
 · rename_i hd
   rw [if_pos (by simpa using hd),h2]
   rfl
 · rename_i hd
   rw [if_neg (by simpa using hd)]
   obtain rfl := Option.some.inj h2
   rfl
theorem ref_Can.ok : AllOk specs_ref_Can := allOk_cons ref_can.ok (fnOk_of (by kernel_rfl)) (sealed_of (kp := false) (ok_ext _) (cok_of ref_can.ok) fun args cs n K r h => by
 unfold ref_Can.spec at h
 dsimp only [lcSt] at h
 split at h
 · obtain ⟨v,h1,h2⟩ := bind2 h
   obtain ⟨m,h4⟩ := ref_Can.ev _ _ _ _ _ _ _ _ v h1
   exact ⟨m,_,_,h4,h2⟩
 · cases h)
theorem idxP_has (s : ByteArray) : ∀ (l : List ByteArray) (i : Int),0 ≤ i → decide (idxP s l i ≥ 0) = hasS l s
 | [],i,h => rfl
 | x :: r,i,h => by
  unfold hasS
  rw [idxP,List.any_cons]
  by_cases hx : seq s x = true
  · rw [if_pos hx,seq_comm x s,hx,Bool.true_or,decide_eq_true h]
  · have hx' : seq s x = false := by simpa using hx
    rw [if_neg hx,seq_comm x s,hx',Bool.false_or]
    exact idxP_has s r (i + 1) (by omega)
theorem slices_ContainsS.ev (a : List (ByteArray)) (s : ByteArray) (v : Bool) (h : (if a.length ≤ 1000 then some (hasS a s) else none) = some v) : ∃ m,callX false (fnF cx_slices_ContainsS noCalls m 42) [.sl .str a .no,.str s] (lcSt [] 0) out = some (.ret (.bool v),lcRet [] [] 0) := by
 split at h
 · rename_i ha
   obtain rfl := Option.some.inj h
   refine ⟨0,?_⟩
   rw [slices_ContainsS.top,if_pos ha]
   simp only [Option.bind_some]
   rw [idxP_has s a 0 (by decide)]
 · cases h
theorem slices_ContainsS.ok : AllOk specs_slices_ContainsS := allOk_cons ref_Can.ok (fnOk_of (by kernel_rfl)) (sealed_of (kp := false) (ok_ext _) (cok_of ref_Can.ok) fun args cs n K r h => by
 unfold slices_ContainsS.spec at h
 dsimp only [lcSt] at h
 split at h
 · obtain ⟨v,h1,h2⟩ := bind2 h
   obtain ⟨m,h4⟩ := slices_ContainsS.ev _ _ v h1
   exact ⟨m,_,_,h4,h2⟩
 · cases h)
theorem check_file1.ev (a0 : ByteArray) (a1 : Int) (a2 : Int) (a3 : List (FileItem)) (a4 : List (ByteArray)) (t : ByteArray) (v : Bool) (h : (some (seq a0 t)) = some v) : ∃ m,callX false (fnF cx_check_file1 noCalls m 89) [.agg [.str a0,.int .i64 a1,.int .i64 a2,.sl (.user 1) a3 .no,.sl .str a4 .no],.ptr 0 0] (lcSt [[.str t]] 0) out = some (.ret (.bool v),lcRet [[.str t]] [] 0) := by
 obtain rfl := Option.some.inj h
 exact ⟨0,check_file1.top 0 a0 a1 a2 a3 a4 t⟩
theorem check_file1.ok : AllOk specs_check_file1 := allOk_cons slices_ContainsS.ok (fnOk_of (by kernel_rfl)) (sealed_of (kp := false) (ok_ext _) (cok_of slices_ContainsS.ok) fun args cs n K r h => by
 unfold check_file1.spec at h
 dsimp only [lcSt] at h
 split at h
 · obtain ⟨v,h1,h2⟩ := bind2 h
   obtain ⟨m,h4⟩ := check_file1.ev _ _ _ _ _ _ v h1
   exact ⟨m,_,_,h4,h2⟩
 · cases h)
theorem slices_FindF.l_ev (n : Nat) (l0 : List FileItem) (t0 t : ByteArray) (l : List FileItem) (hl : l.length ≤ 9223372036854775807) : ∀ (k m i : Nat),i + k = l.length → k + 1 ≤ m → slices_FindF.L1 n m l0 t0 l (l.length : Int) (i : Int) t = some (.ret (.int .i64 (idxN t (l.drop i) (i : Int))),lcRet [[.str t]] [] 0) := by
 intro k
 induction k with
 | zero =>
  intro m i h1 h2
  obtain ⟨m,rfl⟩ : ∃ m',m = m' + 1 := ⟨m - 1,by omega⟩
  rw [slices_FindF.L1_s,if_neg (by simp; omega),List.drop_of_length_le (by omega)]
  rfl
 | succ k ih =>
  intro m i h1 h2
  obtain ⟨m,rfl⟩ : ∃ m',m = m' + 1 := ⟨m - 1,by omega⟩
  have hlt : i < l.length := by omega
  rw [slices_FindF.L1_s,if_pos (by simp; omega),if_pos (by omega),show ((i : Int)).toNat = i from by omega,nth_at hlt,List.drop_eq_getElem_cons hlt,idxN,wrN i (by omega),ih m (i + 1) (by omega) (by omega)]
  simp only [Option.bind_some]
  rw [show ((i : Int)) + 1 = ((i + 1 : Nat) : Int) from by omega]
  split <;> rfl
theorem slices_FindF.ev (l : List (FileItem)) (t : ByteArray) (v : Int) (h : (if l.length ≤ 9223372036854775807 then some (idxN t l 0) else none) = some v) : ∃ m,callX false (fnF cx_slices_FindF noCalls m 88) [.sl (.user 1) l .no,.fn 89 [.ptr 0 0]] (lcSt [[.str t]] 0) out = some (.ret (.int .i64 v),lcRet [[.str t]] [] 0) := by
 split at h
 · rename_i hl
   obtain rfl := Option.some.inj h
   refine ⟨l.length + 1,?_⟩
   rw [slices_FindF.top,slices_FindF.L0_s,← slices_FindF.L1_s]
   exact slices_FindF.l_ev _ l t t l hl l.length _ 0 (by omega) (Nat.le_refl _)
 · cases h
theorem slices_FindF.ok : AllOk specs_slices_FindF := allOk_cons check_file1.ok (fnOk_of (by kernel_rfl)) (sealed_of (kp := false) (ok_ext _) (cok_of check_file1.ok) fun args cs n K r h => by
 unfold slices_FindF.spec at h
 dsimp only [lcSt] at h
 split at h
 · obtain ⟨v,h1,h2⟩ := bind2 h
   obtain ⟨m,h4⟩ := slices_FindF.ev _ _ v h1
   exact ⟨m,_,_,h4,h2⟩
 · cases h)
theorem idxN_none {p : ByteArray} : ∀ {l : List FileItem} {i : Int},firstN p l = none → idxN p l i = -1
 | [],_,_ => rfl
 | f :: r,i,h => by
  unfold firstN at h
  unfold idxN
  split at h
  · cases h
  · rename_i hp
    rw [if_neg hp]; exact idxN_none h
theorem idxN_some {p : ByteArray} : ∀ {l : List FileItem} {i : Int} {f : FileItem},firstN p l = some f → ∃ j : Nat,idxN p l i = i + j ∧ l[j]? = some f
 | [],_,_,h => by cases h
 | g :: r,i,f,h => by
  unfold firstN at h
  unfold idxN
  split at h
  · rename_i hp
    obtain rfl := Option.some.inj h
    exact ⟨0,by rw [if_pos hp]; omega,rfl⟩
  · rename_i hp
    obtain ⟨j,h1,h2⟩ := idxN_some (i := i + 1) h
    exact ⟨j + 1,by rw [if_neg hp,h1]; omega,by simpa using h2⟩
theorem check_file.fin (n : Nat) (w0 : List FileItem) (w1 : List ByteArray) (s : ByteArray) (l : List ByteArray) (c3 : List FileItem) (c4 : List ByteArray) (m : Nat) (i : Int) (f : FileItem) (hi : ¬ i < (l.length : Int)) : check_file.L1 n (m + 1) w0 w1 s l l.length i c3 c4 f.x.1 f.x.2.1 f.x.2.2.1 f.x.2.2.2.1 f.x.2.2.2.2 = some (.ret (.tup [.agg (C0.flat 1 f),.bool true]),lcRet [] [] 0) := by
 rw [check_file.L1_s,if_neg (fun e => hi (of_decide_eq_true e))]
 rfl
theorem check_file.l1 (n : Nat) (w0 : List FileItem) (w1 : List ByteArray) (s : ByteArray) (l : List ByteArray) (hl : l.length ≤ 1000000) (c3 : List FileItem) (c4 : List ByteArray) : ∀ (k m i : Nat) (x5 : ByteArray) (x6 x7 : Int) (x8 : List FileItem) (x9 : List ByteArray) (v : FileItem × Bool),i + (k + 1) = l.length → k + 2 ≤ m → findG (l.drop i) x8 = some v →
 check_file.L1 n m w0 w1 s l l.length i c3 c4 x5 x6 x7 x8 x9 = some (.ret (.tup [.agg (C0.flat 1 v.1),.bool v.2]),lcRet [] [] 0) := by
 intro k
 induction k with
 | zero =>
  intro m i x5 x6 x7 x8 x9 v h1 h2 h
  obtain ⟨m,rfl⟩ : ∃ m',m = m' + 2 := ⟨m - 2,by omega⟩
  have hlt : i < l.length := by omega
  rw [List.drop_eq_getElem_cons hlt,List.drop_of_length_le (by omega),findG] at h
  split at h
  · rename_i hb
    rw [check_file.L1_s,if_pos (decide_eq_true (by omega)),if_pos (by omega),show ((i : Int)).toNat = i from by omega,nth_at hlt]
    simp only [Option.bind_some]
    rw [if_pos hb]
    simp only [Option.bind_some]
    cases e : firstN l[i] x8 with
    | none =>
     rw [e] at h
     obtain rfl := Option.some.inj h
     rw [idxN_none e,if_pos (by decide)]
     rfl
    | some f =>
     rw [e] at h
     obtain rfl := Option.some.inj h
     obtain ⟨j,h3,h4⟩ := idxN_some (i := 0) e
     rw [h3,if_neg (fun q => absurd (of_decide_eq_true q) (by omega)),if_pos (by omega),show (0 + (j : Int)).toNat = j from by omega,nth_get,h4]
     simp only [Option.bind_some]
     rw [wrN i (by omega)]
     exact check_file.fin n w0 w1 s l c3 c4 m _ f (by omega)
  · cases h
 | succ k ih =>
  intro m i x5 x6 x7 x8 x9 v h1 h2 h
  obtain ⟨m,rfl⟩ : ∃ m',m = m' + 1 := ⟨m - 1,by omega⟩
  have hlt : i < l.length := by omega
  have hlt2 : i + 1 < l.length := by omega
  rw [List.drop_eq_getElem_cons hlt,findG] at h
  split at h
  · rename_i hb
    rw [check_file.L1_s,if_pos (decide_eq_true (by omega)),if_pos (by omega),show ((i : Int)).toNat = i from by omega,nth_at hlt]
    simp only [Option.bind_some]
    rw [if_pos hb]
    simp only [Option.bind_some]
    cases e : firstN l[i] x8 with
    | none =>
     rw [e] at h
     obtain rfl := Option.some.inj h
     rw [idxN_none e,if_pos (by decide)]
     rfl
    | some f =>
     rw [e,List.drop_eq_getElem_cons hlt2] at h
     obtain ⟨j,h3,h4⟩ := idxN_some (i := 0) e
     rw [h3,if_neg (fun q => absurd (of_decide_eq_true q) (by omega)),if_pos (by omega),show (0 + (j : Int)).toNat = j from by omega,nth_get,h4]
     simp only [Option.bind_some]
     rw [wrN i (by omega)]
     refine ih m (i + 1) _ _ _ _ _ v (by omega) (by omega) ?_
     rw [List.drop_eq_getElem_cons hlt2]
     exact h
  · cases h
theorem check_file.ev (w0 : List (FileItem)) (w1 : List (ByteArray)) (s : ByteArray) (v : FileItem × Bool) (h : (fileW w0 s) = some v) : ∃ m,callX false (fnF cx_check_file noCalls m 43) [.agg [.sl (.user 1) w0 .no,.sl .str w1 .no],.str s] (lcSt [] 0) out = some (.ret (.tup [.agg (C0.flat 1 (v.1)),.bool v.2]),lcRet [] [] 0) := by
 unfold fileW at h
 split at h
 · rename_i hs
   have h3 := parts_len s
   have hne : 0 < (partsW s).length := by
    have e := Lib.splitB_all dotB (by decide) 0 (Lib.countB s dotB) s rfl
    show 0 < (splitW s dotB).length
    unfold splitW
    omega
   refine ⟨(partsW s).length + 1,?_⟩
   rw [check_file.top,if_pos ⟨by omega,by decide⟩,check_file.L0_s,← check_file.L1_s]
   exact check_file.l1 _ w0 w1 s (partsW s) (by omega) w0 w1 ((partsW s).length - 1) _ 0 _ _ _ _ _ v (by omega) (by omega) h
 · cases h
theorem check_file.ok : AllOk specs_check_file := allOk_cons slices_FindF.ok (fnOk_of (by kernel_rfl)) (sealed_of (kp := false) (ok_ext _) (cok_of slices_FindF.ok) fun args cs n K r h => by
 unfold check_file.spec at h
 dsimp only [lcSt] at h
 split at h
 · obtain ⟨v,h1,h2⟩ := bind2 h
   obtain ⟨m,h4⟩ := check_file.ev _ _ _ v h1
   exact ⟨m,_,_,h4,h2⟩
 · cases h)
theorem ref10_find.none_ (n k : Nat) (l0 : List FileItem) (p0 p : List ByteArray) (x : ByteArray) (hp : nth p 0 = some x) (l : List FileItem) (hl : l.length ≤ 9223372036854775807) (c4 : ByteArray) (c5 c6 : Int) (c7 : List FileItem) (c8 : List ByteArray) : ∀ (j m i : Nat),i + j = l.length → j + 1 ≤ m → firstN x (l.drop i) = none →
 ref10_find.L1 n m k l0 p0 p l l.length i c4 c5 c6 c7 c8 = some (.ret (.tup [.agg (C0.flat 1 nilF),.bool false]),lcRet [] [] 0) := by
 intro j
 induction j with
 | zero =>
  intro m i h1 h2 h
  obtain ⟨m,rfl⟩ : ∃ m',m = m' + 1 := ⟨m - 1,by omega⟩
  rw [ref10_find.L1_s,if_neg (fun e => absurd (of_decide_eq_true e) (by omega))]
  rfl
 | succ j ih =>
  intro m i h1 h2 h
  obtain ⟨m,rfl⟩ : ∃ m',m = m' + 1 := ⟨m - 1,by omega⟩
  have hlt : i < l.length := by omega
  rw [List.drop_eq_getElem_cons hlt,firstN] at h
  split at h
  · cases h
  · rename_i hx
    rw [ref10_find.L1_s,if_pos (decide_eq_true (by omega)),if_pos (by omega),show ((i : Int)).toNat = i from by omega,nth_at hlt]
    simp only [Option.bind_some]
    rw [show Int.toNat 0 = 0 from rfl,hp]
    simp only [Option.bind_some]
    rw [if_neg hx,wrN i (by omega)]
    exact ih m (i + 1) (by omega) (by omega) h
theorem ref10_find.some_ (n k : Nat) (l0 : List FileItem) (p0 p : List ByteArray) (x : ByteArray) (hp : nth p 0 = some x) (l : List FileItem) (hl : l.length ≤ 9223372036854775807) (c4 : ByteArray) (c5 c6 : Int) (c7 : List FileItem) (c8 : List ByteArray) (f : FileItem) : ∀ (j m i : Nat),i + j = l.length → j + 1 ≤ m → firstN x (l.drop i) = some f →
 ref10_find.L1 n m k l0 p0 p l l.length i c4 c5 c6 c7 c8 = (if ((p.length : Int) == 1) = true then some (.ret (.tup [.agg (C0.flat 1 f),.bool true]),lcRet [] [] 0) else if (1 : Int) ≤ (p.length : Int) then (findR k f.x.2.2.2.1 (p.drop 1)).bind fun v => some (.ret (.tup [.agg (C0.flat 1 v.1),.bool v.2]),lcRet [] [] 0) else none) := by
 intro j
 induction j with
 | zero =>
  intro m i h1 h2 h
  rw [List.drop_of_length_le (by omega)] at h
  cases h
 | succ j ih =>
  intro m i h1 h2 h
  obtain ⟨m,rfl⟩ : ∃ m',m = m' + 1 := ⟨m - 1,by omega⟩
  have hlt : i < l.length := by omega
  rw [List.drop_eq_getElem_cons hlt,firstN] at h
  rw [ref10_find.L1_s,if_pos (decide_eq_true (by omega)),if_pos (by omega),show ((i : Int)).toNat = i from by omega,nth_at hlt]
  simp only [Option.bind_some]
  rw [show Int.toNat 0 = 0 from rfl,hp]
  simp only [Option.bind_some]
  split at h
  · rename_i hx
    obtain rfl := Option.some.inj h
    rw [if_pos hx]
    rfl
  · rename_i hx
    rw [if_neg hx,wrN i (by omega)]
    exact ih m (i + 1) (by omega) (by omega) h
theorem ref10_find.ev (k : Nat) (l : List (FileItem)) (p : List (ByteArray)) (v : FileItem × Bool) (h : (findR (k + 1) l p) = some v) : ∃ m,callX false (fnF cx_ref10_find (ref10_find.rec k) m 102) [.sl (.user 1) l .no,.sl .str p .no] (lcSt [] 0) out = some (.ret (.tup [.agg (C0.flat 1 (v.1)),.bool v.2]),lcRet [] [] 0) := by
 rw [findR] at h
 split at h
 · rename_i hk
   cases p with
   | nil => cases h
   | cons x r =>
    rw [findG] at h
    split at h
    · rename_i hl
      refine ⟨l.length + 1,?_⟩
      rw [ref10_find.top,ref10_find.L0_s,← ref10_find.L1_s]
      cases e : firstN x l with
      | none =>
       rw [e] at h
       obtain rfl := Option.some.inj h
       exact ref10_find.none_ _ k l _ (x :: r) x rfl l hl _ _ _ _ _ l.length _ 0 (by omega) (Nat.le_refl _) e
      | some f =>
       rw [e] at h
       refine (ref10_find.some_ _ k l _ (x :: r) x rfl l hl _ _ _ _ _ f l.length _ 0 (by omega) (Nat.le_refl _) e).trans ?_
       cases r with
       | nil =>
        obtain rfl := Option.some.inj h
        rfl
       | cons y t =>
        simp only [List.length_cons] at hk
        obtain ⟨k,rfl⟩ : ∃ k',k = k' + 1 := ⟨k - 1,by omega⟩
        rw [if_neg (by rw [beq_iff_eq,List.length_cons,List.length_cons]; omega),if_pos (by rw [List.length_cons]; omega),findR,List.drop_succ_cons,List.drop_zero,if_pos (by rw [List.length_cons]; omega)]
        simp only at h
        rw [h]
        rfl
    · cases h
 · cases h
theorem ref10_find.step (k : Nat) (h0 : CallOkL Tryz.prog C0 102 (ref10_find.specR k)) : CallOkL Tryz.prog C0 102 (ref10_find.specR (k + 1)) :=
 sealed_of (kp := false) (ok_ext _) (rec_cok (l := [(102,ref10_find.specR k)]) check_file.ok (fun x hx => by
  obtain rfl := List.mem_singleton.1 hx
  exact ⟨fnOk_of (by kernel_rfl),h0⟩)) fun args cs n K r h => by
  unfold ref10_find.specR at h
  dsimp only [lcSt] at h
  split at h
  · obtain ⟨v,h1,h2⟩ := bind2 h
    obtain ⟨m,h4⟩ := ref10_find.ev k _ _ v h1
    exact ⟨m,_,_,h4,h2⟩
  · cases h
theorem ref10_find.zero : CallOkL Tryz.prog C0 102 (ref10_find.specR 0) := fun args cs n K r h => by
 unfold ref10_find.specR at h
 dsimp only [lcSt] at h
 split at h
 · obtain ⟨v,h1,h2⟩ := bind2 h
   exact absurd h1 (by first | (simp [findR]; done) | (unfold findR; simp))
 · cases h
theorem ref10_find.recOk : ∀ k,CallOkL Tryz.prog C0 102 (ref10_find.specR k)
 | 0 => ref10_find.zero
 | k + 1 => ref10_find.step k (ref10_find.recOk k)
theorem ref10_find.ok : AllOk specs_ref10_find := allOk_cons check_file.ok (fnOk_of (by kernel_rfl)) fun args cs n K r h => by
 unfold ref10_find.spec at h
 dsimp only [lcSt] at h
 split at h
 · rename_i l p
   refine ref10_find.recOk (p.length+1) _ _ _ K r ?_
   unfold ref10_find.specR
   exact h
 · cases h
theorem ref10_Find.ev (l : List (FileItem)) (s : ByteArray) (v : FileItem × Bool) (h : (fileW l s) = some v) : ∃ m,callX false (fnF cx_ref10_Find noCalls m 51) [.sl (.user 1) l .no,.str s] (lcSt [] 0) out = some (.ret (.tup [.agg (C0.flat 1 (v.1)),.bool v.2]),lcRet [] [] 0) := by
 unfold fileW at h
 split at h
 · rename_i hs
   refine ⟨0,?_⟩
   rw [ref10_Find.top,if_pos hs]
   simp only [Option.bind_some]
   rw [findR,if_pos (by omega),h]
   rfl
 · cases h
theorem ref10_Find.ok : AllOk specs_ref10_Find := allOk_cons ref10_find.ok (fnOk_of (by kernel_rfl)) (sealed_of (kp := false) (ok_ext _) (cok_of ref10_find.ok) fun args cs n K r h => by
 unfold ref10_Find.spec at h
 dsimp only [lcSt] at h
 split at h
 · obtain ⟨v,h1,h2⟩ := bind2 h
   obtain ⟨m,h4⟩ := ref10_Find.ev _ _ v h1
   exact ⟨m,_,_,h4,h2⟩
 · cases h)
theorem ref10_has.l_ev (n : Nat) (a0 : List ByteArray) (s0 s : ByteArray) (a : List ByteArray) (ha : a.length ≤ 1000) : ∀ (k m i : Nat),i + k = a.length → k + 1 ≤ m → ref10_has.L0 n m a0 s0 s a a.length i = some (.ret (.bool (hasS (a.drop i) s)),lcRet [] [] 0) := by
 intro k
 induction k with
 | zero =>
  intro m i h1 h2
  obtain ⟨m,rfl⟩ : ∃ m',m = m' + 1 := ⟨m - 1,by omega⟩
  rw [ref10_has.L0_s,if_neg (fun e => absurd (of_decide_eq_true e) (by omega)),List.drop_of_length_le (by omega)]
  rfl
 | succ k ih =>
  intro m i h1 h2
  obtain ⟨m,rfl⟩ : ∃ m',m = m' + 1 := ⟨m - 1,by omega⟩
  have hlt : i < a.length := by omega
  rw [ref10_has.L0_s,if_pos (decide_eq_true (by omega)),if_pos (by omega),show ((i : Int)).toNat = i from by omega,nth_at hlt,wrN i (by omega),ih m (i + 1) (by omega) (by omega),List.drop_eq_getElem_cons hlt]
  simp only [Option.bind_some]
  unfold hasS
  rw [List.any_cons]
  cases seq a[i] s <;> rfl
theorem ref10_has.ev (a : List (ByteArray)) (s : ByteArray) (v : Bool) (h : (if a.length ≤ 1000 then some (hasS a s) else none) = some v) : ∃ m,callX false (fnF cx_ref10_has noCalls m 52) [.sl .str a .no,.str s] (lcSt [] 0) out = some (.ret (.bool v),lcRet [] [] 0) := by
 split at h
 · rename_i ha
   obtain rfl := Option.some.inj h
   refine ⟨a.length + 1,?_⟩
   rw [ref10_has.top]
   exact ref10_has.l_ev _ a s s a ha a.length _ 0 (by omega) (Nat.le_refl _)
 · cases h
theorem ref10_has.ok : AllOk specs_ref10_has := allOk_cons ref10_Find.ok (fnOk_of (by kernel_rfl)) (sealed_of (kp := false) (ok_ext _) (cok_of ref10_Find.ok) fun args cs n K r h => by
 unfold ref10_has.spec at h
 dsimp only [lcSt] at h
 split at h
 · obtain ⟨v,h1,h2⟩ := bind2 h
   obtain ⟨m,h4⟩ := ref10_has.ev _ _ v h1
   exact ⟨m,_,_,h4,h2⟩
 · cases h)
theorem w01 : IntKind.i64.wrap (0 + 1) = 1 := by decide +kernel
theorem w12 : IntKind.i64.wrap (1 + 1) = 2 := by decide +kernel
def kfin (op a b : Int) : Option (Rr U0) := if (!(kindV op a b).2) = true then some (.ret (.tup [.int .i64 0,.int .i64 22]),lcRet [] [] 0) else some (.ret (.tup [.int .i64 (kindV op a b).1,.int .i64 0]),lcRet [] [] 0)
theorem kfin_is (op a b : Int) : kfin op a b = some (.ret (.tup [.int .i64 (if (kindV op a b).2 = true then ((kindV op a b).1,(0 : Int)) else (0,22)).1,.int .i64 (if (kindV op a b).2 = true then ((kindV op a b).1,(0 : Int)) else (0,22)).2]),lcRet [] [] 0) := by
 unfold kfin
 cases (kindV op a b).2 <;> rfl
theorem check_kind.ev (k : Nat) (w0 : List (FileItem)) (w1 : List (ByteArray)) (a0 : Int) (a1 : Int) (a2 : Int) (a3 : Bool) (a4 : ByteArray) (a5 : ByteArray) (a6 : Int) (a7 : List (Node)) (v : Int × Int) (h : (kindW w0 w1 (k + 1) (nd a0 a1 a2 a3 a4 a5 a6 a7)) = some v) : ∃ m,callX false (fnF cx_check_kind (check_kind.rec k) m 28) [.agg [.sl (.user 1) w0 .no,.sl .str w1 .no],.agg [.int .i64 a0,.int .i64 a1,.int .i64 a2,.bool a3,.str a4,.str a5,.int .i64 a6,.sl (.user 0) a7 .no]] (lcSt [] 0) out = some (.ret (.tup [.int .i64 v.1,.int .i64 v.2]),lcRet [] [] 0) := by
 rw [kindW_nd] at h
 refine ⟨3,?_⟩
 rw [check_kind.top]
 by_cases h1 : a0 = 1
 · rw [if_pos h1] at h
   obtain rfl := Option.some.inj h
   rw [if_pos (by simpa using h1)]
 rw [if_neg h1] at h
 rw [if_neg (by simpa using h1)]
 by_cases h4 : a0 = 4
 · rw [if_pos h4] at h
   rw [if_pos (by simpa using h4)]
   split at h
   · rename_i hl
     rw [if_pos hl]
     simp only [Option.bind_some]
     split at h
     · rename_i hh
       obtain rfl := Option.some.inj h
       rw [if_neg (by simp [hh])]
     · rename_i hh
       obtain rfl := Option.some.inj h
       rw [if_pos (by simpa using hh)]
   · cases h
 rw [if_neg h4] at h
 rw [if_neg (by simpa using h4)]
 by_cases h2 : a0 = 2 ∨ a0 = 3
 · rw [if_pos h2] at h
   rw [if_pos (by simpa using h2)]
   obtain ⟨u,h5,h6⟩ := bind2 h
   rw [h5]
   simp only [Option.bind_some]
   split at h6
   · rename_i hu
     rw [if_neg (by simp [hu])]
     split at h6
     · rename_i h3
       obtain rfl := Option.some.inj h6
       rw [if_pos (by simpa using h3)]
     · rename_i h3
       rw [if_neg (by simpa using h3)]
       split at h6
       · rename_i h7
         obtain rfl := Option.some.inj h6
         rw [if_pos (by simpa using h7)]
       · rename_i h7
         obtain rfl := Option.some.inj h6
         rw [if_neg (by simpa using h7)]
   · rename_i hu
     obtain rfl := Option.some.inj h6
     rw [if_pos (by simpa using hu)]
 rw [if_neg h2] at h
 rw [if_neg (by simpa using h2)]
 split at h
 · rename_i hl
   match a7,hl with
   | [],_ =>
    rw [kindL] at h
    simp only [Option.bind_some,if_true] at h
    obtain rfl := Option.some.inj h
    rw [check_kind.L0_s,if_neg (by simp)]
    exact kfin_is a0 0 0
   | [x],_ =>
    rw [check_kind.L0_s,if_pos (by simp),if_pos (by simp),show nth [x] (Int.toNat 0) = some x from rfl]
    simp only [Option.bind_some,nd_y]
    rw [kindL,kindL] at h
    obtain ⟨q,h7,h8⟩ := bind2 h
    obtain ⟨e,h5,h6⟩ := bind2 h7
    rw [h5]
    simp only [Option.bind_some]
    split at h6
    · rename_i he
      simp only [Option.bind_some] at h6
      obtain rfl := Option.some.inj h6
      simp only [if_true] at h8
      obtain rfl := Option.some.inj h8
      rw [if_neg (by simp [he]),if_neg (by simp),if_pos (by simp),w01,check_kind.L1_s,if_neg (by simp)]
      exact kfin_is a0 e.1 0
    · rename_i he
      obtain rfl := Option.some.inj h6
      simp only [he,if_false] at h8
      obtain rfl := Option.some.inj h8
      rw [if_pos (by simpa using he)]
   | [x,y],_ =>
    rw [check_kind.L0_s,if_pos (by simp),if_pos (by simp),show nth [x,y] (Int.toNat 0) = some x from rfl]
    simp only [Option.bind_some,nd_y]
    rw [kindL,kindL,kindL] at h
    obtain ⟨q,h7,h8⟩ := bind2 h
    obtain ⟨e,h5,h6⟩ := bind2 h7
    rw [h5]
    simp only [Option.bind_some]
    split at h6
    · rename_i he
      rw [if_neg (by simp [he]),if_neg (by simp),if_pos (by simp),w01,check_kind.L1_s,if_pos (by simp),if_pos (by simp),show nth [x,y] (Int.toNat 1) = some y from rfl]
      simp only [Option.bind_some,nd_y]
      obtain ⟨q2,h9,h10⟩ := bind2 h6
      obtain ⟨e2,h11,h12⟩ := bind2 h9
      rw [h11]
      simp only [Option.bind_some]
      split at h12
      · rename_i he2
        simp only [Option.bind_some] at h12
        obtain rfl := Option.some.inj h12
        obtain rfl := Option.some.inj h10
        simp only [if_true] at h8
        obtain rfl := Option.some.inj h8
        rw [if_neg (by simp [he2]),if_pos (by simp),w12,check_kind.L1_s,if_neg (by simp)]
        exact kfin_is a0 e.1 e2.1
      · rename_i he2
        obtain rfl := Option.some.inj h12
        obtain rfl := Option.some.inj h10
        simp only [he2,if_false] at h8
        obtain rfl := Option.some.inj h8
        rw [if_pos (by simpa using he2)]
    · rename_i he
      obtain rfl := Option.some.inj h6
      simp only [he,if_false] at h8
      obtain rfl := Option.some.inj h8
      rw [if_pos (by simpa using he)]
 · cases h
theorem check_kind.step (k : Nat) (h0 : CallOkL Tryz.prog C0 28 (check_kind.specR k)) : CallOkL Tryz.prog C0 28 (check_kind.specR (k + 1)) :=
 sealed_of (kp := false) (ok_ext _) (rec_cok (l := [(28,check_kind.specR k)]) ref10_has.ok (fun x hx => by
  obtain rfl := List.mem_singleton.1 hx
  exact ⟨fnOk_of (by kernel_rfl),h0⟩)) fun args cs n K r h => by
  unfold check_kind.specR at h
  dsimp only [lcSt] at h
  split at h
  · obtain ⟨v,h1,h2⟩ := bind2 h
    obtain ⟨m,h4⟩ := check_kind.ev k _ _ _ _ _ _ _ _ _ _ v h1
    exact ⟨m,_,_,h4,h2⟩
  · cases h
theorem check_kind.zero : CallOkL Tryz.prog C0 28 (check_kind.specR 0) := fun args cs n K r h => by
 unfold check_kind.specR at h
 dsimp only [lcSt] at h
 split at h
 · obtain ⟨v,h1,h2⟩ := bind2 h
   exact absurd h1 (by first | (simp [kindW]; done) | (unfold kindW; simp))
 · cases h
theorem check_kind.recOk : ∀ k,CallOkL Tryz.prog C0 28 (check_kind.specR k)
 | 0 => check_kind.zero
 | k + 1 => check_kind.step k (check_kind.recOk k)
theorem check_kind.ok : AllOk specs_check_kind := allOk_cons ref10_has.ok (fnOk_of (by kernel_rfl)) fun args cs n K r h => by
 unfold check_kind.spec at h
 dsimp only [lcSt] at h
 split at h
 · rename_i w0 w1 a0 a1 a2 a3 a4 a5 a6 a7
   refine check_kind.recOk (big a7) _ _ _ K r ?_
   unfold check_kind.specR
   exact h
 · cases h
theorem ref10_kind.ev (k : Nat) (a0 : Int) (a1 : Int) (a2 : Int) (a3 : Bool) (a4 : ByteArray) (a5 : ByteArray) (a6 : Int) (a7 : List (Node)) (f : List (FileItem)) (i : List (ByteArray)) (v : Int × Int) (h : (kindW f i (k + 1) (nd a0 a1 a2 a3 a4 a5 a6 a7)) = some v) : ∃ m,callX false (fnF cx_ref10_kind (ref10_kind.rec k) m 33) [.agg [.int .i64 a0,.int .i64 a1,.int .i64 a2,.bool a3,.str a4,.str a5,.int .i64 a6,.sl (.user 0) a7 .no],.sl (.user 1) f .no,.sl .str i .no] (lcSt [] 0) out = some (.ret (.tup [.int .i64 v.1,.int .i64 v.2]),lcRet [] [] 0) := by
 rw [kindW_nd] at h
 refine ⟨3,?_⟩
 rw [ref10_kind.top]
 by_cases h1 : a0 = 1
 · rw [if_pos h1] at h
   obtain rfl := Option.some.inj h
   rw [if_pos (by simpa using h1)]
 rw [if_neg h1] at h
 rw [if_neg (by simpa using h1)]
 by_cases h4 : a0 = 4
 · rw [if_pos h4] at h
   rw [if_neg (by simp [h4]),if_pos (by simpa using h4)]
   split at h
   · rename_i hl
     rw [if_pos hl]
     simp only [Option.bind_some]
     split at h
     · rename_i hh
       obtain rfl := Option.some.inj h
       rw [if_neg (by simp [hh])]
     · rename_i hh
       obtain rfl := Option.some.inj h
       rw [if_pos (by simpa using hh)]
   · cases h
 rw [if_neg h4] at h
 by_cases h2 : a0 = 2 ∨ a0 = 3
 · rw [if_pos h2] at h
   rw [if_pos (by simpa using h2)]
   obtain ⟨u,h5,h6⟩ := bind2 h
   rw [h5]
   simp only [Option.bind_some]
   split at h6
   · rename_i hu
     rw [if_neg (by simp [hu])]
     split at h6
     · rename_i h3
       obtain rfl := Option.some.inj h6
       rw [if_pos (by simpa using h3)]
     · rename_i h3
       rw [if_neg (by simpa using h3)]
       split at h6
       · rename_i h7
         obtain rfl := Option.some.inj h6
         rw [if_pos (by simpa using h7)]
       · rename_i h7
         obtain rfl := Option.some.inj h6
         rw [if_neg (by simpa using h7)]
   · rename_i hu
     obtain rfl := Option.some.inj h6
     rw [if_pos (by simpa using hu)]
 rw [if_neg h2] at h
 rw [if_neg (by simpa using h2),if_neg (by simpa using h4)]
 split at h
 · rename_i hl
   match a7,hl with
   | [],_ =>
    rw [kindL] at h
    simp only [Option.bind_some,if_true] at h
    obtain rfl := Option.some.inj h
    rw [ref10_kind.L0_s,if_neg (by simp)]
    exact kfin_is a0 0 0
   | [x],_ =>
    rw [ref10_kind.L0_s,if_pos (by simp),if_pos (by simp),show nth [x] (Int.toNat 0) = some x from rfl]
    simp only [Option.bind_some,nd_y]
    rw [kindL,kindL] at h
    obtain ⟨q,h7,h8⟩ := bind2 h
    obtain ⟨e,h5,h6⟩ := bind2 h7
    rw [h5]
    simp only [Option.bind_some]
    split at h6
    · rename_i he
      simp only [Option.bind_some] at h6
      obtain rfl := Option.some.inj h6
      simp only [if_true] at h8
      obtain rfl := Option.some.inj h8
      rw [if_neg (by simp [he]),if_neg (by simp),if_pos (by simp),w01,ref10_kind.L1_s,if_neg (by simp)]
      exact kfin_is a0 e.1 0
    · rename_i he
      obtain rfl := Option.some.inj h6
      simp only [he,if_false] at h8
      obtain rfl := Option.some.inj h8
      rw [if_pos (by simpa using he)]
   | [x,y],_ =>
    rw [ref10_kind.L0_s,if_pos (by simp),if_pos (by simp),show nth [x,y] (Int.toNat 0) = some x from rfl]
    simp only [Option.bind_some,nd_y]
    rw [kindL,kindL,kindL] at h
    obtain ⟨q,h7,h8⟩ := bind2 h
    obtain ⟨e,h5,h6⟩ := bind2 h7
    rw [h5]
    simp only [Option.bind_some]
    split at h6
    · rename_i he
      rw [if_neg (by simp [he]),if_neg (by simp),if_pos (by simp),w01,ref10_kind.L1_s,if_pos (by simp),if_pos (by simp),show nth [x,y] (Int.toNat 1) = some y from rfl]
      simp only [Option.bind_some,nd_y]
      obtain ⟨q2,h9,h10⟩ := bind2 h6
      obtain ⟨e2,h11,h12⟩ := bind2 h9
      rw [h11]
      simp only [Option.bind_some]
      split at h12
      · rename_i he2
        simp only [Option.bind_some] at h12
        obtain rfl := Option.some.inj h12
        obtain rfl := Option.some.inj h10
        simp only [if_true] at h8
        obtain rfl := Option.some.inj h8
        rw [if_neg (by simp [he2]),if_pos (by simp),w12,ref10_kind.L1_s,if_neg (by simp)]
        exact kfin_is a0 e.1 e2.1
      · rename_i he2
        obtain rfl := Option.some.inj h12
        obtain rfl := Option.some.inj h10
        simp only [he2,if_false] at h8
        obtain rfl := Option.some.inj h8
        rw [if_pos (by simpa using he2)]
    · rename_i he
      obtain rfl := Option.some.inj h6
      simp only [he,if_false] at h8
      obtain rfl := Option.some.inj h8
      rw [if_pos (by simpa using he)]
 · cases h
theorem ref10_kind.step (k : Nat) (h0 : CallOkL Tryz.prog C0 33 (ref10_kind.specR k)) : CallOkL Tryz.prog C0 33 (ref10_kind.specR (k + 1)) :=
 sealed_of (kp := false) (ok_ext _) (rec_cok (l := [(33,ref10_kind.specR k)]) check_kind.ok (fun x hx => by
  obtain rfl := List.mem_singleton.1 hx
  exact ⟨fnOk_of (by kernel_rfl),h0⟩)) fun args cs n K r h => by
  unfold ref10_kind.specR at h
  dsimp only [lcSt] at h
  split at h
  · obtain ⟨v,h1,h2⟩ := bind2 h
    obtain ⟨m,h4⟩ := ref10_kind.ev k _ _ _ _ _ _ _ _ _ _ v h1
    exact ⟨m,_,_,h4,h2⟩
  · cases h
theorem ref10_kind.zero : CallOkL Tryz.prog C0 33 (ref10_kind.specR 0) := fun args cs n K r h => by
 unfold ref10_kind.specR at h
 dsimp only [lcSt] at h
 split at h
 · obtain ⟨v,h1,h2⟩ := bind2 h
   exact absurd h1 (by first | (simp [kindW]; done) | (unfold kindW; simp))
 · cases h
theorem ref10_kind.recOk : ∀ k,CallOkL Tryz.prog C0 33 (ref10_kind.specR k)
 | 0 => ref10_kind.zero
 | k + 1 => ref10_kind.step k (ref10_kind.recOk k)
theorem ref10_kind.ok : AllOk specs_ref10_kind := allOk_cons check_kind.ok (fnOk_of (by kernel_rfl)) fun args cs n K r h => by
 unfold ref10_kind.spec at h
 dsimp only [lcSt] at h
 split at h
 · rename_i a0 a1 a2 a3 a4 a5 a6 a7 f i
   refine ref10_kind.recOk (big a7) _ _ _ K r ?_
   unfold ref10_kind.specR
   exact h
 · cases h
theorem check_Kind.ev (a0 : Int) (a1 : Int) (a2 : Int) (a3 : Bool) (a4 : ByteArray) (a5 : ByteArray) (a6 : Int) (a7 : List (Node)) (f : List (FileItem)) (i : List (ByteArray)) (v : Int × Int) (h : (kindT (nd a0 a1 a2 a3 a4 a5 a6 a7) f i) = some v) : ∃ m,callX false (fnF cx_check_Kind noCalls m 15) [.agg [.int .i64 a0,.int .i64 a1,.int .i64 a2,.bool a3,.str a4,.str a5,.int .i64 a6,.sl (.user 0) a7 .no],.sl (.user 1) f .no,.sl .str i .no] (lcSt [] 0) out = some (.ret (.tup [.int .i64 v.1,.int .i64 v.2]),lcRet [] [] 0) := by
 unfold kindT at h
 obtain ⟨c,h1,h2⟩ := bind2 h
 refine ⟨0,?_⟩
 rw [check_Kind.top,h1]
 simp only [Option.bind_some]
 simp only [ndx] at h2
 split at h2
 · rename_i hc
   rw [if_neg (by simp [hc]),h2]
   rfl
 · rename_i hc
   obtain rfl := Option.some.inj h2
   rw [if_pos (by simpa using hc)]
theorem check_Kind.ok : AllOk specs_check_Kind := allOk_cons ref10_kind.ok (fnOk_of (by kernel_rfl)) (sealed_of (kp := false) (ok_ext _) (cok_of ref10_kind.ok) fun args cs n K r h => by
 unfold check_Kind.spec at h
 dsimp only [lcSt] at h
 split at h
 · obtain ⟨v,h1,h2⟩ := bind2 h
   obtain ⟨m,h4⟩ := check_Kind.ev _ _ _ _ _ _ _ _ _ _ v h1
   exact ⟨m,_,_,h4,h2⟩
 · cases h)
theorem ref10_Kind.ev (a0 : Int) (a1 : Int) (a2 : Int) (a3 : Bool) (a4 : ByteArray) (a5 : ByteArray) (a6 : Int) (a7 : List (Node)) (f : List (FileItem)) (i : List (ByteArray)) (v : Int × Int) (h : (kindT (nd a0 a1 a2 a3 a4 a5 a6 a7) f i) = some v) : ∃ m,callX false (fnF cx_ref10_Kind noCalls m 17) [.agg [.int .i64 a0,.int .i64 a1,.int .i64 a2,.bool a3,.str a4,.str a5,.int .i64 a6,.sl (.user 0) a7 .no],.sl (.user 1) f .no,.sl .str i .no] (lcSt [] 0) out = some (.ret (.tup [.int .i64 v.1,.int .i64 v.2]),lcRet [] [] 0) := by
 unfold kindT at h
 obtain ⟨c,h1,h2⟩ := bind2 h
 refine ⟨0,?_⟩
 rw [ref10_Kind.top,h1]
 simp only [Option.bind_some]
 simp only [ndx] at h2
 split at h2
 · rename_i hc
   rw [if_neg (by simp [hc]),h2]
   rfl
 · rename_i hc
   obtain rfl := Option.some.inj h2
   rw [if_pos (by simpa using hc)]
theorem ref10_Kind.ok : AllOk specs_ref10_Kind := allOk_cons check_Kind.ok (fnOk_of (by kernel_rfl)) (sealed_of (kp := false) (ok_ext _) (cok_of check_Kind.ok) fun args cs n K r h => by
 unfold ref10_Kind.spec at h
 dsimp only [lcSt] at h
 split at h
 · obtain ⟨v,h1,h2⟩ := bind2 h
   obtain ⟨m,h4⟩ := ref10_Kind.ev _ _ _ _ _ _ _ _ _ _ v h1
   exact ⟨m,_,_,h4,h2⟩
 · cases h)
theorem check_Truth.ev (s : ByteArray) (f : List (FileItem)) (i : List (ByteArray)) (v : Int) (h : (truthW parseP s f i) = some v) : ∃ m,callX false (fnF cx_check_Truth noCalls m 7) [.str s,.sl (.user 1) f .no,.sl .str i .no] (lcSt [] 0) out = some (.ret (.int .i64 v),lcRet [] [] 0) := by
 unfold truthW at h
 refine ⟨0,?_⟩
 rw [check_Truth.top]
 split at h
 · rename_i hs
   obtain rfl := Option.some.inj h
   rw [if_pos hs]
 · rename_i hs
   rw [if_neg hs]
   obtain ⟨p,h1,h2⟩ := bind2 h
   rw [h1]
   simp only [Option.bind_some,nd_y]
   split at h2
   · rename_i hp
     rw [if_neg (by simp [hp])]
     obtain ⟨u,h3,h4⟩ := bind2 h2
     rw [h3]
     simp only [Option.bind_some]
     split at h4
     · rename_i hu
       split at h4
       · rename_i hk
         obtain rfl := Option.some.inj h4
         rw [if_neg (by simp [hu,hk]),hu]
       · rename_i hk
         obtain rfl := Option.some.inj h4
         rw [if_pos (by simp [hu,hk])]
     · rename_i hu
       obtain rfl := Option.some.inj h4
       rw [if_neg (by simp [hu])]
   · rename_i hp
     obtain rfl := Option.some.inj h2
     rw [if_pos (by simpa using hp)]
theorem check_Truth.ok : AllOk specs_check_Truth := allOk_cons ref10_Kind.ok (fnOk_of (by kernel_rfl)) (sealed_of (kp := false) (ok_ext _) (cok_of ref10_Kind.ok) fun args cs n K r h => by
 unfold check_Truth.spec at h
 dsimp only [lcSt] at h
 split at h
 · obtain ⟨v,h1,h2⟩ := bind2 h
   obtain ⟨m,h4⟩ := check_Truth.ev _ _ _ v h1
   exact ⟨m,_,_,h4,h2⟩
 · cases h)
theorem ref10_Truth.ev (s : ByteArray) (f : List (FileItem)) (i : List (ByteArray)) (v : Int) (h : (truthW parseR s f i) = some v) : ∃ m,callX false (fnF cx_ref10_Truth noCalls m 8) [.str s,.sl (.user 1) f .no,.sl .str i .no] (lcSt [] 0) out = some (.ret (.int .i64 v),lcRet [] [] 0) := by
 unfold truthW at h
 refine ⟨0,?_⟩
 rw [ref10_Truth.top]
 split at h
 · rename_i hs
   obtain rfl := Option.some.inj h
   rw [if_pos hs]
 · rename_i hs
   rw [if_neg hs]
   obtain ⟨p,h1,h2⟩ := bind2 h
   rw [h1]
   simp only [Option.bind_some,nd_y]
   split at h2
   · rename_i hp
     rw [if_neg (by simp [hp])]
     obtain ⟨u,h3,h4⟩ := bind2 h2
     rw [h3]
     simp only [Option.bind_some]
     split at h4
     · rename_i hu
       rw [if_neg (by simp [hu])]
       split at h4
       · rename_i hk
         obtain rfl := Option.some.inj h4
         rw [if_neg (by simp [hk])]
       · rename_i hk
         obtain rfl := Option.some.inj h4
         rw [if_pos (by simp [hk])]
     · rename_i hu
       obtain rfl := Option.some.inj h4
       rw [if_pos (by simpa using hu)]
   · rename_i hp
     obtain rfl := Option.some.inj h2
     rw [if_pos (by simpa using hp)]
theorem ref10_Truth.ok : AllOk specs_ref10_Truth := allOk_cons check_Truth.ok (fnOk_of (by kernel_rfl)) (sealed_of (kp := false) (ok_ext _) (cok_of check_Truth.ok) fun args cs n K r h => by
 unfold ref10_Truth.spec at h
 dsimp only [lcSt] at h
 split at h
 · obtain ⟨v,h1,h2⟩ := bind2 h
   obtain ⟨m,h4⟩ := ref10_Truth.ev _ _ _ v h1
   exact ⟨m,_,_,h4,h2⟩
 · cases h)
theorem plain_files.l1 (n k : Nat) (l0 : List FileItem) (d0 u0 d : Int) (l : List FileItem) (hl : l.length ≤ 9223372036854775807) : ∀ (j m i : Nat) (y : Int) (v : Bool × Int),i + j = l.length → j + 1 ≤ m → filesL (fun f u => filesW k f.x.2.2.2.1 (IntKind.i64.wrap (d + 1)) u) (l.drop i) y = some v →
 plain_files.L0 n m k l0 d0 u0 d l l.length i y = some (.ret (.bool v.1),lcRet [[.int .i64 v.2]] [] 0) := by
 intro j
 induction j with
 | zero =>
  intro m i y v h1 h2 h
  obtain ⟨m,rfl⟩ : ∃ m',m = m' + 1 := ⟨m - 1,by omega⟩
  rw [List.drop_of_length_le (by omega),filesL] at h
  obtain rfl := Option.some.inj h
  rw [plain_files.L0_s,if_neg (fun e => absurd (of_decide_eq_true e) (by omega))]
 | succ j ih =>
  intro m i y v h1 h2 h
  obtain ⟨m,rfl⟩ : ∃ m',m = m' + 1 := ⟨m - 1,by omega⟩
  have hlt : i < l.length := by omega
  rw [List.drop_eq_getElem_cons hlt,filesL] at h
  rw [plain_files.L0_s,if_pos (decide_eq_true (by omega)),if_pos (by omega),show ((i : Int)).toNat = i from by omega,nth_at hlt]
  simp only [Option.bind_some]
  split at h
  · rename_i hy
    obtain rfl := Option.some.inj h
    rw [if_pos (by simp [hy])]
  · rename_i hy
    split at h
    · rename_i hr
      obtain rfl := Option.some.inj h
      rw [if_pos (by simp [hy]; omega)]
    · rename_i hr
      rw [if_neg (by simp [hy]; omega)]
      obtain ⟨e,h3,h4⟩ := bind2 h
      rw [h3]
      simp only [Option.bind_some]
      split at h4
      · rename_i he
        rw [if_neg (by simp [he]),wrN i (by omega)]
        exact ih m (i + 1) e.2 v (by omega) (by omega) h4
      · rename_i he
        obtain rfl := Option.some.inj h4
        have he' : e.1 = false := by simpa using he
        rw [if_pos (by simp [he']),he']
theorem plain_files.ev (k : Nat) (l : List (FileItem)) (d : Int) (u : Int) (v : Bool × Int) (h : (filesW (k + 1) l d u) = some v) : ∃ m,callX false (fnF cx_plain_files (plain_files.rec k) m 13) [.sl (.user 1) l .no,.int .i64 d,.ptr 0 0] (lcSt [[.int .i64 u]] 0) out = some (.ret (.bool v.1),lcRet [[.int .i64 (v.2)]] [] 0) := by
 rw [filesW] at h
 refine ⟨l.length + 1,?_⟩
 rw [plain_files.top]
 split at h
 · rename_i hd
   obtain rfl := Option.some.inj h
   rw [if_pos (by simpa using hd)]
 · rename_i hd
   rw [if_neg (by simpa using hd)]
   split at h
   · rename_i hl
     exact plain_files.l1 _ k l d u d l hl l.length _ 0 u v (by omega) (Nat.le_refl _) h
   · cases h
theorem plain_files.step (k : Nat) (h0 : CallOkL Tryz.prog C0 13 (plain_files.specR k)) : CallOkL Tryz.prog C0 13 (plain_files.specR (k + 1)) :=
 sealed_of (kp := false) (ok_ext _) (rec_cok (l := [(13,plain_files.specR k)]) ref10_Truth.ok (fun x hx => by
  obtain rfl := List.mem_singleton.1 hx
  exact ⟨fnOk_of (by kernel_rfl),h0⟩)) fun args cs n K r h => by
  unfold plain_files.specR at h
  dsimp only [lcSt] at h
  split at h
  · obtain ⟨v,h1,h2⟩ := bind2 h
    obtain ⟨m,h4⟩ := plain_files.ev k _ _ _ v h1
    exact ⟨m,_,_,h4,h2⟩
  · cases h
theorem plain_files.zero : CallOkL Tryz.prog C0 13 (plain_files.specR 0) := fun args cs n K r h => by
 unfold plain_files.specR at h
 dsimp only [lcSt] at h
 split at h
 · obtain ⟨v,h1,h2⟩ := bind2 h
   exact absurd h1 (by first | (simp [filesW]; done) | (unfold filesW; simp))
 · cases h
theorem plain_files.recOk : ∀ k,CallOkL Tryz.prog C0 13 (plain_files.specR k)
 | 0 => plain_files.zero
 | k + 1 => plain_files.step k (plain_files.recOk k)
theorem plain_files.ok : AllOk specs_plain_files := allOk_cons ref10_Truth.ok (fnOk_of (by kernel_rfl)) fun args cs n K r h => by
 unfold plain_files.spec at h
 dsimp only [lcSt] at h
 split at h
 · rename_i l d u
   refine plain_files.recOk 42 _ _ _ K r ?_
   unfold plain_files.specR
   exact h
 · cases h
theorem plain_Files.ev (l : List (FileItem)) (v : Bool) (h : ((filesW 42 l 0 120).bind fun v => some v.1) = some v) : ∃ m,callX false (fnF cx_plain_Files noCalls m 5) [.sl (.user 1) l .no] (lcSt [] 0) out = some (.ret (.bool v),lcRet [] [] 0) := by
 refine ⟨0,?_⟩
 obtain ⟨w,h1,h2⟩ := bind2 h
 obtain rfl := Option.some.inj h2
 rw [plain_Files.top,h1]
 rfl
theorem plain_Files.ok : AllOk specs_plain_Files := allOk_cons plain_files.ok (fnOk_of (by kernel_rfl)) (sealed_of (kp := false) (ok_ext _) (cok_of plain_files.ok) fun args cs n K r h => by
 unfold plain_Files.spec at h
 dsimp only [lcSt] at h
 split at h
 · obtain ⟨v,h1,h2⟩ := bind2 h
   obtain ⟨m,h4⟩ := plain_Files.ev _ v h1
   exact ⟨m,_,_,h4,h2⟩
 · cases h)
set_option maxRecDepth 100000 in
theorem law10_awake.run : callX false (fnF (cxOf specs_lib) (runR (cxOf specs_lib) 80 60) 80 6) [] (lcSt [] 0) out = (fun v => (some (.ret (.bool v),lcRet [] [] 0) : Option (Rr U0))) (true) := by kernel_rfl
theorem law10_awake.ok : AllOk specs_law10_awake := allOk_cons plain_Files.ok (fnOk_of (by kernel_rfl)) (sealed_of (kp := false) (ok_ext _) (runR_ok lib_ok 80 60) fun args cs n K r h => by
 unfold law10_awake.spec at h
 dsimp only [lcSt] at h
 split at h
 · exact ⟨80,_,_,law10_awake.run,h⟩
 · cases h)
theorem law_Truths.ev (s : ByteArray) (f : List (FileItem)) (i : List (ByteArray)) (v : Bool) (h : (truthsW s f i) = some v) : ∃ m,callX false (fnF cx_law_Truths noCalls m 3) [.str s,.sl (.user 1) f .no,.sl .str i .no] (lcSt [] 0) out = some (.ret (.bool v),lcRet [] [] 0) := by
 unfold truthsW at h
 refine ⟨0,?_⟩
 rw [law_Truths.top]
 obtain ⟨w,h1,h2⟩ := bind2 h
 rw [h1]
 simp only [Option.bind_some]
 split at h2
 · rename_i hw
   split at h2
   · rename_i hi
     obtain rfl := Option.some.inj h2
     rw [if_pos (by simp [hw]; omega)]
   · rename_i hi
     rw [if_neg (by simp [hw]; omega)]
     obtain ⟨a,h3,h4⟩ := bind2 h2
     obtain ⟨b,h5,h6⟩ := bind2 h4
     obtain rfl := Option.some.inj h6
     rw [h3,h5]
     simp only [Option.bind_some]
     by_cases hab : a = b
     · rw [if_pos (by simpa using hab),decide_eq_true hab]
     · rw [if_neg (by simpa using hab),decide_eq_false hab]
 · rename_i hw
   obtain rfl := Option.some.inj h2
   rw [if_pos (by simp [hw])]
theorem law_Truths.ok : AllOk specs_law_Truths := allOk_cons law10_awake.ok (fnOk_of (by kernel_rfl)) (sealed_of (kp := false) (ok_ext _) (cok_of law10_awake.ok) fun args cs n K r h => by
 unfold law_Truths.spec at h
 dsimp only [lcSt] at h
 split at h
 · obtain ⟨v,h1,h2⟩ := bind2 h
   obtain ⟨m,h4⟩ := law_Truths.ev _ _ _ v h1
   exact ⟨m,_,_,h4,h2⟩
 · cases h)
end Go.Proofs.YtbcpnpbkbndkjaaGreatDoor.Ev
end
section
/- The two parsers tell the same of a list of words that ends. -/
set_option linter.unusedVariables false
set_option linter.unusedSimpArgs false
namespace Go.Proofs.YtbcpnpbkbndkjaaGreatDoor.Ev
open Go Go.RowKit Go.Proofs.YtbcpnpbkbndkjaaGreatDoorW.PrintWords
/-- Words that an end ends. -/
def Wf : List Wd → Prop
 | [] => False
 | w :: r => w.2.1.size ≤ 400 ∧ ((r = [] ∧ w.1 = 0) ∨ Wf r)
theorem Wf.cons {l : List Wd} (h : Wf l) : ∃ w r,l = w :: r ∧ w.2.1.size ≤ 400 ∧ (w.1 ≠ 0 → Wf r) := by
 cases l with
 | nil => cases h
 | cons w r =>
  refine ⟨w,r,rfl,h.1,fun h0 => ?_⟩
  rcases h.2 with ⟨_,h1⟩ | h1
  · exact absurd h1 h0
  · exact h1
theorem isW_ne {s : ByteArray} {w : Wd} (h : isW s w = true) : w.1 ≠ 0 := by
 unfold isW at h
 intro h0
 rw [h0] at h
 simp at h
theorem take_rel {l : List Wd} (h : Wf l) (s : ByteArray) : (∃ r,takeP s l = some (true,r) ∧ (∀ q,takeR s l q = some (true,r,q)) ∧ Wf r ∧ r.length + 1 = l.length) ∨ (takeP s l = some (false,l) ∧ ∀ q,takeR s l q = some (false,l,q)) := by
 obtain ⟨w,r,rfl,h1,h2⟩ := h.cons
 by_cases hw : isW s w = true
 · exact .inl ⟨r,by simp [takeP,nth,hw],fun q => by simp [takeR,nth,hw],h2 (isW_ne hw),rfl⟩
 · exact .inr ⟨by simp [takeP,nth,hw],fun q => by simp [takeR,nth,hw]⟩
theorem name_rel {l : List Wd} (h : Wf l) : (∃ t r,nameP l = some (true,t,r) ∧ (∀ q,nameR l q = some (t,r,q)) ∧ Wf r ∧ r.length + 1 = l.length ∧ t.size ≤ 400) ∨ (nameP l = some (false,⟨#[]⟩,l) ∧ ∀ q,nameR l q = some (⟨#[]⟩,l,true)) := by
 obtain ⟨w,r,rfl,h1,h2⟩ := h.cons
 by_cases hw : w.1 = 1 ∧ kwP w.2.1 = false
 · exact .inl ⟨w.2.1,r,by simp [nameP,nth,hw],fun q => by simp [nameR,nth,hw],h2 (by rw [hw.1]; decide),rfl,h1⟩
 · refine .inr ⟨?_,fun q => ?_⟩
   · unfold nameP; simp only [nth,Option.bind_some]; rw [if_neg hw]
   · unfold nameR; simp only [nth,Option.bind_some]; rw [if_neg hw]
abbrev dot : ByteArray := (⟨#[46]⟩ : ByteArray)
theorem join_snoc (x : List (List UInt8)) (hx : x ≠ []) (a sep : List UInt8) : Lib.join (x ++ [a]) sep = Lib.join x sep ++ (sep ++ a) := by
 cases x with
 | nil => exact absurd rfl hx
 | cons b r =>
  rw [List.cons_append,Lib.join_cons,Lib.join_cons]
  unfold Lib.joinTail
  simp
theorem joinF_snoc {x : List ByteArray} {t : ByteArray} (hx : x ≠ []) (h : Q.strings_Join.f x dot = some t) (a : ByteArray) (hl : x.length ≤ 1000) (ht : t.size ≤ 1000000) (ha : a.size ≤ 400) : Q.strings_Join.f (x ++ [a]) dot = some (t ++ (dot ++ a)) := by
 unfold Q.strings_Join.f at h ⊢
 have e : Lib.join ((x ++ [a]).map (·.data.toList)) dot.data.toList = Lib.join (x.map (·.data.toList)) dot.data.toList ++ (dot.data.toList ++ a.data.toList) := by
  rw [List.map_append,List.map_cons,List.map_nil,join_snoc]
  intro q
  exact hx (List.map_eq_nil_iff.1 q)
 rw [e]
 split at h
 · rename_i hc
   have h' := Option.some.inj h
   have hz : (Lib.join (x.map (·.data.toList)) dot.data.toList).length = t.size := by rw [← h']; rfl
   have hd : dot.data.toList.length = 1 := rfl
   have hb : a.data.toList.length = a.size := rfl
   rw [if_pos ⟨by simp; omega,by rw [List.length_append,List.length_append,hz,hd,hb]; omega⟩]
   rw [← h']
   congr 1
   first | done | (apply ByteArray.ext; rw [ByteArray.data_append,ByteArray.data_append]; apply Array.ext'; simp)
 · cases h
theorem more_rel : ∀ (k : Nat) (l : List Wd) (x : List ByteArray) (t : ByteArray),Wf l → l.length < k → Q.strings_Join.f x dot = some t → x ≠ [] → t.size ≤ 401 * x.length → x.length + l.length ≤ 1000 →
 (∃ y t' r,moreP k x l = some (true,y,r) ∧ Q.strings_Join.f y dot = some t' ∧ moreR k t l false = some (t',r,false) ∧ Wf r ∧ r.length ≤ l.length ∧ t'.size ≤ 401000) ∨
 (∃ y r t' r',moreP k x l = some (false,y,r) ∧ moreR k t l false = some (t',r',true) ∧ Wf r' ∧ r'.length ≤ l.length) := by
 intro k
 induction k with
 | zero => intro l x t _ h; omega
 | succ k ih =>
  intro l x t hw hk hj hx ht hn
  rcases take_rel hw dot with ⟨r,h1,h2,h3,h4⟩ | ⟨h1,h2⟩
  · rcases name_rel h3 with ⟨a,r2,g1,g2,g3,g4,g5⟩ | ⟨g1,g2⟩
    · have hm : (x.length + [a].length) * 16 ≤ most := by unfold most; simp; omega
      have hd : ((⟨#[46]⟩ : ByteArray) : ByteArray).size = 1 := rfl
      have hs : (((⟨#[46]⟩ : ByteArray) : ByteArray) ++ a).size = 1 + a.size := by rw [ByteArray.size_append,hd]
      have hta : (t ++ (((⟨#[46]⟩ : ByteArray) : ByteArray) ++ a)).size = t.size + (1 + a.size) := by rw [ByteArray.size_append,hs]
      have e1 : moreP (k + 1) x l = moreP k (x ++ [a]) r2 := by rw [moreP,h1]; simp only [Option.bind_some,if_true,g1]; rw [if_pos hm]
      have e2 : moreR (k + 1) t l false = moreR k (t ++ (((⟨#[46]⟩ : ByteArray) : ByteArray) ++ a)) r2 false := by
       rw [moreR,if_neg (by decide),h2]; simp only [Option.bind_some,if_true,g2]
       rw [if_pos (by rw [hd]; omega),if_pos (by rw [hs]; omega)]
      rw [e1,e2]
      rcases ih r2 (x ++ [a]) (t ++ (dot ++ a)) g3 (by omega) (joinF_snoc hx hj a (by omega) (by omega) g5) (by simp) (by rw [hta]; simp; omega) (by simp; omega) with ⟨y,t',r',q1,q2,q3,q4,q5,q6⟩ | ⟨y,r',t',r'',q1,q2,q3,q4⟩
      · exact .inl ⟨y,t',r',q1,q2,q3,q4,by omega,q6⟩
      · exact .inr ⟨y,r',t',r'',q1,q2,q3,by omega⟩
    · have hd : ((⟨#[46]⟩ : ByteArray) : ByteArray).size = 1 := rfl
      obtain ⟨k',rfl⟩ : ∃ k',k = k' + 1 := ⟨k - 1,by have := h3.cons; obtain ⟨_,_,rfl,_⟩ := this; simp at h4; omega⟩
      refine .inr ⟨[],r,t ++ (((⟨#[46]⟩ : ByteArray) : ByteArray) ++ ⟨#[]⟩),r,?_,?_,h3,by omega⟩
      · rw [moreP,h1]; simp only [Option.bind_some,if_true,g1]; rfl
      · rw [moreR,if_neg (by decide),h2]; simp only [Option.bind_some,if_true,g2]
        rw [if_pos (by rw [hd]; decide),if_pos (by rw [ByteArray.size_append,hd]; show t.size + (1 + 0) ≤ _; omega),moreR,if_pos rfl]
  · refine .inl ⟨x,t,l,?_,hj,?_,hw,Nat.le_refl _,by omega⟩
    · rw [moreP,h1]; simp
    · rw [moreR,if_neg (by decide),h2]; simp
theorem path_rel {l : List Wd} (hw : Wf l) (hn : l.length ≤ 500) :
 (∃ t r,pathQ l = some (true,t,r) ∧ pathRQ l false = some (t,r,false) ∧ Wf r ∧ r.length < l.length ∧ t.size ≤ 401000) ∨
 (∃ t r t' r',pathQ l = some (false,t,r) ∧ pathRQ l false = some (t',r',true) ∧ Wf r' ∧ r'.length ≤ l.length) := by
 unfold pathQ pathP pathRQ pathR
 rcases name_rel hw with ⟨a,r,g1,g2,g3,g4,g5⟩ | ⟨g1,g2⟩
 · rw [g1,g2]
   simp only [Option.bind_some,if_true]
   have hj : Q.strings_Join.f [a] dot = some a := by
    unfold Q.strings_Join.f
    rw [show List.map (fun b : ByteArray => b.data.toList) [a] = [a.data.toList] from rfl,Lib.join_one]
    rw [if_pos ⟨by simp,by show a.size ≤ _; omega⟩]
   rcases more_rel (l.length + 1) r [a] a g3 (by omega) hj (by simp) (by simp; omega) (by simp; omega) with ⟨y,t',r',q1,q2,q3,q4,q5,q6⟩ | ⟨y,r',t',r'',q1,q2,q3,q4⟩
   · exact .inl ⟨t',r',by rw [q1]; simp only [Option.bind_some,if_true]; rw [q2]; rfl,q3,q4,by omega,q6⟩
   · exact .inr ⟨_,_,t',r'',by rw [q1]; simp only [Option.bind_some]; rfl,q2,q3,by omega⟩
 · rw [g1,g2]
   simp only [Option.bind_some]
   exact .inr ⟨_,_,⟨#[]⟩,l,rfl,by rw [moreR,if_pos rfl],hw,Nat.le_refl _⟩
/-! ### trees -/
inductive Small : Node → Prop
 | mk (n : Node) : n.x.2.2.2.2.length ≤ 2 → n.x.2.1.2.2.2.size ≤ 900000 → n.x.2.2.1.size ≤ 900000 → (∀ m ∈ n.x.2.2.2.2,Small m) → Small n
theorem small_nd {op a b j : Int} {c : Bool} {t s : ByteArray} {ks : List Node} (ht : t.size ≤ 900000) (hs : s.size ≤ 900000) (h1 : ks.length ≤ 2) (h2 : ∀ m ∈ ks,Small m) : Small (nd op a b c t s j ks) := .mk _ h1 ht hs h2
theorem small0 {op a b j : Int} {c : Bool} {t s : ByteArray} (ht : t.size ≤ 900000) (hs : s.size ≤ 900000) : Small (nd op a b c t s j []) := small_nd ht hs (by simp) (fun _ h => by cases h)
theorem size0 : ((⟨#[]⟩ : ByteArray) : ByteArray).size ≤ 900000 := by decide
theorem small1 {op a b j : Int} {c : Bool} {n : Node} (h : Small n) : Small (nd op a b c (⟨#[]⟩ : ByteArray) (⟨#[]⟩ : ByteArray) j [n]) := small_nd size0 size0 (by simp) (fun m hm => by rw [List.mem_singleton.1 hm]; exact h)
theorem small2 {op a b j : Int} {c : Bool} {n m : Node} (h : Small n) (h' : Small m) : Small (nd op a b c (⟨#[]⟩ : ByteArray) (⟨#[]⟩ : ByteArray) j [n,m]) := small_nd size0 size0 (by simp) (fun x hx => by
 rcases List.mem_cons.1 hx with rfl | hx
 · exact h
 · rw [List.mem_singleton.1 hx]; exact h')
theorem kids_lt (n : Node) : SizeOf.sizeOf n.x.2.2.2.2 < SizeOf.sizeOf n := by
 obtain ⟨op,p,s,j,ks⟩ := n
 show SizeOf.sizeOf ks < _
 simp
 omega
theorem mem_lt {n : Node} {l : List Node} (h : n ∈ l) : SizeOf.sizeOf n.x.2.2.2.2 < SizeOf.sizeOf l := Nat.lt_trans (kids_lt n) (List.sizeOf_lt_of_mem h)
theorem deepL_some {D : Node → Option Int} : ∀ (l : List Node) (d : Int),(∀ n ∈ l,∃ e,D n = some e) → ∃ e,deepL D l d = some e
 | [],d,_ => ⟨_,rfl⟩
 | n :: r,d,h => by
  obtain ⟨e,he⟩ := h n (List.mem_cons_self ..)
  rw [deepL,he]
  exact deepL_some r _ fun m hm => h m (List.mem_cons_of_mem _ hm)
theorem deep_some : ∀ (k : Nat) (l : List Node),l.length ≤ 2 → (∀ m ∈ l,Small m) → SizeOf.sizeOf l < k → ∃ d,deepP k l = some d
 | 0,l,_,_,h => absurd h (Nat.not_lt_zero _)
 | k + 1,l,h1,h2,h => by
  rw [deepP,if_pos (by omega)]
  refine deepL_some l 0 fun n hn => ?_
  cases h2 n hn with
  | mk _ h3 _ _ h4 => exact deep_some k _ h3 h4 (by have := mem_lt hn; omega)
/-! ### the grammar -/
def Rel (a : PR Node) (b : RR Node) (n : Nat) : Prop := (∃ x r,a = some (true,x,r) ∧ b = some (x,r,false) ∧ Wf r ∧ r.length < n ∧ Small x) ∨ (∃ x r y s,a = some (false,x,r) ∧ b = some (y,s,true) ∧ Wf s ∧ s.length ≤ n)
theorem Rel.le {a : PR Node} {b : RR Node} {n m : Nat} (h : Rel a b n) (hm : n ≤ m) : Rel a b m := by
 rcases h with ⟨x,r,h1,h2,h3,h4,h5⟩ | ⟨x,r,y,s,h1,h2,h3,h4⟩
 · exact .inl ⟨x,r,h1,h2,h3,by omega,h5⟩
 · exact .inr ⟨x,r,y,s,h1,h2,h3,by omega⟩
theorem need_rel {l : List Wd} (h : Wf l) (s : ByteArray) : (∃ r,takeP s l = some (true,r) ∧ (∀ q,needR s l q = some (r,q)) ∧ Wf r ∧ r.length + 1 = l.length) ∨ (takeP s l = some (false,l) ∧ ∀ q,needR s l q = some (l,true)) := by
 rcases take_rel h s with ⟨r,h1,h2,h3,h4⟩ | ⟨h1,h2⟩
 · exact .inl ⟨r,h1,fun q => by rw [needR,h2]; rfl,h3,h4⟩
 · exact .inr ⟨h1,fun q => by rw [needR,h2]; rfl⟩
theorem need_bad {l : List Wd} (h : Wf l) (s : ByteArray) : ∃ r,needR s l true = some (r,true) ∧ Wf r ∧ r.length ≤ l.length := by
 rcases need_rel h s with ⟨r,h1,h2,h3,h4⟩ | ⟨h1,h2⟩
 · exact ⟨r,h2 _,h3,by omega⟩
 · exact ⟨l,h2 _,h,Nat.le_refl _⟩
theorem name_bad {l : List Wd} (h : Wf l) : ∃ t r,nameR l true = some (t,r,true) ∧ Wf r ∧ r.length ≤ l.length := by
 rcases name_rel h with ⟨a,r,g1,g2,g3,g4,g5⟩ | ⟨g1,g2⟩
 · exact ⟨a,r,g2 _,g3,by omega⟩
 · exact ⟨_,l,g2 _,h,Nat.le_refl _⟩
theorem path_bad {l : List Wd} (h : Wf l) : ∃ t r,pathRQ l true = some (t,r,true) ∧ Wf r ∧ r.length ≤ l.length := by
 obtain ⟨t,r,h1,h2,h3⟩ := name_bad h
 exact ⟨t,r,by rw [pathRQ,pathR,h1]; simp only [Option.bind_some]; rw [moreR,if_pos rfl],h2,h3⟩
theorem opo_rel0 {own : Int} {l : List Wd} (h : Wf l) : ∀ (L : List (Int × Int × ByteArray)),(∀ x ∈ L,tightP x.1 = x.2.1 ∧ signP x.1 = x.2.2 ∧ 0 < x.1) → (∃ o r,opP own L l = some (o,true,r) ∧ opR own (L.map (·.1)) l = some o ∧ 0 < o ∧ r = l.drop 1 ∧ Wf r ∧ r.length + 1 = l.length) ∨ (opP own L l = some (0,false,l) ∧ opR own (L.map (·.1)) l = some 0)
 | [],_ => .inr ⟨rfl,rfl⟩
 | x :: L,hL => by
  obtain ⟨e1,e2,e3⟩ := hL x (List.mem_cons_self ..)
  have ih := opo_rel0 (own := own) h L fun y hy => hL y (List.mem_cons_of_mem _ hy)
  rw [List.map_cons,opP,opR,e1,e2]
  by_cases hx : x.2.1 = own
  · rw [if_pos hx,if_pos hx]
    obtain ⟨w,r,rfl,h1,h2⟩ := h.cons
    by_cases hw : isW x.2.2 w = true
    · exact .inl ⟨x.1,r,by simp [takeP,nth,hw],by simp [atP,nth,hw],e3,rfl,h2 (isW_ne hw),rfl⟩
    · have e4 : takeP x.2.2 (w :: r) = some (false,w :: r) := by simp [takeP,nth,hw]
      have e5 : atP x.2.2 (w :: r) = some false := by simp [atP,nth,hw]
      rw [e4,e5]
      simp only [Option.bind_some,Bool.false_eq_true,if_false]
      exact ih
  · rw [if_neg hx,if_neg hx]
    exact ih
theorem opo_rel {own : Int} {l : List Wd} (h : Wf l) : (∃ o r,opP own opsL l = some (o,true,r) ∧ opR own opsR l = some o ∧ 0 < o ∧ r = l.drop 1 ∧ Wf r ∧ r.length + 1 = l.length) ∨ (opP own opsL l = some (0,false,l) ∧ opR own opsR l = some 0) :=
 opo_rel0 h opsL (by decide +kernel)
theorem wf_pos {l : List Wd} (h : Wf l) : 0 < l.length := by obtain ⟨_,_,rfl,_⟩ := h.cons; simp
theorem opR_some {own : Int} {l : List Wd} (h : Wf l) : ∃ o,opR own opsR l = some o := by
 rcases opo_rel (own := own) h with ⟨o,r,_,h2,_⟩ | ⟨_,h2⟩
 · exact ⟨_,h2⟩
 · exact ⟨_,h2⟩
theorem loop_rel {E : Int → List Wd → PR Node} {E' : Int → List Wd → Bool → RR Node} {own : Int} : ∀ (m : Nat) (n : Node) (l : List Wd),Wf l → l.length ≤ m → Small n → (∀ r,Wf r → r.length < l.length → Rel (E (IntKind.i64.wrap (own + 1)) r) (E' (IntKind.i64.wrap (own + 1)) r false) r.length) →
 Rel (loopP E own (m + 1) n l) ((opR own opsR l).bind fun o => loopR E' own (m + 1) o n l false) (l.length + 1)
 | m,n,l,hw,hm,hn,hE => by
  rcases opo_rel (own := own) hw with ⟨o,r,h1,h2,h3,h4,h5,h6⟩ | ⟨h1,h2⟩
  · rw [loopP,h1,h2]
    simp only [Option.bind_some,if_true]
    obtain ⟨w,r',rfl,_,_⟩ := hw.cons
    obtain rfl : r = r' := h4
    have e0 : nth (w :: r) 0 = some w := by simp [nth]
    rw [loopR,if_pos ⟨h3,rfl⟩,e0]
    simp only [Option.bind_some,List.drop_succ_cons,List.drop_zero]
    rcases hE r h5 (by omega) with ⟨x,s,g1,g2,g3,g4,g5⟩ | ⟨x,s,y,s',g1,g2,g3,g4⟩
    · rw [thenP,g1,g2]
      simp only [Option.bind_some,if_true]
      by_cases ho : own = 4
      · rw [if_pos ho,if_pos ho]
        exact .inl ⟨_,s,rfl,rfl,g3,by omega,small2 hn g5⟩
      · rw [if_neg ho,if_neg ho]
        obtain ⟨m',rfl⟩ : ∃ m',m = m' + 1 := ⟨m - 1,by have := wf_pos g3; omega⟩
        exact (loop_rel m' _ s g3 (by omega) (small2 hn g5) fun r hr hl => hE r hr (by omega)).le (by omega)
    · rw [thenP,g1,g2]
      simp only [Option.bind_some,Bool.false_eq_true,if_false]
      by_cases ho : own = 4
      · rw [if_pos ho]
        exact .inr ⟨_,_,_,s',rfl,rfl,g3,by omega⟩
      · rw [if_neg ho]
        obtain ⟨o',h7⟩ := opR_some (own := own) g3
        rw [h7]
        simp only [Option.bind_some]
        obtain ⟨m',rfl⟩ : ∃ m',m = m' + 1 := ⟨m - 1,by have := wf_pos g3; omega⟩
        rw [loopR,if_neg (by simp)]
        exact .inr ⟨_,_,_,s',rfl,rfl,g3,by omega⟩
  · rw [loopP,h1,h2]
    simp only [Option.bind_some,Bool.false_eq_true,if_false]
    rw [loopR,if_neg (by simp)]
    exact .inl ⟨n,l,rfl,rfl,hw,Nat.lt_succ_self _,hn⟩
theorem bin_rel {E : Int → List Wd → PR Node} {E' : Int → List Wd → Bool → RR Node} {own : Int} {l : List Wd} (h0 : Rel (E (IntKind.i64.wrap (own + 1)) l) (E' (IntKind.i64.wrap (own + 1)) l false) l.length) (hE : ∀ r,Wf r → r.length < l.length → Rel (E (IntKind.i64.wrap (own + 1)) r) (E' (IntKind.i64.wrap (own + 1)) r false) r.length) :
 Rel (exprB E own l) ((E' (IntKind.i64.wrap (own + 1)) l false).bind fun b => (opR own opsR b.2.1).bind fun o => loopR E' own (b.2.1.length + 1) o b.1 b.2.1 b.2.2) l.length := by
 unfold exprB thenP
 rcases h0 with ⟨x,r,h1,h2,h3,h4,h5⟩ | ⟨x,r,y,s,h1,h2,h3,h4⟩
 · rw [h1,h2]
   simp only [Option.bind_some,if_true]
   exact (loop_rel r.length x r h3 (Nat.le_refl _) h5 fun t ht hl => hE t ht (by omega)).le h4
 · rw [h1,h2]
   simp only [Option.bind_some,Bool.false_eq_true,if_false]
   obtain ⟨o',h7⟩ := opR_some (own := own) h3
   rw [h7]
   simp only [Option.bind_some]
   rw [loopR,if_neg (by simp)]
   exact .inr ⟨_,_,_,s,rfl,rfl,h3,h4⟩
theorem prt_rel {E : Int → List Wd → PR Node} {E' : Int → List Wd → Bool → RR Node} {l : List Wd} (hw : Wf l) (hn : l.length ≤ 500) (hE : ∀ r,Wf r → r.length < l.length → Rel (E 1 r) (E' 1 r false) r.length) : Rel (partP E l) (partR E' l false) l.length := by
 obtain ⟨w,r0,hl,h1,h2⟩ := hw.cons
 have e0 : nth l 0 = some w := by rw [hl]; simp [nth]
 have ed : l.drop 1 = r0 := by rw [hl]; rfl
 have el : r0.length + 1 = l.length := by rw [hl]; rfl
 unfold partP partR
 rw [e0]
 simp only [Option.bind_some]
 by_cases hw2 : w.1 = 2
 · rw [if_pos hw2,if_pos hw2,ed]
   exact .inl ⟨_,r0,rfl,rfl,h2 (by rw [hw2]; decide),by omega,small0 size0 size0⟩
 rw [if_neg hw2,if_neg hw2]
 by_cases hw3 : w.1 = 3
 · rw [if_pos hw3,if_pos hw3,ed]
   exact .inl ⟨_,r0,rfl,rfl,h2 (by rw [hw3]; decide),by omega,small0 (by omega) size0⟩
 rw [if_neg hw3,if_neg hw3]
 rcases take_rel hw (⟨#[116,114,117,101]⟩ : ByteArray) with ⟨r,g1,g2,g3,g4⟩ | ⟨g1,g2⟩
 · rw [g1,g2]
   exact .inl ⟨_,r,rfl,rfl,g3,by omega,small0 size0 size0⟩
 rw [g1,g2]
 simp only [Option.bind_some,Bool.false_eq_true,if_false]
 rcases take_rel hw (⟨#[102,97,108,115,101]⟩ : ByteArray) with ⟨r,g1,g2,g3,g4⟩ | ⟨g1,g2⟩
 · rw [g1,g2]
   exact .inl ⟨_,r,rfl,rfl,g3,by omega,small0 size0 size0⟩
 rw [g1,g2]
 simp only [Option.bind_some,Bool.false_eq_true,if_false]
 rcases take_rel hw (⟨#[40]⟩ : ByteArray) with ⟨r,g1,g2,g3,g4⟩ | ⟨g1,g2⟩
 · rw [g1,g2]
   simp only [Option.bind_some,if_true]
   rcases hE r g3 (by omega) with ⟨x,s,q1,q2,q3,q4,q5⟩ | ⟨x,s,y,s',q1,q2,q3,q4⟩
   · rw [thenP,q1,q2]
     simp only [Option.bind_some,if_true]
     rcases need_rel q3 (⟨#[41]⟩ : ByteArray) with ⟨u,p1,p2,p3,p4⟩ | ⟨p1,p2⟩
     · rw [mustP,p1,p2]
       exact .inl ⟨_,u,rfl,rfl,p3,by omega,q5⟩
     · rw [mustP,p1,p2]
       exact .inr ⟨_,_,_,s,rfl,rfl,q3,by omega⟩
   · rw [thenP,q1,q2]
     simp only [Option.bind_some,Bool.false_eq_true,if_false]
     obtain ⟨u,p1,p2,p3⟩ := need_bad q3 (⟨#[41]⟩ : ByteArray)
     rw [p1]
     exact .inr ⟨_,_,_,u,rfl,rfl,p2,by omega⟩
 rw [g1,g2]
 simp only [Option.bind_some,Bool.false_eq_true,if_false]
 rcases take_rel hw (⟨#[99,111,117,110,116]⟩ : ByteArray) with ⟨r,g1,g2,g3,g4⟩ | ⟨g1,g2⟩
 · rw [g1,g2]
   simp only [Option.bind_some,if_true]
   rcases need_rel g3 (⟨#[40]⟩ : ByteArray) with ⟨u,p1,p2,p3,p4⟩ | ⟨p1,p2⟩
   · rw [mustP,p1,p2]
     simp only [Option.bind_some,if_true]
     rcases path_rel p3 (by omega) with ⟨t,v,q1,q2,q3,q4,q5⟩ | ⟨t,v,t',v',q1,q2,q3,q4⟩
     · rw [thenP,q1,q2]
       simp only [Option.bind_some,if_true]
       rcases need_rel q3 (⟨#[41]⟩ : ByteArray) with ⟨z,n1,n2,n3,n4⟩ | ⟨n1,n2⟩
       · rw [mustP,n1,n2]
         exact .inl ⟨_,z,rfl,rfl,n3,by omega,small0 size0 (by omega)⟩
       · rw [mustP,n1,n2]
         exact .inr ⟨_,_,_,v,rfl,rfl,q3,by omega⟩
     · rw [thenP,q1,q2]
       simp only [Option.bind_some,Bool.false_eq_true,if_false]
       obtain ⟨z,n1,n2,n3⟩ := need_bad q3 (⟨#[41]⟩ : ByteArray)
       rw [n1]
       exact .inr ⟨_,_,_,z,rfl,rfl,n2,by omega⟩
   · rw [mustP,p1,p2]
     simp only [Option.bind_some,Bool.false_eq_true,if_false]
     obtain ⟨t,v,q1,q2,q3⟩ := path_bad g3
     rw [q1]
     simp only [Option.bind_some]
     obtain ⟨z,n1,n2,n3⟩ := need_bad q2 (⟨#[41]⟩ : ByteArray)
     rw [n1]
     exact .inr ⟨_,_,_,z,rfl,rfl,n2,by omega⟩
 rw [g1,g2]
 simp only [Option.bind_some,Bool.false_eq_true,if_false]
 rcases take_rel hw (⟨#[110,117,109,98,101,114]⟩ : ByteArray) with ⟨r,g1,g2,g3,g4⟩ | ⟨g1,g2⟩
 · rw [g1,g2]
   simp only [Option.bind_some,if_true]
   have bad2 : ∀ (t : ByteArray) (l' : List Wd),Wf l' → l'.length ≤ l.length → ∃ y s,((nameR l' true).bind fun d => (needR (⟨#[41]⟩ : ByteArray) d.2.1 (if d.2.2 = true then true else !decide (1 ≤ stP d.1))).bind fun c => some (nd 4 0 0 false (⟨#[]⟩ : ByteArray) t (stP d.1) [],c)) = some (y,s,true) ∧ Wf s ∧ s.length ≤ l.length := by
    intro t l' hl' hn'
    obtain ⟨t2,v2,q1,q2,q3⟩ := name_bad hl'
    rw [q1]
    simp only [Option.bind_some,if_true]
    obtain ⟨z,n1,n2,n3⟩ := need_bad q2 (⟨#[41]⟩ : ByteArray)
    rw [n1]
    exact ⟨_,z,rfl,n2,by omega⟩
   have bad1 : ∀ (t : ByteArray) (l' : List Wd),Wf l' → l'.length ≤ l.length → ∃ y s,((needR (⟨#[44]⟩ : ByteArray) l' true).bind fun c => (nameR c.1 c.2).bind fun d => (needR (⟨#[41]⟩ : ByteArray) d.2.1 (if d.2.2 = true then true else !decide (1 ≤ stP d.1))).bind fun c => some (nd 4 0 0 false (⟨#[]⟩ : ByteArray) t (stP d.1) [],c)) = some (y,s,true) ∧ Wf s ∧ s.length ≤ l.length := by
    intro t l' hl' hn'
    obtain ⟨z,n1,n2,n3⟩ := need_bad hl' (⟨#[44]⟩ : ByteArray)
    rw [n1]
    exact bad2 t z n2 (by omega)
   rcases need_rel g3 (⟨#[40]⟩ : ByteArray) with ⟨u,p1,p2,p3,p4⟩ | ⟨p1,p2⟩
   · rw [mustP,p1,p2]
     simp only [Option.bind_some,if_true]
     rcases name_rel p3 with ⟨t,v,q1,q2,q3,q4,q5⟩ | ⟨q1,q2⟩
     · rw [thenP,q1,q2]
       simp only [Option.bind_some,if_true]
       rcases need_rel q3 (⟨#[44]⟩ : ByteArray) with ⟨z,n1,n2,n3,n4⟩ | ⟨n1,n2⟩
       · rw [mustP,n1,n2]
         simp only [Option.bind_some,if_true]
         rcases name_rel n3 with ⟨t',v',m1,m2,m3,m4,m5⟩ | ⟨m1,m2⟩
         · rw [thenP,m1,m2]
           simp only [Option.bind_some,if_true,Bool.false_eq_true,if_false]
           by_cases hs : 1 ≤ stP t'
           · rw [if_pos hs]
             rcases need_rel m3 (⟨#[41]⟩ : ByteArray) with ⟨z',k1,k2,k3,k4⟩ | ⟨k1,k2⟩
             · rw [mustP,k1,k2]
               exact .inl ⟨_,z',rfl,by simp [hs],k3,by omega,small0 size0 (by omega)⟩
             · rw [mustP,k1,k2]
               exact .inr ⟨_,_,_,v',rfl,rfl,m3,by omega⟩
           · rw [if_neg hs]
             rw [show (!decide (1 ≤ stP t')) = true by simp [hs]]
             obtain ⟨z',k1,k2,k3⟩ := need_bad m3 (⟨#[41]⟩ : ByteArray)
             rw [k1]
             exact .inr ⟨_,_,_,z',rfl,rfl,k2,by omega⟩
         · rw [thenP,m1,m2]
           simp only [Option.bind_some,if_true,Bool.false_eq_true,if_false]
           obtain ⟨z',k1,k2,k3⟩ := need_bad n3 (⟨#[41]⟩ : ByteArray)
           rw [k1]
           exact .inr ⟨_,_,_,z',rfl,rfl,k2,by omega⟩
       · rw [mustP,n1,n2]
         simp only [Option.bind_some,Bool.false_eq_true,if_false]
         obtain ⟨y,s,k1,k2,k3⟩ := bad2 t v q3 (by omega)
         exact .inr ⟨_,_,y,s,rfl,k1,k2,k3⟩
     · rw [thenP,q1,q2]
       simp only [Option.bind_some,Bool.false_eq_true,if_false]
       obtain ⟨y,s,k1,k2,k3⟩ := bad1 _ u p3 (by omega)
       exact .inr ⟨_,_,y,s,rfl,k1,k2,k3⟩
   · rw [mustP,p1,p2]
     simp only [Option.bind_some,Bool.false_eq_true,if_false]
     obtain ⟨t,v,q1,q2,q3⟩ := name_bad g3
     rw [q1]
     simp only [Option.bind_some]
     obtain ⟨y,s,k1,k2,k3⟩ := bad1 t v q2 (by omega)
     exact .inr ⟨_,_,y,s,rfl,k1,k2,k3⟩
 rw [g1,g2]
 simp only [Option.bind_some,Bool.false_eq_true,if_false]
 rcases path_rel hw hn with ⟨t,v,q1,q2,q3,q4,q5⟩ | ⟨t,v,t',v',q1,q2,q3,q4⟩
 · rw [thenP,q1,q2]
   exact .inl ⟨_,v,rfl,rfl,q3,q4,small0 size0 (show t.size ≤ 900000 by omega)⟩
 · rw [thenP,q1,q2]
   exact .inr ⟨_,_,_,v',rfl,rfl,q3,q4⟩
theorem wrap_small {n : Int} (h : 1 ≤ n) (h' : n ≤ 7) : IntKind.i64.wrap (n + 1) = n + 1 := by
 have hc : n = 1 ∨ n = 2 ∨ n = 3 ∨ n = 4 ∨ n = 5 ∨ n = 6 ∨ n = 7 := by omega
 rcases hc with rfl | rfl | rfl | rfl | rfl | rfl | rfl <;> decide +kernel
theorem expr_rel : ∀ (M : Nat) (own : Int) (l : List Wd) (k k' : Nat),Wf l → l.length ≤ 500 → 1 ≤ own → own ≤ 7 → 9 * l.length + (8 - own.toNat) ≤ M → M < k → M < k' → Rel (exprP k own l) (looseR k' own l false) l.length := by
 intro M
 induction M using Nat.strongRecOn with
 | ind M ih =>
  intro own l k k' hw hn ho1 ho2 hM hk hk'
  have hp := wf_pos hw
  obtain ⟨k,rfl⟩ : ∃ j,k = j + 1 := ⟨k - 1,by omega⟩
  obtain ⟨k',rfl⟩ : ∃ j,k' = j + 1 := ⟨k' - 1,by omega⟩
  obtain ⟨k1,rfl⟩ : ∃ j,k' = j + 1 := ⟨k' - 1,by omega⟩
  rw [exprP,looseR,if_neg (show ¬ (false = true) from by decide)]
  by_cases h3 : own = 3
  · subst h3
    rw [if_pos rfl,if_pos rfl]
    rcases take_rel hw (⟨#[110,111,116]⟩ : ByteArray) with ⟨r,g1,g2,g3,g4⟩ | ⟨g1,g2⟩
    · rw [g1,g2]
      simp only [Option.bind_some,if_true]
      rcases ih (M - 9) (by omega) 3 r k (k1 + 1) g3 (by omega) (by decide) (by decide) (by omega) (by omega) (by omega) with ⟨x,s,q1,q2,q3,q4,q5⟩ | ⟨x,s,y,s',q1,q2,q3,q4⟩
      · rw [thenP,q1,q2]
        exact .inl ⟨_,s,rfl,rfl,q3,by omega,small1 q5⟩
      · rw [thenP,q1,q2]
        exact .inr ⟨_,_,_,s',rfl,rfl,q3,by omega⟩
    · rw [g1,g2]
      simp only [Option.bind_some,Bool.false_eq_true,if_false]
      rw [looseR,if_neg (show ¬ (false = true) from by decide),if_neg (show ¬ ((4 : Int) = 3) from by decide),if_neg (show ¬ ((4 : Int) = 7) from by decide),show IntKind.i64.wrap (3 + 1) = 4 from by decide +kernel]
      refine bin_rel (E := exprP k) (E' := looseR k1) ?_ ?_
      · rw [show IntKind.i64.wrap (4 + 1) = 5 from by decide +kernel]
        exact ih (M - 2) (by omega) 5 l k k1 hw hn (by decide) (by decide) (by omega) (by omega) (by omega)
      · intro r hr hl
        rw [show IntKind.i64.wrap (4 + 1) = 5 from by decide +kernel]
        exact ih (M - 2) (by omega) 5 r k k1 hr (by omega) (by decide) (by decide) (by omega) (by omega) (by omega)
  rw [if_neg h3,if_neg h3]
  by_cases h7 : own = 7
  · subst h7
    rw [if_pos rfl,if_pos rfl]
    rw [factorR,if_neg (show ¬ (false = true) from by decide)]
    rcases take_rel hw (⟨#[45]⟩ : ByteArray) with ⟨r,g1,g2,g3,g4⟩ | ⟨g1,g2⟩
    · rw [g1,g2]
      simp only [Option.bind_some,if_true]
      have e7 : looseR (k1 + 1) 7 r false = factorR k1 r false := by rw [looseR,if_neg (show ¬ (false = true) from by decide),if_neg (show ¬ ((7 : Int) = 3) from by decide),if_pos rfl]
      have := ih (M - 9) (by omega) 7 r k (k1 + 1) g3 (by omega) (by decide) (by decide) (by omega) (by omega) (by omega)
      rw [e7] at this
      rcases this with ⟨x,s,q1,q2,q3,q4,q5⟩ | ⟨x,s,y,s',q1,q2,q3,q4⟩
      · rw [thenP,q1,q2]
        exact .inl ⟨_,s,rfl,rfl,q3,by omega,small1 q5⟩
      · rw [thenP,q1,q2]
        exact .inr ⟨_,_,_,s',rfl,rfl,q3,by omega⟩
    · rw [g1,g2]
      simp only [Option.bind_some,Bool.false_eq_true,if_false]
      exact prt_rel hw hn fun r hr hl => ih (M - 3) (by omega) 1 r k k1 hr (by omega) (by decide) (by decide) (by omega) (by omega) (by omega)
  rw [if_neg h7,if_neg h7]
  have hm : (own + 1).toNat = own.toNat + 1 := by omega
  refine bin_rel (E := exprP k) (E' := looseR (k1 + 1)) ?_ ?_
  · rw [wrap_small ho1 ho2]
    exact ih (M - 1) (by omega) _ l k (k1 + 1) hw hn (by omega) (by omega) (by omega) (by omega) (by omega)
  · intro r hr hl
    rw [wrap_small ho1 ho2]
    exact ih (M - 1) (by omega) _ r k (k1 + 1) hr (by omega) (by omega) (by omega) (by omega) (by omega) (by omega)
/-- What follows the words of a text: both answers are the same, and the trees. -/
theorem both_rel {l : List Wd} (hw : Wf l) (hn : l.length ≤ 500) : Rel (exprP (9 * l.length + 9) 1 l) (looseR (9 * l.length + 9) 1 l false) l.length :=
 expr_rel (9 * l.length + 8) 1 l _ _ hw hn (by decide) (by decide) (by show 9 * l.length + (8 - 1) ≤ _; omega) (by omega) (by omega)
end Go.Proofs.YtbcpnpbkbndkjaaGreatDoor.Ev
end
