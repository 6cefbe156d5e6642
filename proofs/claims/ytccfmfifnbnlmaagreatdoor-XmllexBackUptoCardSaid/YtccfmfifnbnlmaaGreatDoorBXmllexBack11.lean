/- Several texts in one, in their order. -/
import Derived.Test.YtccfmfifnbnlmaaGreatDoorBXmllexBack10
import Derived.Shelf.Bytes.WriteAny
import Derived.Shelf.Bytes.String
import Derived.LoopTactic
import Derived.KernelRfl
section
/- The evaluator's trees are the functions: comments and instructions skipped. -/
set_option linter.unusedVariables false
set_option linter.unusedSimpArgs false
namespace Go.Proofs.YtccfmfifnbnlmaaGreatDoor.Ev
open Go Go.RowKit Go.Proofs.YtccfmfifnbnlmaaGreatDoorW.PrintWords
theorem take_len {l m : List Int} {n : Nat} (h : l.take n = m) : m.length ≤ l.length := by
 have := congrArg List.length h
 rw [List.length_take] at this
 omega
theorem comm_pos (r : List Int) : commW r = 0 ∨ (7 ≤ commW r ∧ commW r ≤ r.length) := by
 obtain ⟨q1,q2⟩ := bIndex_lt (l := r.drop 4) (m := [45,45])
 unfold commW
 split
 · exact .inl rfl
 · rename_i h
   have h1 : ¬ bIndexW (r.drop 4) [45,45] < 0 := fun q => h (.inl q)
   have h2 := Classical.byContradiction fun q => h (.inr q)
   have := take_len h2
   rw [List.length_drop] at this
   refine .inr ⟨by omega,?_⟩
   simp only [List.length_cons,List.length_nil] at this
   omega
theorem inst_pos (r : List Int) : instW r = 0 ∨ (4 ≤ instW r ∧ instW r ≤ r.length) := by
 unfold instW
 dsimp only
 obtain ⟨q1,q2⟩ := bIndex_lt (l := r.drop (2 + Xm.nameL (r.drop 2))) (m := [63,62])
 split
 · exact .inl rfl
 · rename_i h
   have h1 : ¬ bIndexW (r.drop (2 + Xm.nameL (r.drop 2))) [63,62] < 0 := fun q => h (.inr (.inl q))
   rw [if_neg (by omega),List.length_drop] at q2
   simp only [List.length_cons,List.length_nil] at q2
   exact .inr ⟨by omega,by omega⟩
/-- What a round of the skipping comes to. -/
theorem skip_step {b : List Int} {p : Int} {d : Nat} (h0 : 0 ≤ p) (h1 : p ≤ b.length) :
 (((b.drop p.toNat).take 4 = [60,33,45,45] ∧ skipGo (d + 1) b p = (if commW (b.drop p.toNat) = 0 then (p,11) else skipGo d b (p + commW (b.drop p.toNat))) ∧ 4 ≤ (b.drop p.toNat).length) ∨
 (¬ (b.drop p.toNat).take 4 = [60,33,45,45] ∧ (b.drop p.toNat).take 2 = [60,63] ∧ skipGo (d + 1) b p = (if instW (b.drop p.toNat) = 0 then (p,11) else skipGo d b (p + instW (b.drop p.toNat))) ∧ 2 ≤ (b.drop p.toNat).length) ∨
 (¬ (b.drop p.toNat).take 4 = [60,33,45,45] ∧ ¬ (b.drop p.toNat).take 2 = [60,63] ∧ skipGo (d + 1) b p = (p,0))) := by
 rw [skipGo]
 unfold markW
 have c := comm_pos (b.drop p.toNat)
 have i := inst_pos (b.drop p.toNat)
 by_cases a1 : (b.drop p.toNat).take 4 = [60,33,45,45]
 · refine .inl ⟨a1,?_,take_len a1⟩
   rw [if_pos a1,if_neg (by omega)]
 · by_cases a2 : (b.drop p.toNat).take 2 = [60,63]
   · refine .inr (.inl ⟨a1,a2,?_,take_len a2⟩)
     rw [if_neg a1,if_pos a2,if_neg (by omega)]
   · refine .inr (.inr ⟨a1,a2,?_⟩)
     rw [if_neg a1,if_neg a2,if_pos rfl]
theorem skip_L0 (n : Nat) (b : List Int) (p0 : Int) (hb : okB b) : ∀ (d k : Nat) (p : Int),0 ≤ p → p ≤ b.length → (b.length : Int) - p < d →
 xmllex_Skip.L0 n (k + d) b p0 b p = (some (.ret (.tup [.int .i64 (skipGo d b p).1,.int .i64 (skipGo d b p).2]),lcRet [] [] 0) : Option (Rr U0)) := by
 intro d
 induction d with
 | zero => intro k p h0 h1 h2; omega
 | succ d ih =>
  intro k p h0 h1 h2
  obtain ⟨hb1,hb2⟩ := hb
  have hr := byteB_drop hb1 p.toNat
  have hrl : (b.drop p.toNat).length = b.length - p.toNat := List.length_drop ..
  have c := comm_pos (b.drop p.toNat)
  have i := inst_pos (b.drop p.toNat)
  rw [show k + (d + 1) = (k + d) + 1 from rfl,xmllex_Skip.L0_s,if_pos h0,if_pos h1,preP_spec hr (by decide),Option.bind_some]
  rcases skip_step (d := d) h0 h1 with ⟨a1,e,a2⟩ | ⟨a1,a2,e,a3⟩ | ⟨a1,a2,e⟩
  · rw [if_pos (decide_eq_true (show (b.drop p.toNat).take ([60,33,45,45] : List Int).length = [60,33,45,45] from a1)),e]
    unfold commX
    rw [if_pos ⟨⟨hr,by omega⟩,a2⟩,Option.bind_some]
    by_cases z : commW (b.drop p.toNat) = 0
    · rw [if_pos (by rw [z]; rfl),if_pos z]
    · rw [if_neg (by rw [beq_iff_eq]; exact z),if_neg z,show IntKind.i64.wrap (p + commW (b.drop p.toNat)) = p + commW (b.drop p.toNat) by rw [wrap_64]; unfold wrap64; omega]
      exact ih k _ (by omega) (by omega) (by omega)
  · rw [if_neg (by rw [decide_eq_true_eq]; exact a1),preP_spec hr (by decide),Option.bind_some,if_pos (decide_eq_true (show (b.drop p.toNat).take ([60,63] : List Int).length = [60,63] from a2)),e]
    unfold instX
    rw [if_pos ⟨⟨hr,by omega⟩,a3⟩,Option.bind_some]
    by_cases z : instW (b.drop p.toNat) = 0
    · rw [if_pos (by rw [z]; rfl),if_pos z]
    · rw [if_neg (by rw [beq_iff_eq]; exact z),if_neg z,show IntKind.i64.wrap (p + instW (b.drop p.toNat)) = p + instW (b.drop p.toNat) by rw [wrap_64]; unfold wrap64; omega]
      exact ih k _ (by omega) (by omega) (by omega)
  · rw [if_neg (by rw [decide_eq_true_eq]; exact a1),preP_spec hr (by decide),Option.bind_some,if_neg (by rw [decide_eq_true_eq]; exact a2),e]
theorem xmllex_Skip.ok : AllOk specs_xmllex_Skip := okS (cx := cx_xmllex_Skip) rfl xmllex_instruction.ok (by kernel_rfl) fun args cs n K r g => by
 unfold xmllex_Skip.spec at g
 dsimp only [lcSt] at g
 split at g
 · rename_i b p
   obtain ⟨v,h,h2⟩ := bind2 g
   clear g
   refine okG h2 ?_
   clear h2
   refine ⟨0 + (b.length + 1),?_⟩
   rw [xmllex_Skip.top]
   unfold skipX at h
   split at h
   · rename_i hs
     obtain rfl := Option.some.inj h
     unfold skipW
     by_cases c : p < 0 ∨ p > b.length
     · rw [if_pos (by rw [ite_or,decide_eq_true_eq,decide_eq_true_eq]; exact c),if_pos c]
     · rw [if_neg (by rw [ite_or,decide_eq_true_eq,decide_eq_true_eq]; exact c),if_neg c]
       exact skip_L0 _ b p hs (b.length + 1) 0 p (by omega) (by omega) (by omega)
   · cases h
 · cases g
theorem rskip_L0 (n : Nat) (b : List Int) (p0 : Int) (hb : okB b) : ∀ (d k : Nat) (p : Int),0 ≤ p → p ≤ b.length → (b.length : Int) - p < d →
 dossierref05_Skip.L0 n (k + d) b p0 b p = (some (.ret (.tup [.int .i64 (skipGo d b p).1,.int .i64 (skipGo d b p).2]),lcRet [] [] 0) : Option (Rr U0)) := by
 intro d
 induction d with
 | zero => intro k p h0 h1 h2; omega
 | succ d ih =>
  intro k p h0 h1 h2
  obtain ⟨hb1,hb2⟩ := hb
  have hr := byteB_drop hb1 p.toNat
  have hrl : (b.drop p.toNat).length = b.length - p.toNat := List.length_drop ..
  have c := comm_pos (b.drop p.toNat)
  have i := inst_pos (b.drop p.toNat)
  have next : ∀ v,IntKind.i64.wrap (p + v) = p + v → 4 ≤ v → v ≤ (b.drop p.toNat).length → dossierref05_Skip.L0 n (k + d) b p0 b (IntKind.i64.wrap (p + v)) = (some (.ret (.tup [.int .i64 (skipGo d b (p + v)).1,.int .i64 (skipGo d b (p + v)).2]),lcRet [] [] 0) : Option (Rr U0)) :=
   fun v e v1 v2 => by rw [e]; exact ih k _ (by omega) (by omega) (by omega)
  rw [show k + (d + 1) = (k + d) + 1 from rfl,dossierref05_Skip.L0_s,if_pos h0,if_pos h1,beg_at hr _ [60,33,45,45] 4 rfl rfl,Option.bind_some]
  generalize hrr : b.drop p.toNat = r at hr hrl c i next
  rcases skip_step (d := d) h0 h1 with ⟨a1,e,a2⟩ | ⟨a1,a2,e,a3⟩ | ⟨a1,a2,e⟩ <;> simp only [hrr] at a1 a2 e <;> try simp only [hrr] at a3
  · rw [if_pos (decide_eq_true (show r.take 4 = _ from a1)),e,if_pos (by omega),show Int.toNat 4 = 4 from rfl,find_to (byteB_drop hr 4) _ [45,45] rfl (by decide) (by rw [List.length_drop]; omega),Option.bind_some]
    unfold commW at c ⊢
    obtain ⟨q1,q2⟩ := bIndex_lt (l := r.drop 4) (m := [45,45])
    rw [List.length_drop] at q2
    generalize bIndexW (r.drop 4) [45,45] = j at c q1 q2 ⊢
    by_cases c0 : j < 0
    · rw [if_pos (decide_eq_true c0),if_pos (if_pos (.inl c0))]
    have e0 : (if j = -1 then 0 else ([45,45] : List Int).length) = 2 := if_neg (by omega)
    rw [e0] at q2
    have e1 : IntKind.i64.wrap (4 + j) = ((4 + j.toNat : Nat) : Int) := by rw [wrap_64]; unfold wrap64; omega
    have e2 : IntKind.i64.wrap (j + 7) = j + 7 := by rw [wrap_64]; unfold wrap64; omega
    rw [if_neg (by simpa using c0),e1,if_pos (by omega),if_pos (by omega),Int.toNat_natCast,beg_at (byteB_drop hr _) _ [45,45,62] 3 rfl rfl,Option.bind_some,e2]
    by_cases c1 : (r.drop (4 + j.toNat)).take 3 = [45,45,62]
    · rw [if_neg (by rw [false_or_b,Bool.not_eq_true',decide_eq_true (show (r.drop (4 + j.toNat)).take 3 = [45,45,62] from c1)]; decide)]
      have h3 : ¬ (j < 0 ∨ (r.drop (4 + j.toNat)).take 3 ≠ [45,45,62]) := by
       rintro (q | q)
       · exact c0 q
       · exact q c1
      rw [if_neg h3] at c
      rw [if_neg h3,if_neg (by omega)]
      exact next _ (by rw [wrap_64]; unfold wrap64; omega) (by omega) (by omega)
    · rw [if_pos (by rw [false_or_b,Bool.not_eq_true',decide_eq_false (show ¬ (r.drop (4 + j.toNat)).take 3 = [45,45,62] from c1)]),if_pos (if_pos (.inr c1))]
  · rw [if_neg (by rw [decide_eq_true_eq]; exact a1),beg_at hr _ [60,63] 2 rfl rfl,Option.bind_some,if_pos (decide_eq_true (show r.take 2 = _ from a2)),e,if_pos (by omega),show Int.toNat 2 = 2 from rfl,nameAt_lim (byteB_drop hr 2) (by rw [List.length_drop]; omega),Option.bind_some]
    unfold instW at i ⊢
    have hle := Xm.nameL_le (byteB_bytes (byteB_drop hr 2))
    rw [List.length_drop] at hle
    generalize Xm.nameL (r.drop 2) = t at hle i ⊢
    dsimp only at i ⊢
    by_cases t0 : t = 0
    · rw [if_pos (by rw [beq_iff_eq]; omega),if_pos (if_pos (.inl t0))]
    have e2 : IntKind.i64.wrap (2 + (t : Int)) = ((2 + t : Nat) : Int) := by rw [wrap_64]; unfold wrap64; omega
    have e4 : IntKind.i64.wrap ((t : Int) + 4) = (t : Int) + 4 := by rw [wrap_64]; unfold wrap64; omega
    have hb2' := byteB_drop hr (2 + t)
    have hd2 : (r.drop (2 + t)).length = r.length - (2 + t) := List.length_drop ..
    rw [if_neg (by rw [beq_iff_eq]; omega),e2,e4,if_pos (by omega),if_pos (by omega),Int.toNat_natCast,beg_at hb2' _ [63,62] 2 rfl rfl,Option.bind_some]
    obtain ⟨q1,q2⟩ := bIndex_lt (l := r.drop (2 + t)) (m := [63,62])
    rw [hd2] at q2
    have hz : (r.drop (2 + t)).take 2 = [63,62] ↔ bIndexW (r.drop (2 + t)) [63,62] = 0 := by
     cases hx : r.drop (2 + t) with
     | nil => rw [bIndex_nil (by decide)]; simp
     | cons x u =>
      rw [bIndex_cons,← hx,pre_bytes hb2' (by decide)]
      have hg := bIndex_ge u [63,62]
      by_cases q : (r.drop (2 + t)).take 2 = [63,62]
      · rw [if_pos (decide_eq_true (show (r.drop (2 + t)).take ([63,62] : List Int).length = [63,62] from q))]
        exact ⟨fun _ => rfl,fun _ => q⟩
      · rw [if_neg (by rw [decide_eq_true_eq]; exact q)]
        refine ⟨fun z => absurd z q,fun z => ?_⟩
        split at z <;> omega
    have hbl : blankN (r.drop (2 + t)) = 0 ↔ blankC ((r.drop (2 + t)).getD 0 0) = false := by
     cases r.drop (2 + t) with
     | nil => exact ⟨fun _ => rfl,fun _ => rfl⟩
     | cons x u =>
      rw [blankN]
      show _ ↔ blankC x = false
      cases blankC x <;> simp
    have fin : ∀ {A : Option (Rr U0)},(∀ j,j = bIndexW (r.drop (2 + t)) [63,62] → A = (if decide (j < (0 : Int)) = true then some (Res.ret (AVal.tup [AVal.int IntKind.i64 p,AVal.int IntKind.i64 (11 : Int)]),lcRet [] [] 0)
     else dossierref05_Skip.L0 n (k + d) b p0 b (IntKind.i64.wrap (p + IntKind.i64.wrap (j + ((t : Int) + 4)))))) → ((r.drop (2 + t)).take 2 = [63,62] ∨ blankC ((r.drop (2 + t)).getD 0 0) = true) →
     A = (some (.ret (.tup [.int .i64 (if (if t = 0 ∨ bIndexW (r.drop (2 + t)) [63,62] < 0 ∨ bIndexW (r.drop (2 + t)) [63,62] > 0 ∧ blankC ((r.drop (2 + t)).getD 0 0) = false then 0 else 2 + (t : Int) + bIndexW (r.drop (2 + t)) [63,62] + 2) = 0 then (p,11) else skipGo d b (p + (if t = 0 ∨ bIndexW (r.drop (2 + t)) [63,62] < 0 ∨ bIndexW (r.drop (2 + t)) [63,62] > 0 ∧ blankC ((r.drop (2 + t)).getD 0 0) = false then 0 else 2 + (t : Int) + bIndexW (r.drop (2 + t)) [63,62] + 2))).1,
      .int .i64 (if (if t = 0 ∨ bIndexW (r.drop (2 + t)) [63,62] < 0 ∨ bIndexW (r.drop (2 + t)) [63,62] > 0 ∧ blankC ((r.drop (2 + t)).getD 0 0) = false then 0 else 2 + (t : Int) + bIndexW (r.drop (2 + t)) [63,62] + 2) = 0 then (p,11) else skipGo d b (p + (if t = 0 ∨ bIndexW (r.drop (2 + t)) [63,62] < 0 ∨ bIndexW (r.drop (2 + t)) [63,62] > 0 ∧ blankC ((r.drop (2 + t)).getD 0 0) = false then 0 else 2 + (t : Int) + bIndexW (r.drop (2 + t)) [63,62] + 2))).2]),lcRet [] [] 0) : Option (Rr U0)) := by
     intro A hA hor
     rw [hA _ rfl]
     generalize bIndexW (r.drop (2 + t)) [63,62] = j at q1 q2 hz i ⊢
     by_cases j0 : j < 0
     · rw [if_pos (decide_eq_true j0),if_pos (if_pos (.inr (.inl j0)))]
     · have e0 : (if j = -1 then 0 else ([63,62] : List Int).length) = 2 := if_neg (by omega)
       rw [e0] at q2
       have h3 : ¬ (t = 0 ∨ j < 0 ∨ j > 0 ∧ blankC ((r.drop (2 + t)).getD 0 0) = false) := by
        rintro (q | q | ⟨q,q'⟩)
        · exact t0 q
        · exact j0 q
        · rcases hor with z | z
          · have := hz.1 z; omega
          · rw [q'] at z; cases z
       rw [if_neg h3] at i
       rw [if_neg (by simpa using j0),if_neg h3,if_neg (by omega),show IntKind.i64.wrap (j + ((t : Int) + 4)) = 2 + (t : Int) + j + 2 by rw [wrap_64]; unfold wrap64; omega]
       exact next _ (by rw [wrap_64]; unfold wrap64; omega) (by omega) (by omega)
    by_cases s0 : (r.drop (2 + t)).take 2 = [63,62]
    · rw [if_neg (by rw [decide_eq_true s0]; decide),if_pos (by omega),if_pos (by omega),find_to hb2' _ [63,62] rfl (by decide) (by omega),Option.bind_some]
      exact fin (fun j hj => by rw [hj]) (.inl s0)
    · rw [if_pos (by rw [decide_eq_false s0]; rfl),if_pos (by omega),if_pos (by omega),blanks_lim hb2' (by omega),Option.bind_some]
      by_cases s1 : blankC ((r.drop (2 + t)).getD 0 0) = true
      · have : blankN (r.drop (2 + t)) ≠ 0 := fun z => by rw [hbl] at z; rw [z] at s1; cases s1
        rw [if_neg (by rw [false_or_b,true_and_b,beq_iff_eq]; omega),if_pos (by omega),if_pos (by omega),find_to hb2' _ [63,62] rfl (by decide) (by omega),Option.bind_some]
        exact fin (fun j hj => by rw [hj]) (.inr s1)
      · have s2 : blankC ((r.drop (2 + t)).getD 0 0) = false := by simpa using s1
        have s3 := hbl.2 s2
        rw [if_pos (by rw [false_or_b,true_and_b,beq_iff_eq]; omega)]
        have h3 : t = 0 ∨ bIndexW (r.drop (2 + t)) [63,62] < 0 ∨ bIndexW (r.drop (2 + t)) [63,62] > 0 ∧ blankC ((r.drop (2 + t)).getD 0 0) = false := by
         rcases Int.lt_trichotomy (bIndexW (r.drop (2 + t)) [63,62]) 0 with z | z | z
         · exact .inr (.inl z)
         · exact absurd (hz.2 z) s0
         · exact .inr (.inr ⟨z,s2⟩)
        rw [if_pos (if_pos h3)]
  · rw [if_neg (by rw [decide_eq_true_eq]; exact a1),beg_at hr _ [60,63] 2 rfl rfl,Option.bind_some,if_neg (by rw [decide_eq_true_eq]; exact a2),e]
theorem dossierref05_Skip.ok : AllOk specs_dossierref05_Skip := okS (cx := cx_dossierref05_Skip) rfl xmllex_Skip.ok (by kernel_rfl) fun args cs n K r g => by
 unfold dossierref05_Skip.spec at g
 dsimp only [lcSt] at g
 split at g
 · rename_i b p
   obtain ⟨v,h,h2⟩ := bind2 g
   clear g
   refine okG h2 ?_
   clear h2
   refine ⟨0 + (b.length + 1),?_⟩
   rw [dossierref05_Skip.top]
   unfold skipX at h
   split at h
   · rename_i hs
     obtain rfl := Option.some.inj h
     unfold skipW
     by_cases c : p < 0 ∨ p > b.length
     · rw [if_pos (by rw [ite_or,decide_eq_true_eq,decide_eq_true_eq]; exact c),if_pos c]
     · rw [if_neg (by rw [ite_or,decide_eq_true_eq,decide_eq_true_eq]; exact c),if_neg c]
       exact rskip_L0 _ b p hs (b.length + 1) 0 p (by omega) (by omega) (by omega)
   · cases h
 · cases g
end Go.Proofs.YtccfmfifnbnlmaaGreatDoor.Ev
end
section
/- dossierref05.plain as a sealed word. -/
set_option linter.unusedVariables false
set_option linter.unusedSimpArgs false
namespace Go.Proofs.YtccfmfifnbnlmaaGreatDoor.Ev
open Go Go.RowKit Go.Proofs.YtccfmfifnbnlmaaGreatDoorW.PrintWords Go.Proofs.YtccfmfifnbnlmaaGreatDoor.Pl
theorem crlf_skip (t : List Int) : crlf (13 :: 10 :: t) = crlf (10 :: t) := by
 rw [crlf,if_pos ⟨rfl,rfl⟩]
 cases t with
 | nil => rfl
 | cons y t => rw [crlf,if_neg (fun q => absurd q.1 (by decide))]
theorem crlf_go {x : Int} {t : List Int} (h : ¬ (x = 13 ∧ t.getD 0 0 = 10)) : crlf (x :: t) = x :: crlf t := by
 cases t with
 | nil => rfl
 | cons y t => rw [crlf,if_neg (by simpa using h)]
def blankG (v : Bool) (x : Int) : Int := if v = true ∧ (x = 9 ∨ x = 10) then 32 else x
theorem plain_l1 (v : Bool) : ∀ (d i k : Nat) (l : List Int),i + d = l.length → l.length ≤ 8000000 → dossierref05_plain.l1 (k + d + 1) v l (l.length : Int) (i : Int) = some (l.take i ++ (l.drop i).map (blankG v)) := by
 intro d
 induction d with
 | zero =>
  intro i k l hi hl
  rw [show k + 0 + 1 = k + 1 from rfl,dossierref05_plain.l1,if_neg (by omega),List.drop_of_length_le (by omega),List.take_of_length_le (by omega),List.map_nil,List.append_nil]
 | succ d ih =>
  intro i k l hi hl
  have hlt : i < l.length := by omega
  have er : rd l (i : Int) = l[i]'hlt := by unfold rd; rw [Int.toNat_natCast,List.getD_eq_getElem?_getD,List.getElem?_eq_getElem hlt]; rfl
  have ew : wrap64 ((i : Int) + 1) = ((i + 1 : Nat) : Int) := by unfold wrap64; omega
  rw [show k + (d + 1) + 1 = (k + d + 1) + 1 from rfl,dossierref05_plain.l1,if_pos (by omega),if_pos (by omega),if_pos (by omega),er,ew,Int.toNat_natCast]
  have e1 : l.drop i = l[i]'hlt :: l.drop (i + 1) := List.drop_eq_getElem_cons hlt
  have e2 : l.take (i + 1) = l.take i ++ [l[i]'hlt] := (List.take_append_getElem hlt).symm
  have keep : blankG v (l[i]'hlt) = l[i]'hlt → dossierref05_plain.l1 (k + d + 1) v l (l.length : Int) ((i + 1 : Nat) : Int) = some (l.take i ++ (l.drop i).map (blankG v)) := by
   intro hg
   rw [ih (i + 1) k l (by omega) hl,e2,e1,List.map_cons,hg,List.append_assoc]; rfl
  have put : blankG v (l[i]'hlt) = 32 → dossierref05_plain.l1 (k + d + 1) v (l.set i 32) (l.length : Int) ((i + 1 : Nat) : Int) = some (l.take i ++ (l.drop i).map (blankG v)) := by
   intro hg
   have := ih (i + 1) k (l.set i 32) (by rw [List.length_set]; omega) (by rw [List.length_set]; omega)
   rw [List.length_set] at this
   rw [this,e1,List.map_cons,hg,List.drop_set_of_lt (by omega)]
   have e3 : (l.set i 32).take (i + 1) = l.take i ++ [32] := by
    have hlt2 : i < (l.set i 32).length := by rw [List.length_set]; exact hlt
    rw [← List.take_append_getElem hlt2,List.take_set_of_le (Nat.le_refl i),List.getElem_set_self]
   rw [e3,List.append_assoc]; rfl
  cases v with
  | false => rw [if_neg (by decide)]; exact keep (by unfold blankG; rw [if_neg (fun q => by cases q.1)])
  | true =>
   rw [if_pos rfl]
   by_cases c1 : l[i]'hlt = 9
   · rw [if_pos c1]; exact put (by unfold blankG; rw [if_pos ⟨rfl,.inl c1⟩])
   · rw [if_neg c1]
     by_cases c2 : l[i]'hlt = 10
     · rw [if_pos c2]; exact put (by unfold blankG; rw [if_pos ⟨rfl,.inr c2⟩])
     · rw [if_neg c2]; exact keep (by unfold blankG; rw [if_neg (fun q => q.2.elim c1 c2)])
theorem crlf_len : ∀ l : List Int,(crlf l).length ≤ l.length
 | [] => Nat.le_refl _
 | [x] => Nat.le_refl _
 | x :: y :: t => by
  rw [crlf]
  split
  · have := crlf_len t; simp only [List.length_cons]; omega
  · have := crlf_len (y :: t); simp only [List.length_cons] at this ⊢; omega
theorem plain_l0 (l : List Int) (v : Bool) (hl : l.length ≤ 8000000) : ∀ (d i k : Nat) (acc : List Int),i + d = l.length → acc.length ≤ i → dossierref05_plain.l0 (k + l.length + 2 * d + 2) l v acc l (l.length : Int) (i : Int) = some ((acc ++ (crlf (l.drop i)).map r2n).map (blankG v)) := by
 intro d
 induction d with
 | zero =>
  intro i k acc hi ha
  rw [show k + l.length + 2 * 0 + 2 = (k + (l.length - acc.length) + acc.length + 1) + 1 by omega,dossierref05_plain.l0,if_neg (by omega),List.drop_of_length_le (by omega)]
  have := plain_l1 v acc.length 0 (k + (l.length - acc.length)) acc (by omega) (by omega)
  refine this.trans ?_
  rw [show crlf [] = [] from rfl,List.map_nil,List.append_nil,List.take_zero,List.drop_zero,List.nil_append]
 | succ d ih =>
  intro i k acc hi ha
  have hlt : i < l.length := by omega
  have er : rd l (i : Int) = l[i]'hlt := by unfold rd; rw [Int.toNat_natCast,List.getD_eq_getElem?_getD,List.getElem?_eq_getElem hlt]; rfl
  have ew : wrap64 ((i : Int) + 1) = ((i + 1 : Nat) : Int) := by unfold wrap64; omega
  have e1 : l.drop i = l[i]'hlt :: l.drop (i + 1) := List.drop_eq_getElem_cons hlt
  have eh : (l.drop (i + 1)).getD 0 0 = l.getD (i + 1) 0 := by rw [List.getD_eq_getElem?_getD,List.getElem?_drop,List.getD_eq_getElem?_getD]
  have next : ∀ (acc' : List Int),acc'.length ≤ i + 1 → (acc' ++ (crlf (l.drop (i + 1))).map r2n) = (acc ++ (crlf (l.drop i)).map r2n) → dossierref05_plain.l0 (k + l.length + 2 * d + 2) l v acc' l (l.length : Int) ((i + 1 : Nat) : Int) = some ((acc ++ (crlf (l.drop i)).map r2n).map (blankG v)) := by
   intro acc' h1 h2
   rw [ih (i + 1) k acc' (by omega) h1,h2]
  rw [show k + l.length + 2 * (d + 1) + 2 = ((k + l.length + 2 * d + 2) + 1) + 1 by omega,dossierref05_plain.l0,if_pos (by omega),if_pos (by omega),if_pos (by omega),er,ew]
  by_cases c1 : l[i]'hlt = 13
  · rw [if_pos c1]
    have noskip : ¬ (l.drop (i + 1)).getD 0 0 = 10 → dossierref05_plain.j1 ((k + l.length + 2 * d + 2) + 1) l v acc (l[i]'hlt) l (l.length : Int) (i : Int) false = some ((acc ++ (crlf (l.drop i)).map r2n).map (blankG v)) := by
     intro hn
     rw [dossierref05_plain.j1,if_neg (by decide),if_pos c1,if_pos (by omega),ew]
     refine next _ (by rw [List.length_append]; simp; omega) ?_
     rw [e1,crlf_go (fun q => hn q.2),List.map_cons,c1,List.append_assoc]; rfl
    by_cases c2 : i + 1 < l.length
    · rw [if_pos (by omega),if_pos (by omega)]
      have er2 : rd l ((i + 1 : Nat) : Int) = l.getD (i + 1) 0 := rfl
      rw [er2]
      by_cases c3 : l.getD (i + 1) 0 = 10
      · rw [c3,dossierref05_plain.j1,if_pos (by decide),ew]
        refine next _ (by omega) ?_
        have hlt2 : i + 1 < l.length := c2
        have e4 : l.drop (i + 1) = 10 :: l.drop (i + 2) := by
         rw [List.drop_eq_getElem_cons hlt2]
         congr 1
         rw [List.getD_eq_getElem?_getD,List.getElem?_eq_getElem hlt2] at c3
         exact c3
        rw [e1,c1,e4,crlf_skip]
      · rw [beq_eq_false_iff_ne.2 c3]
        exact noskip (by rw [eh]; exact c3)
    · rw [if_neg (by omega)]
      exact noskip (by rw [List.drop_of_length_le (by omega)]; decide)
  · rw [if_neg c1,dossierref05_plain.j1,if_neg (by decide),if_neg c1,if_pos (by omega),ew]
    refine next _ (by rw [List.length_append]; simp; omega) ?_
    rw [e1,crlf_go (fun q => c1 q.1),List.map_cons,List.append_assoc]
    unfold r2n
    rw [if_neg c1]; rfl
theorem plain_spec {l : List Int} (v : Bool) (hl : l.length ≤ 8000000) : dossierref05_plain.f (0 + l.length + 2 * l.length + 2) l v = some (linesW l v) := by
 unfold dossierref05_plain.f
 have := plain_l0 l v hl l.length 0 0 [] (by omega) (by simp)
 refine this.trans ?_
 rw [List.drop_zero,List.nil_append]
 unfold linesW
 cases v with
 | false =>
  rw [if_neg (by decide),show blankG false = id from funext fun x => by unfold blankG; rw [if_neg (fun q => by cases q.1)]; rfl,List.map_id]
 | true =>
  rw [if_pos rfl,List.map_map (g := t2s)]
  congr 1
  refine List.map_congr_left fun x _ => ?_
  show blankG true x = t2s (n2s x)
  unfold blankG t2s n2s
  by_cases c1 : x = 10
  · simp [c1]
  · by_cases c2 : x = 9
    · simp [c2]
    · simp [c1,c2]
section
variable {U : Nat → Type} {C : Codec U}
theorem newOf_R {w w' : World} {e : Nat} {v : Value} {xs : List Int} (h : Kd.R (Kd.int .u8) e w' w.heap.size (fun _ => True) v xs) : NewOf w w' xs v := by
 have h0 := h
 obtain ⟨_,inner,ho,hr⟩ := h
 obtain ⟨h1,h2⟩ := ho
 rcases h2 with ⟨rfl,hn⟩ | ⟨g,cap,cur,rfl,hg,hh,hle,hmax,hcs,htake⟩
 · exact .inl ⟨rfl,List.eq_nil_of_length_eq_zero hn⟩
 · refine .inr ⟨g,cap,rfl,hg,hle,fun i hi => ?_⟩
   obtain ⟨ad,e1,e2⟩ := Kd.at_int (Kd.R_reads' h0).2.2 (i : Int) (by omega) (by omega)
   obtain rfl := Option.some.inj e1
   rw [Lib.addr_add,Int.toNat_natCast] at e2
   rw [e2]
   unfold rd
   rw [Int.toNat_natCast]
theorem C_bytes8 {w : World} {blk off : Nat} {l : List Int} (hl : l.length ≤ 9223372036854775807) (h : ∀ i,i < l.length → w.cell? ⟨blk,off + i,none⟩ = some (.int .u8 (l.getD i 0))) : Kd.C (Kd.int .u8) w (some ⟨blk,off,none⟩) l.length l := by
 refine ⟨rfl,hl,fun _ => ⟨_,rfl,fun j p hj => ⟨[.int .u8 p],rfl,?_,fun i u hu => ?_⟩⟩⟩
 · exact rfl
 · have hlt := (List.getElem?_eq_some_iff.1 hj).1
   have := h j hlt
   rw [List.getD_eq_getElem?_getD,hj] at this
   cases i with
   | zero =>
    obtain rfl : Value.int .u8 p = u := by simpa using hu
    rw [Lib.addr_add]
    show w.cell? ⟨blk,off + (j * 1 + 0),none⟩ = _
    rw [Nat.mul_one,Nat.add_zero]
    exact this
   | succ i => simp at hu
theorem C_none8 {w : World} (A : Option Addr) : Kd.C (Kd.int .u8) w A 0 [] := ⟨rfl,by omega,fun h => absurd h (Nat.lt_irrefl 0)⟩
def plainF : List (AVal U) → Option (AVal U)
 | [.sl (.int .u8) l _,.bool v] => if okB l then some (.sl (.int .u8) (linesW l v) .no) else none
 | _ => none
theorem plain_ok : CallOk (R := Rr U) Tryz.prog C 38 (asExt plainF) := by
 refine callOk_ext fun args v h g w cs ha hi hw => ?_
 unfold plainF at h
 split at h
 · rename_i l _ b
   split at h
   · rename_i hs
     obtain rfl := Option.some.inj h
     obtain ⟨hb,hl⟩ := hs
     obtain ⟨c,d,rfl,hc,hd⟩ := RelVs.two ha
     cases hd
     cases hc with
     | sl0 =>
      refine (dossierref05_plain.calls _ none 0 [] b _ w (C_none8 _) (Nat.le_refl _) (plain_spec b hl)).mono fun e w' ⟨v0,h1,h2,h3⟩ => ?_
      exact ⟨v0,h1,h3,newOf_rel (newOf_R h2)⟩
     | sle =>
      refine (dossierref05_plain.calls _ _ 0 [] b _ w (C_none8 _) (Nat.le_refl _) (plain_spec b hl)).mono fun e w' ⟨v0,h1,h2,h3⟩ => ?_
      exact ⟨v0,h1,h3,newOf_rel (newOf_R h2)⟩
     | sl hs1 hm1 hl1 hp1 =>
      rename_i blk off cap vs
      obtain rfl := RelVs.nums hs1
      have hx : ∀ i,i < l.length → w.cell? ⟨blk,off + i,none⟩ = some (.int .u8 (l.getD i 0)) := fun i hlt => by
       refine hi _ _ _ (hm1 i _ ?_)
       rw [List.getElem?_map,List.getElem?_eq_getElem hlt,List.getD_eq_getElem?_getD,List.getElem?_eq_getElem hlt]; rfl
      refine (dossierref05_plain.calls _ _ cap l b _ w (C_bytes8 (by omega) hx) hl1 (plain_spec b hl)).mono fun e w' ⟨v0,h1,h2,h3⟩ => ?_
      exact ⟨v0,h1,h3,newOf_rel (newOf_R h2)⟩
   · cases h
 · cases h
def plainS {R : Type} : List (AVal U) → St U → (Res U → St U → Option R) → Option R := fun args st K => match args with
 | [.sl (.int .u8) l _,.bool v] => (linesX l v).bind fun r => K (.ret (.sl (.int .u8) r .no)) st
 | _ => none
theorem plainS_ok : CallOkL (R := Rr U) Tryz.prog C 38 plainS := callOk_by plain_ok fun args st K r h => by
 unfold plainS at h
 unfold asExt plainF
 split at h
 · unfold linesX at h
   split at h
   · rename_i h1
     rw [if_pos h1]; exact h
   · cases h
 · cases h
end
noncomputable def specs_plainS : SpecL := (38,false,plainS) :: specs_dossierref05_Skip
theorem plainS.ok : AllOk specs_plainS := allOk_cons dossierref05_Skip.ok (fnOk_of (by kernel_rfl)) plainS_ok
end Go.Proofs.YtccfmfifnbnlmaaGreatDoor.Ev
end
section
/- xmllex.resolve, walked over a buffer of its own. -/
set_option linter.unusedVariables false
set_option linter.unusedSimpArgs false
namespace Go.Proofs
open Go.Shelf Go.RowKit
variable {P : Program} {ρ : Ren}
set_option maxHeartbeats 6400000 in
set_option maxRecDepth 100000 in
/-- (*bytes.Buffer).Write of no byte. -/
theorem YtccfmfifnbnlmaaGreatDoor.Ev.write_none (L : LaysM.n180 P ρ) (B b : Nat) (bs : List Value) (p : Option Addr) (c : Nat) (w : World) (h : Lib.IsBuffer (ρ.t 93) (ρ.t 5) B b bs w) (hBw : B ≤ w.heap.size) :
 Calls P (ρ.f 180) #[.pointer (some ⟨b,0,none⟩),.slice p 0 c] w fun e w' => e = .returned (.tuple #[.int .i64 0,.nilIface]) ∧ Lib.IsBuffer (ρ.t 93) (ρ.t 5) B b bs w' ∧ Below B w w' := by
 have mixed := L.mixed
 have t5 := L.t5; have a5 := L.a5; have z5 := L.z5; have v5 := L.v5
 have t130 := L.t130; have a130 := L.a130; have z130 := L.z130; have v130 := L.v130
 have t37 := L.t37; have a37 := L.a37; have z37 := L.z37; have v37 := L.v37
 have t3 := L.t3; have a3 := L.a3; have z3 := L.z3; have v3 := L.v3
 have t75 := L.t75; have a75 := L.a75; have z75 := L.z75; have v75 := L.v75
 have t0 := L.t0; have a0 := L.a0; have z0 := L.z0; have v0 := L.v0
 have t93 := L.t93; have u93 := run_underlying L.t93; have a93 := L.a93; have z93 := L.z93; have v93 := L.v93
 have t91 := L.t91; have a91 := L.a91; have z91 := L.z91; have v91 := L.v91
 have t131 := L.t131; have a131 := L.a131; have z131 := L.z131; have v131 := L.v131
 have t4 := L.t4; have a4 := L.a4; have z4 := L.z4; have v4 := L.v4
 have e251 : ∀ args w,(callFunc (ρ.f 251) args).run P w = .ok (.enter (ρ.f 251) args) w := enters_of L.f251 (by kernel_rfl) rfl
 have e252 : ∀ args w,(callFunc (ρ.f 252) args).run P w = .ok (.enter (ρ.f 252) args) w := enters_of L.f252 (by kernel_rfl) rfl
 obtain ⟨hB,v0,lr,hbk,-,-⟩ := id h
 have c2 : w.cell? ⟨b,2,none⟩ = some (.int .i8 lr) := by rw [Lib.cell_of_heap hbk]; rfl
 have f2 : w.frozen? ⟨b,2,none⟩ = false := Lib.frozen_of_heap hbk 2
 have h' := h.setLast 0
 have hbel0 : Below B w (w.setCell ⟨b,2,none⟩ (.int .i8 0)) := (Below.refl B w).setCell (p := ⟨b,2,none⟩) hB _
 have hBw' : B ≤ (w.setCell ⟨b,2,none⟩ (.int .i8 0)).heap.size := by simpa [World.setCell] using hBw
 clear hbk v0
 have hinfo : (P.info? (ρ.t 5)).map (·.size) = some 1 := by
  obtain ⟨i0,hi,-,hz1,-⟩ := info_parts L.i5
  rw [hi]; simp [hz1]
 have hce : ∀ d dLen dCap W,(Builtin.copy_ #[(ρ.t 37),(ρ.t 37)] (ρ.t 3) #[.slice d dLen dCap,.slice p 0 c]).run P W = .ok (goInt 0) W := fun d dLen dCap W => run_copy_none W (ρ.t 37) (ρ.t 37) (ρ.t 3) (ρ.t 5) d p dLen dCap 0 c L.t37 hinfo (by simp)
 have hT : ∀ W,Lib.IsBuffer (ρ.t 93) (ρ.t 5) B b bs W → Calls P (ρ.f 251) #[.pointer (some ⟨b,0,none⟩),.int .i64 0] W _ := fun W hW => Any.Buffer_tryGrow_own { L with } B b 0 bs W hW
 go_enter L.f180,Body.n180_ntmps ρ
 go_wp2_with (go_at_fn (ρ.f 251); refine (hT _ ?_).mono ?_)
 · exact h'
 rintro e W1 (⟨rfl,xs,hxl,hI,hbel,hk,hg⟩ | ⟨rfl,rfl,hnr⟩)
 · clear h' c2 f2 hT
   have hx0 : xs = [] := List.eq_nil_of_length_eq_zero hxl
   subst hx0
   rw [List.append_nil] at hI
   obtain ⟨-,lr2,hc⟩ := hI.cases
   rcases hc with ⟨hb0,hbk2⟩ | ⟨g,cap,cur,hbk2,-,-,hnc,hcm,-,-,-⟩
   · subst hb0
     have d0 : W1.cell? ⟨b,0,none⟩ = some (.slice none 0 0) := by rw [Lib.cell_of_heap hbk2]; rfl
     go_wp2
     all_goals (go_ret2; first | exact ⟨rfl,hI,hbel0.trans hbel⟩ | exact ⟨by simp,by simpa using hI,hbel0.trans hbel⟩)
   · have d0 : W1.cell? ⟨b,0,none⟩ = some (.slice (some ⟨g,0,none⟩) bs.length cap) := by rw [Lib.cell_of_heap hbk2]; rfl
     unfold maxLen at hcm
     go_wp2
     all_goals (go_ret2; first | exact ⟨rfl,hI,hbel0.trans hbel⟩ | exact ⟨by simp,by simpa using hI,hbel0.trans hbel⟩)
 · obtain ⟨_,_,_,_,hlt⟩ := hnr
   omega
end Go.Proofs
namespace Go.Proofs.YtccfmfifnbnlmaaGreatDoor.Ev
open Go Go.RowKit
/-- A buffer with these bytes. -/
abbrev IsB (B b : Nat) (acc : List Int) (w : World) : Prop := Lib.IsBuffer (Tryz.layBufWrite_ren.t 93) (Tryz.layBufWrite_ren.t 5) B b (acc.map (Value.int .u8)) w
theorem ones8 (l : List Int) : ∀ v ∈ l.map (Value.int .u8),v.oneCell' = true := fun v hv => by
 obtain ⟨x,_,rfl⟩ := List.mem_map.1 hv
 rfl
theorem write_rel {B b : Nat} {acc l : List Int} {g : Gh} {p : Perm} {v : Value} {w : World} (h : IsB B b acc w) (hB : B ≤ w.heap.size) (hv : RelV C0 g (.sl (.int .u8) l p) v) (hi : ∀ b o x,g.own b o = .imm x → w.cell? ⟨b,o,none⟩ = some x) (hl : acc.length + l.length ≤ 140737488355328) :
 Calls Tryz.prog 49 #[.pointer (some ⟨b,0,none⟩),v] w fun e w' => (∃ n : Nat,e = .returned (.tuple #[.int .i64 n,.nilIface])) ∧ IsB B b (acc ++ l) w' ∧ Below B w w' := by
 have none' : ∀ (q : Option Addr) (c : Nat),l = [] → Calls Tryz.prog 49 #[.pointer (some ⟨b,0,none⟩),.slice q 0 c] w fun e w' => (∃ n : Nat,e = .returned (.tuple #[.int .i64 n,.nilIface])) ∧ IsB B b (acc ++ l) w' ∧ Below B w w' := by
  intro q c e
  rw [e,List.append_nil]
  exact (write_none Tryz.layBufWrite B b _ q c w h hB).mono fun e w' ⟨h1,h2,h3⟩ => ⟨⟨0,h1⟩,h2,h3⟩
 cases hv with
 | sl0 => exact none' none 0 rfl
 | sle => exact none' _ 0 rfl
 | sl hs hm hle hp =>
  rename_i blk off cap vs
  obtain rfl := RelVs.nums hs
  cases l with
  | nil => exact none' _ cap rfl
  | cons x t =>
   have hc : ∀ j u,((x :: t).map (Value.int .u8))[j]? = some u → w.cell? ((⟨blk,off,none⟩ : Addr).add j) = some u := fun j u hj => by
    rw [Lib.addr_add]
    exact hi _ _ _ (hm j u hj)
   have hab : blk ≠ b := by
    intro e
    have h0 := hi _ _ _ (hm 0 (.int .u8 x) rfl)
    obtain ⟨_,v0,lr,hbk,_⟩ := h
    rw [e] at h0
    unfold World.cell? at h0
    rw [show (⟨b,off + 0,none⟩ : Addr).block = b from rfl,hbk] at h0
    dsimp only at h0
    have : off = 0 ∨ off = 1 ∨ off = 2 ∨ 3 ≤ off := by omega
    rcases this with rfl | rfl | rfl | h3
    · simp at h0
      rename_i hown
      subst h0
      rcases hown.1.2 with ⟨q,_⟩ | ⟨_,_,_,q,_⟩ <;> cases q
    · simp at h0
    · simp at h0
    · simp at h0
      have h9 := (List.getElem?_eq_some_iff.1 h0).1
      simp at h9
      omega
   have hlen : (x :: t).length = ((x :: t).map (Value.int .u8)).length := (List.length_map _).symm
   refine (Any.Buffer_Write_any Tryz.layBufWrite B b (acc.map (Value.int .u8)) ((x :: t).map (Value.int .u8)) ⟨blk,off,none⟩ (x :: t).length cap w h hB (ones8 _) hlen.symm hab hc (ones8 _) (by rw [List.length_map]; exact hl)).mono fun e w' ⟨h1,h2,h3,_⟩ => ?_
   rw [← List.map_append] at h2
   exact ⟨⟨_,h1⟩,h2,h3⟩
theorem bytes_cells {l : List Int} (h : byteB l = true) : l.map (Value.int .u8) = Lib.byteCells (Lib.bytesOf l) := by
 unfold Lib.byteCells Lib.bytesOf
 rw [List.map_map]
 refine List.map_congr_left fun x hx => ?_
 have := byteB_all h x hx
 show Value.int .u8 x = Value.int .u8 ((UInt8.ofNat x.toNat).toNat : Int)
 congr 1
 simp
 omega
theorem string_of {B b : Nat} {acc : List Int} {w : World} (h : IsB B b acc w) (hb : byteB acc = true) : Calls Tryz.prog 51 #[.pointer (some ⟨b,0,none⟩)] w fun e w' => e = .returned (.string (ofBytes acc)) ∧ Below w.heap.size w w' := by
 unfold IsB at h
 rw [bytes_cells hb] at h
 exact (Any.Buffer_String Tryz.layBufString B b (Lib.bytesOf acc) w h).mono fun e w' ⟨h1,n,h2⟩ => ⟨h1,by rw [h2]; exact below_drewW _ _⟩
theorem lines_at {B : Nat} {w : World} {l : List Int} {p : Option Addr} {c : Nat} (v : Bool) (h : Sb B w l p c) (hb : okB l) (hA : Assumed w) : Calls Tryz.prog 50 #[.slice p l.length c,.bool v] w fun e w' => ∃ u,e = .returned u ∧ Below w.heap.size w w' ∧ ∃ g' : Gh,(∀ b o x,g'.own b o = .imm x → w'.cell? ⟨b,o,none⟩ = some x) ∧ RelV C0 g' (.sl (.int .u8) (linesW l v) .no) u := by
 refine callWord (args := [.sl (.int .u8) l .no,.bool v]) (st' := lcRet [] [] 0) (xmllex_lines.ok _ (List.mem_cons_self ..)).2 ?_ hA [_,_] (.cons h.rel (.cons (.bool v) .nil))
 show Option.bind (linesX l v) _ = _
 unfold linesX
 rw [if_pos hb]
 rfl
theorem named_at {w : World} (s : ByteArray) (hs : s.size ≤ 8000000) (hA : Assumed w) : Calls Tryz.prog 52 #[.string s] w fun e w' => e = .returned (.tuple #[.int .i64 (Xm.namedW (toBytes s)).1,.bool (Xm.namedW (toBytes s)).2]) ∧ Below w.heap.size w w' := by
 have := callWord (args := [.str s]) (v := .tup [.int .i64 (Xm.namedW (toBytes s)).1,.bool (Xm.namedW (toBytes s)).2]) (st' := lcRet [] [] 0) (w := w) (xmllex_named.ok _ (List.mem_cons_self ..)).2 (by
  show Option.bind (namedX s) _ = _
  unfold namedX
  rw [if_pos hs]
  rfl) hA [_] (.cons (.str s) .nil)
 refine this.mono fun e w' ⟨c,h1,h2,g',_,h3⟩ => ?_
 cases h3 with
 | tup h4 =>
  cases h4 with
  | cons h5 h6 =>
   cases h6 with
   | cons h7 h8 =>
    cases h8; cases h5; cases h7
    exact ⟨h1,h2⟩
theorem enc_at {w : World} (z : Int) (hA : Assumed w) : Calls Tryz.prog 53 #[.int .i64 z] w fun e w' => ∃ u,e = .returned u ∧ Below w.heap.size w w' ∧ ∃ g' : Gh,(∀ b o x,g'.own b o = .imm x → w'.cell? ⟨b,o,none⟩ = some x) ∧ RelV C0 g' (.sl (.int .u8) (Chars.enc z) .em) u :=
 callWord (args := [.int .i64 z]) (st' := lcRet [] [] 0) encS_ok rfl hA [_] (.cons (.int _ z) .nil)
/-- A text with its references resolved; an error and its place (`n`: how many bytes there were at first). -/
def resGo (n : Nat) (v : Bool) : Nat → List Int → List Int → List Int × Int × Int
 | 0,_,acc => (acc,0,0)
 | d + 1,l,acc => if bIndexW l [38] < 0 then (acc ++ linesW l v,0,0) else
  let u := l.drop ((bIndexW l [38]).toNat + 1)
  let a : Int := (n : Int) - u.length - 1
  if bIndexW u [59] < 0 then ([],a,13) else
  let r := Xm.namedW (u.take (bIndexW u [59]).toNat)
  if r.2 = false then ([],a,13) else resGo n v d (u.drop ((bIndexW u [59]).toNat + 1)) (acc ++ linesW (l.take (bIndexW l [38]).toNat) v ++ Chars.enc r.1)
theorem lines_len (l : List Int) (v : Bool) : (linesW l v).length ≤ l.length := by
 have := crlf_len l
 unfold linesW
 split <;> simp only [List.length_map] <;> exact this
theorem lines_byte {l : List Int} (v : Bool) (h : byteB l = true) : byteB (linesW l v) = true := by
 obtain ⟨k1,_⟩ := byteB_crlf h
 have b1 : byteB ((crlf l).map r2n) = true := byteB_map (by decide) k1
 have b2 : byteB (((crlf l).map r2n).map n2s) = true := byteB_map (by decide) b1
 have b3 : byteB ((((crlf l).map r2n).map n2s).map t2s) = true := byteB_map (by decide) b2
 unfold linesW
 split
 · exact b3
 · exact b1
theorem byteB_app {l m : List Int} (h1 : byteB l = true) (h2 : byteB m = true) : byteB (l ++ m) = true := by
 unfold byteB at *
 rw [List.all_append,h1,h2]; rfl
theorem byteB_enc (r : Int) : byteB (Chars.enc r) = true := by
 unfold byteB
 rw [List.all_eq_true]
 intro x hx
 have := Chars.enc_bytes r x hx
 simp [this]
theorem enc_le (r : Int) : (Chars.enc r).length ≤ 4 := by
 rw [Chars.enc_len]
 repeat' split
 all_goals omega
theorem zero_buf : (Tryz.prog.info? 63).map (fun i => (i.zero,i.size)) = some (some (.agg #[.slice none 0 0,.int .i64 0,.int .i8 0]),3) := by kernel_rfl
theorem conv_at {w : World} {B : Nat} {l : List Int} {p : Option Addr} {c : Nat} (h : Sb B w l p c) (hA : Assumed w) : (Go.convert 22 9 (.slice p l.length c)).run Tryz.prog w = .ok (.string (ofBytes l)) w :=
 convert_bytes_str (C := C0) (st := lcSt [] 0) (S := fun _ _ => false) (w0 := w) (e := 5) Tryz.underlying22 Tryz.underlying9 Tryz.underlying5 (srel0 (U := U0) (C := C0) hA 0).h h.rel
theorem isB_below {B b : Nat} {acc : List Int} {w w' : World} (h : IsB B b acc w) (hb : Below w.heap.size w w') : IsB B b acc w' := by
 obtain ⟨hB,v,lr,hv,hrow,hne⟩ := h
 refine ⟨hB,v,lr,?_,Go.Proofs.YtccfmfifnbnlmaaGreatDoorW.PrintWords.own_move hrow (fun k hk => hb.block k (Go.Proofs.YtccfmfifnbnlmaaGreatDoorW.PrintWords.own_lt hrow k hk)),hne⟩
 rw [hb.block b ?_]
 · exact hv
 · rcases Nat.lt_or_ge b w.heap.size with h1 | h1
   · exact h1
   · rw [Array.getElem?_eq_none h1] at hv; cases hv
/-- Ahead of a call that cuts at a sign: the sign's row is new. -/
theorem cut_at (B : Nat) (l : List Int) (p : Option Addr) (n c : Nat) (x : Int) (w : World) (hn : n = l.length) (h : Sb B w l p c) (hB : B ≤ w.heap.size) (hb : byteB l = true) (hx : 0 ≤ x ∧ x < 256) (hl : l.length ≤ 8000000) (hA : Assumed w) :
 Calls Tryz.prog 48 #[.slice p n c,.slice (some ⟨w.heap.size,0,none⟩) 1 1] (w.alloc (.cells #[.int .u8 x] 5)) fun e w' => Below w.heap.size w w' ∧
  ((0 ≤ bIndexW l [x] ∧ e = .returned (.tuple #[.slice p (bIndexW l [x]).toNat c,.slice (fromP p c ((bIndexW l [x]).toNat + 1)) (n - ((bIndexW l [x]).toNat + 1)) (c - ((bIndexW l [x]).toNat + 1)),.bool true])) ∨
   (bIndexW l [x] < 0 ∧ e = .returned (.tuple #[.slice p n c,.slice none 0 0,.bool false]))) := by
 have hbl : Below w.heap.size w (w.alloc (.cells #[.int .u8 x] 5)) := (Below.refl _ _).alloc (Nat.le_refl _) _
 refine (cut_walk B l p n c x w.heap.size 0 1 _ hn.symm (h.below hB ⟨hbl.os,hbl.tape,hbl.output,hbl.size,fun k hk => hbl.block k (Nat.lt_of_lt_of_le hk hB)⟩) hb hx hl (Nat.le_refl 1) ?_ (assumed_below hA hbl)).mono fun e w' ⟨h1,h2⟩ => ⟨?_,h2⟩
 · rw [cell_alloc_new]; rfl
 · have hs : (w.alloc (.cells #[.int .u8 x] 5)).heap.size = w.heap.size + 1 := by simp
   exact ⟨h1.os.trans hbl.os,h1.tape.trans hbl.tape,h1.output.trans hbl.output,Nat.le_trans hbl.size h1.size,fun k hk => (h1.block k (by omega)).trans (hbl.block k hk)⟩
theorem low {B : Nat} {w w' : World} (hb : Below w.heap.size w w') (hB : B ≤ w.heap.size) : Below B w w' := ⟨hb.os,hb.tape,hb.output,hb.size,fun k hk => hb.block k (Nat.lt_of_lt_of_le hk hB)⟩
theorem ofBytes_size (l : List Int) : (ofBytes l).size = l.length := by
 show (l.map _).toArray.size = _
 rw [List.size_toArray,List.length_map]
theorem toBytes_of {l : List Int} (h : byteB l = true) : toBytes (ofBytes l) = l := by
 unfold toBytes ofBytes
 dsimp only
 rw [List.map_map]
 have h' := byteB_all h
 have : ∀ x ∈ l,((fun b : UInt8 => (b.toNat : Int)) ∘ fun n : Int => UInt8.ofNat n.toNat) x = x := fun x hx => by
  have := h' x hx
  simp
  omega
 rw [List.map_congr_left this,List.map_id']
theorem resGo_fuel (n : Nat) (v : Bool) : ∀ (d e : Nat) (l acc : List Int),l.length < d → l.length < e → resGo n v d l acc = resGo n v e l acc
 | 0,_,_,_,h,_ => absurd h (Nat.not_lt_zero _)
 | _,0,_,_,_,h => absurd h (Nat.not_lt_zero _)
 | d + 1,e + 1,l,acc,h1,h2 => by
  rw [resGo,resGo]
  by_cases c0 : bIndexW l [38] < 0
  · rw [if_pos c0,if_pos c0]
  rw [if_neg c0,if_neg c0]
  dsimp only
  by_cases c1 : bIndexW (l.drop ((bIndexW l [38]).toNat + 1)) [59] < 0
  · rw [if_pos c1,if_pos c1]
  rw [if_neg c1,if_neg c1]
  by_cases c2 : (Xm.namedW ((l.drop ((bIndexW l [38]).toNat + 1)).take (bIndexW (l.drop ((bIndexW l [38]).toNat + 1)) [59]).toNat)).2 = false
  · rw [if_pos c2,if_pos c2]
  rw [if_neg c2,if_neg c2]
  have hl : 0 < l.length := by
   cases l with
   | nil => rw [bIndex_nil (by decide)] at c0; exact absurd (by decide) c0
   | cons x t => simp
  have hlen : ((l.drop ((bIndexW l [38]).toNat + 1)).drop ((bIndexW (l.drop ((bIndexW l [38]).toNat + 1)) [59]).toNat + 1)).length < l.length := by
   rw [List.length_drop,List.length_drop]; omega
  exact resGo_fuel n v d e _ _ (by omega) (by omega)
/-- What holds at the head of the loop. -/
structure ResInv (w : World) (n : Nat) (v : Bool) (fin : List Int × Int × Int) (l : List Int) (p : Option Addr) (c : Nat) (acc : List Int) (wr : World) : Prop where
 sb : Sb w.heap.size wr l p c
 okb : byteB l = true
 len : l.length ≤ n
 size : acc.length + 4 * l.length ≤ 4 * n
 byt : byteB acc = true
 buf : IsB w.heap.size w.heap.size acc wr
 below : Below w.heap.size w wr
 go : resGo n v (l.length + 1) l acc = fin
set_option maxHeartbeats 400000 in
set_option maxRecDepth 100000 in
theorem res_walk (l : List Int) (v : Bool) (p : Option Addr) (n c : Nat) (w : World) (hn : l.length = n) (h : Sb w.heap.size w l p c) (hb : okB l) (hA : Assumed w) (r1 : List Int) (r2 r3 : Int) (hr : resGo n v (n + 1) l [] = (r1,r2,r3)) :
 Calls Tryz.prog 28 #[.slice p n c,.bool v] w fun e w' => e = .returned (.tuple #[.string (ofBytes r1),.int .i64 r2,.int .i64 r3]) ∧ Below w.heap.size w w' := by
 have hz := zero_of_info zero_buf
 have hn8 : n ≤ 8000000 := by rw [← hn]; exact hb.2
 have HI : Aside (ResInv w n v (r1,r2,r3) l p c [] (w.alloc (.cells #[.slice none 0 0,.int .i64 0,.int .i8 0] 63))) := by
  have hbl : Below w.heap.size w (w.alloc (.cells #[.slice none 0 0,.int .i64 0,.int .i8 0] 63)) := (Below.refl _ _).alloc (Nat.le_refl _) _
  exact ⟨h.below (Nat.le_refl _) hbl,hb.1,by omega,by simp; omega,rfl,Lib.fresh_isBuffer _ _ w,hbl,by rw [hn]; exact hr⟩
 have HA : Aside (Assumed w) := hA
 have HN : Aside (n = l.length) := hn.symm
 clear h hb hA hr hn
 go_enter Tryz.func28,Tryz.ntmps28
 go_wp2
 go_loopg [9] n (fun k s wr => ∃ (l' : List Int) (p' : Option Addr) (n' c' : Nat) (acc : List Int),Aside (n' = l'.length) ∧ n' ≤ k ∧ s = .slice p' n' c' ∧ Aside (ResInv w n v (r1,r2,r3) l' p' c' acc wr))
 case atStart => exact ⟨l,p,n,c,[],HN,Nat.le_refl _,rfl,HI⟩
 case round =>
  obtain ⟨l',p',n',c',acc,hl',hk,rfl,HJ⟩ := hrel
  have hA1 : Aside (Assumed wr) := assumed_below HA.out HJ.out.below
  have hl8 : Aside (l'.length ≤ 8000000) := by have := HJ.out.len; exact (by omega : l'.length ≤ 8000000)
  have hBr : Aside (w.heap.size ≤ wr.heap.size) := HJ.out.below.size
  have hcut := cut_at w.heap.size l' p' n' c' 38 wr hl'.out HJ.out.sb hBr.out HJ.out.okb (by decide) hl8.out hA1.out
  by_cases h0 : bIndexW l' [38] < 0
  · have hcut2 : Calls Tryz.prog 48 #[.slice p' n' c',.slice (some ⟨wr.heap.size,0,none⟩) 1 1] (wr.alloc (.cells #[.int .u8 38] 5)) fun e w' => e = .returned (.tuple #[.slice p' n' c',.slice none 0 0,.bool false]) ∧ Below wr.heap.size wr w' :=
     hcut.mono fun e w' ⟨h1,h2⟩ => ⟨(h2.resolve_left (fun q => by omega)).2,h1⟩
    have HF : Aside (resGo n v (l'.length + 1) l' acc = (acc ++ linesW l' v,0,0)) := by rw [resGo,if_pos h0]; exact rfl
    clear hcut h0
    go_wp2_with (go_at_call 48; refine hcut2.mono ?_; rintro e w1 ⟨rfl,hb1⟩)
    have B1 : Aside (Below w.heap.size w w1) := HJ.out.below.trans (low hb1 hBr.out)
    have S1 : Aside (w.heap.size ≤ w1.heap.size) := B1.out.size
    have A1 : Aside (Assumed w1) := assumed_below HA.out B1.out
    have I1 : Aside (IsB w.heap.size w.heap.size acc w1) := isB_below HJ.out.buf hb1
    have hlines : Calls Tryz.prog 50 #[.slice p' n' c',.bool v] w1 fun e w' => ∃ u,e = .returned u ∧ Below w1.heap.size w1 w' ∧ ∃ g' : Gh,(∀ b o x,g'.own b o = .imm x → w'.cell? ⟨b,o,none⟩ = some x) ∧ RelV C0 g' (.sl (.int .u8) (linesW l' v) .no) u := by
     have := lines_at v (HJ.out.sb.below hBr.out (low hb1 hBr.out)) ⟨HJ.out.okb,hl8.out⟩ A1.out
     rwa [← hl'.out] at this
    clear hb1 hcut2
    go_wp2_with (go_at_call 50; refine hlines.mono ?_; rintro e w2 ⟨u,rfl,hb2,g2,hi2,hr2⟩)
    have B2 : Aside (Below w.heap.size w w2) := B1.out.trans (low hb2 S1.out)
    have A2 : Aside (Assumed w2) := assumed_below HA.out B2.out
    have hwr : Calls Tryz.prog 49 #[.pointer (some ⟨w.heap.size,0,none⟩),u] w2 fun e w' => (∃ n : Nat,e = .returned (.tuple #[.int .i64 n,.nilIface])) ∧ IsB w.heap.size w.heap.size (acc ++ linesW l' v) w' ∧ Below w.heap.size w2 w' :=
     write_rel (isB_below I1.out hb2) B2.out.size hr2 hi2 (by have h1 := HJ.out.size; have h2 := lines_len l' v; have h3 := hl8.out; omega)
    clear hb2 hi2 hr2 hlines
    go_wp2_with (go_at_call 49; refine hwr.mono ?_; rintro e w3 ⟨⟨m,rfl⟩,hI3,hb3⟩)
    have B3 : Aside (Below w.heap.size w w3) := B2.out.trans hb3
    have hstr := string_of hI3 (byteB_app HJ.out.byt (lines_byte v HJ.out.okb))
    clear hI3 hb3 hwr
    go_wp2_with (go_at_call 51; refine hstr.mono ?_; rintro e w4 ⟨rfl,hb4⟩)
    have B4 : Aside (Below w.heap.size w w4) := B3.out.trans (low hb4 B3.out.size)
    clear hb4 hstr
    go_ret3
    have hfin := HF.out.symm.trans HJ.out.go
    obtain ⟨rfl,e2⟩ := Prod.mk.inj hfin
    obtain ⟨rfl,rfl⟩ := Prod.mk.inj e2
    exact ⟨rfl,B4.out⟩
  · obtain ⟨i,hi⟩ : ∃ i : Nat,bIndexW l' [38] = i := ⟨(bIndexW l' [38]).toNat,by omega⟩
    have hil : i + 1 ≤ l'.length := by
     have := (bIndex_lt (l := l') (m := [38])).2
     rw [hi,if_neg (by omega)] at this
     simp only [List.length_cons,List.length_nil] at this
     omega
    have hcut2 : Calls Tryz.prog 48 #[.slice p' n' c',.slice (some ⟨wr.heap.size,0,none⟩) 1 1] (wr.alloc (.cells #[.int .u8 38] 5)) fun e w' => e = .returned (.tuple #[.slice p' i c',.slice (fromP p' c' (i + 1)) (n' - (i + 1)) (c' - (i + 1)),.bool true]) ∧ Below wr.heap.size wr w' :=
     hcut.mono fun e w' ⟨h1,h2⟩ => ⟨by have := (h2.resolve_right (fun q => by omega)).2; rw [hi,Int.toNat_natCast] at this; exact this,h1⟩
    have HI0 : Aside (bIndexW l' [38] = i) := hi
    have HIL : Aside (i + 1 ≤ l'.length) := hil
    clear hcut h0 hi hil
    go_wp2_with (go_at_call 48; refine hcut2.mono ?_; rintro e w1 ⟨rfl,hb1⟩)
    have B1 : Aside (Below w.heap.size w w1) := HJ.out.below.trans (low hb1 hBr.out)
    have S1 : Aside (w.heap.size ≤ w1.heap.size) := B1.out.size
    have A1 : Aside (Assumed w1) := assumed_below HA.out B1.out
    have I1 : Aside (IsB w.heap.size w.heap.size acc w1) := isB_below HJ.out.buf hb1
    have sb1 : Aside (Sb w.heap.size w1 l' p' c') := HJ.out.sb.below hBr.out (low hb1 hBr.out)
    have hti : Aside ((l'.take i).length = i) := by rw [List.length_take]; have := HIL.out; exact (by omega : min i l'.length = i)
    have hlines : Calls Tryz.prog 50 #[.slice p' i c',.bool v] w1 fun e w' => ∃ u,e = .returned u ∧ Below w1.heap.size w1 w' ∧ ∃ g' : Gh,(∀ b o x,g'.own b o = .imm x → w'.cell? ⟨b,o,none⟩ = some x) ∧ RelV C0 g' (.sl (.int .u8) (linesW (l'.take i) v) .no) u := by
     have := lines_at v (sb1.out.take (i := i) (by have := HIL.out; omega)) ⟨byteB_take HJ.out.okb _,by have := hl8.out; have := HIL.out; rw [hti.out]; omega⟩ A1.out
     rwa [hti.out] at this
    clear hb1 hcut2
    go_wp2_with (go_at_call 50; refine hlines.mono ?_; rintro e w2 ⟨u,rfl,hb2,g2,hi2,hr2⟩)
    have B2 : Aside (Below w.heap.size w w2) := B1.out.trans (low hb2 S1.out)
    have hwr : Calls Tryz.prog 49 #[.pointer (some ⟨w.heap.size,0,none⟩),u] w2 fun e w' => (∃ n : Nat,e = .returned (.tuple #[.int .i64 n,.nilIface])) ∧ IsB w.heap.size w.heap.size (acc ++ linesW (l'.take i) v) w' ∧ Below w.heap.size w2 w' :=
     write_rel (isB_below I1.out hb2) B2.out.size hr2 hi2 (by have h1 := HJ.out.size; have h2 := lines_len (l'.take i) v; have h3 := hl8.out; have h4 := HIL.out; rw [hti.out] at h2; omega)
    have sb2 : Aside (Sb w.heap.size w2 l' p' c') := sb1.out.below S1.out (low hb2 S1.out)
    clear hb2 hi2 hr2 hlines
    go_wp2_with (go_at_call 49; refine hwr.mono ?_; rintro e w3 ⟨⟨m,rfl⟩,hI3,hb3⟩)
    have B3 : Aside (Below w.heap.size w w3) := B2.out.trans hb3
    have S3 : Aside (w.heap.size ≤ w3.heap.size) := B3.out.size
    have I3 : Aside (IsB w.heap.size w.heap.size (acc ++ linesW (l'.take i) v) w3) := hI3
    have sbu : Aside (Sb w.heap.size w3 (l'.drop (i + 1)) (fromP p' c' (i + 1)) (c' - (i + 1))) := (sb2.out.below B2.out.size hb3).drop HIL.out
    clear hI3 hb3 hwr
    obtain ⟨nu,hnu⟩ : ∃ nu,nu = n' - (i + 1) := ⟨_,rfl⟩
    obtain ⟨cu,hcu⟩ : ∃ cu,cu = c' - (i + 1) := ⟨_,rfl⟩
    obtain ⟨pu,hpu⟩ : ∃ pu,pu = fromP p' c' (i + 1) := ⟨_,rfl⟩
    obtain ⟨lu,hlu⟩ : ∃ lu,lu = l'.drop (i + 1) := ⟨_,rfl⟩
    rw [← hnu,← hcu,← hpu]
    rw [← hcu,← hpu,← hlu] at sbu
    have hnl : Aside (nu = lu.length) := by rw [hnu,hlu,List.length_drop,← hl'.out]; exact rfl
    have hui : Aside (nu + (i + 1) = n' ∧ n' ≤ n) := by have h1 := HIL.out; have h2 := HJ.out.len; rw [← hl'.out] at h1 h2; exact ⟨by omega,h2⟩
    have hub : Aside (byteB lu = true) := by rw [hlu]; exact byteB_drop HJ.out.okb _
    have hat : wrap64 (wrap64 ((n : Int) - nu) - 1) = (n : Int) - nu - 1 := by have h1 := hui.out; have h2 := hn8; unfold wrap64; omega
    have hga : Aside (resGo n v (l'.length + 1) l' acc = (if bIndexW lu [59] < 0 then ([],(n : Int) - nu - 1,13) else if (Xm.namedW (lu.take (bIndexW lu [59]).toNat)).2 = false then ([],(n : Int) - nu - 1,13) else resGo n v l'.length (lu.drop ((bIndexW lu [59]).toNat + 1)) (acc ++ linesW (l'.take i) v ++ Chars.enc (Xm.namedW (lu.take (bIndexW lu [59]).toNat)).1))) := by
     rw [resGo,if_neg (by have := HI0.out; omega),HI0.out,Int.toNat_natCast,← hlu]
     dsimp only
     rw [← hnl.out]
     exact rfl
    have hnk : nu + 1 ≤ gk := by have h1 := hui.out; omega
    have A3 : Aside (Assumed w3) := assumed_below HA.out B3.out
    have hl8u : Aside (lu.length ≤ 8000000) := by have h1 := hui.out; have h2 := hnl.out; exact (by omega : lu.length ≤ 8000000)
    have hcut := cut_at w.heap.size lu pu nu cu 59 w3 hnl.out sbu.out S3.out hub.out (by decide) hl8u.out A3.out
    clear hnu hcu hpu hlu hk
    by_cases h1 : bIndexW lu [59] < 0
    · have hcut2 : Calls Tryz.prog 48 #[.slice pu nu cu,.slice (some ⟨w3.heap.size,0,none⟩) 1 1] (w3.alloc (.cells #[.int .u8 59] 5)) fun e w' => e = .returned (.tuple #[.slice pu nu cu,.slice none 0 0,.bool false]) ∧ Below w3.heap.size w3 w' :=
       hcut.mono fun e w' ⟨h3,h2⟩ => ⟨(h2.resolve_left (fun q => by omega)).2,h3⟩
      have HF : Aside (resGo n v (l'.length + 1) l' acc = ([],(n : Int) - nu - 1,13)) := by rw [hga.out,if_pos h1]; exact rfl
      clear hcut h1 hga
      go_wp2_with (go_at_call 48; refine hcut2.mono ?_; rintro e w4 ⟨rfl,hb4⟩)
      have B4 : Aside (Below w.heap.size w w4) := B3.out.trans (low hb4 S3.out)
      have A4 : Aside (Assumed w4) := assumed_below HA.out B4.out
      have hconv : (Go.convert 22 9 (.slice pu nu cu)).run Tryz.prog w4 = .ok (.string (ofBytes lu)) w4 := by
       have := conv_at (sbu.out.below S3.out (low hb4 S3.out)) A4.out
       rwa [← hnl.out] at this
      have hnm := named_at (w := w4) (ofBytes lu) (by rw [ofBytes_size]; exact hl8u.out) A4.out
      obtain ⟨z,hz1⟩ : ∃ z,z = Xm.namedW (toBytes (ofBytes lu)) := ⟨_,rfl⟩
      rw [← hz1] at hnm
      clear hz1 hb4 hcut2
      obtain ⟨z1,z2⟩ := z
      go_wp2_with (go_at_call 52; refine hnm.mono ?_; rintro e w5 ⟨rfl,hb5⟩)
      go_ret3
      have hfin := HF.out.symm.trans HJ.out.go
      obtain ⟨rfl,e2⟩ := Prod.mk.inj hfin
      obtain ⟨rfl,rfl⟩ := Prod.mk.inj e2
      exact ⟨by first | rfl | (rw [hat]; rfl),B4.out.trans (low hb5 B4.out.size)⟩
    · obtain ⟨j,hj⟩ : ∃ j : Nat,bIndexW lu [59] = j := ⟨(bIndexW lu [59]).toNat,by omega⟩
      have hjl : Aside (j + 1 ≤ lu.length) := by
       have := (bIndex_lt (l := lu) (m := [59])).2
       rw [hj,if_neg (by omega)] at this
       simp only [List.length_cons,List.length_nil] at this
       exact (by omega : j + 1 ≤ lu.length)
      have hcut2 : Calls Tryz.prog 48 #[.slice pu nu cu,.slice (some ⟨w3.heap.size,0,none⟩) 1 1] (w3.alloc (.cells #[.int .u8 59] 5)) fun e w' => e = .returned (.tuple #[.slice pu j cu,.slice (fromP pu cu (j + 1)) (nu - (j + 1)) (cu - (j + 1)),.bool true]) ∧ Below w3.heap.size w3 w' :=
       hcut.mono fun e w' ⟨h3,h2⟩ => ⟨by have := (h2.resolve_right (fun q => by omega)).2; rw [hj,Int.toNat_natCast] at this; exact this,h3⟩
      have hgb : Aside (resGo n v (l'.length + 1) l' acc = (if (Xm.namedW (lu.take j)).2 = false then ([],(n : Int) - nu - 1,13) else resGo n v l'.length (lu.drop (j + 1)) (acc ++ linesW (l'.take i) v ++ Chars.enc (Xm.namedW (lu.take j)).1))) := by
       rw [hga.out,if_neg h1,hj,Int.toNat_natCast]
       exact rfl
      clear hcut h1 hga hj
      go_wp2_with (go_at_call 48; refine hcut2.mono ?_; rintro e w4 ⟨rfl,hb4⟩)
      have B4 : Aside (Below w.heap.size w w4) := B3.out.trans (low hb4 S3.out)
      have A4 : Aside (Assumed w4) := assumed_below HA.out B4.out
      have htj : Aside ((lu.take j).length = j) := by rw [List.length_take]; have := hjl.out; exact (by omega : min j lu.length = j)
      have sb4 : Aside (Sb w.heap.size w4 lu pu cu) := sbu.out.below S3.out (low hb4 S3.out)
      have I4 : Aside (IsB w.heap.size w.heap.size (acc ++ linesW (l'.take i) v) w4) := isB_below I3.out hb4
      have hconv : (Go.convert 22 9 (.slice pu j cu)).run Tryz.prog w4 = .ok (.string (ofBytes (lu.take j))) w4 := by
       have := conv_at (sb4.out.take (i := j) (by have := hjl.out; omega)) A4.out
       rwa [htj.out] at this
      have hnm := named_at (w := w4) (ofBytes (lu.take j)) (by rw [ofBytes_size,htj.out]; have h1 := hjl.out; have h2 := hl8u.out; omega) A4.out
      rw [toBytes_of (byteB_take hub.out j)] at hnm
      obtain ⟨s,hs⟩ : ∃ s,s = ofBytes (lu.take j) := ⟨_,rfl⟩
      rw [← hs] at hconv hnm
      obtain ⟨z,hz1⟩ : ∃ z,z = Xm.namedW (lu.take j) := ⟨_,rfl⟩
      rw [← hz1] at hnm hgb
      clear hz1 hb4 hcut2 hs
      obtain ⟨z1,z2⟩ := z
      cases z2 with
      | false =>
       have HF : Aside (resGo n v (l'.length + 1) l' acc = ([],(n : Int) - nu - 1,13)) := by rw [hgb.out,if_pos rfl]; exact rfl
       clear hgb
       go_wp2_with (go_at_call 52; refine hnm.mono ?_; rintro e w5 ⟨rfl,hb5⟩)
       go_ret3
       have hfin := HF.out.symm.trans HJ.out.go
       obtain ⟨rfl,e2⟩ := Prod.mk.inj hfin
       obtain ⟨rfl,rfl⟩ := Prod.mk.inj e2
       exact ⟨by first | rfl | (rw [hat]; rfl),B4.out.trans (low hb5 B4.out.size)⟩
      | true =>
       have HF : Aside (resGo n v (l'.length + 1) l' acc = resGo n v l'.length (lu.drop (j + 1)) (acc ++ linesW (l'.take i) v ++ Chars.enc z1)) := by rw [hgb.out,if_neg (fun q => by cases q)]; exact rfl
       clear hgb
       go_wp2_with (go_at_call 52; refine hnm.mono ?_; rintro e w5 ⟨rfl,hb5⟩)
       have B5 : Aside (Below w.heap.size w w5) := B4.out.trans (low hb5 B4.out.size)
       have A5 : Aside (Assumed w5) := assumed_below HA.out B5.out
       have sb5 : Aside (Sb w.heap.size w5 lu pu cu) := sb4.out.below B4.out.size (low hb5 B4.out.size)
       have I5 : Aside (IsB w.heap.size w.heap.size (acc ++ linesW (l'.take i) v) w5) := isB_below I4.out hb5
       have henc := enc_at (w := w5) z1 A5.out
       clear hb5 hnm hconv
       go_wp2_with (go_at_call 53; refine henc.mono ?_; rintro e w6 ⟨u6,rfl,hb6,g6,hi6,hr6⟩)
       have B6 : Aside (Below w.heap.size w w6) := B5.out.trans (low hb6 B5.out.size)
       have hsz : Aside ((acc ++ linesW (l'.take i) v ++ Chars.enc z1).length + 4 * (nu - (j + 1)) ≤ 4 * n) := by
        have h1 := HJ.out.size; have h2 := lines_len (l'.take i) v; have h3 := hui.out; have h4 := enc_le z1; have h5 := hl'.out; have h6 := hjl.out; have h7 := hnl.out
        rw [hti.out] at h2
        rw [List.length_append,List.length_append]
        exact (by omega : acc.length + (linesW (l'.take i) v).length + (Chars.enc z1).length + 4 * (nu - (j + 1)) ≤ 4 * n)
       have hwr : Calls Tryz.prog 49 #[.pointer (some ⟨w.heap.size,0,none⟩),u6] w6 fun e w' => (∃ n : Nat,e = .returned (.tuple #[.int .i64 n,.nilIface])) ∧ IsB w.heap.size w.heap.size (acc ++ linesW (l'.take i) v ++ Chars.enc z1) w' ∧ Below w.heap.size w6 w' :=
        write_rel (isB_below I5.out hb6) B6.out.size hr6 hi6 (by have h1 := hsz.out; rw [List.length_append] at h1; omega)
       have sb6 : Aside (Sb w.heap.size w6 lu pu cu) := sb5.out.below B5.out.size (low hb6 B5.out.size)
       clear hb6 hi6 hr6 henc
       go_wp2_with (go_at_call 49; refine hwr.mono ?_; rintro e w7 ⟨⟨m7,rfl⟩,hI7,hb7⟩)
       go_roundg (nu - (j + 1))
       case measure => omega
       case rel =>
        have hfin : resGo n v ((lu.drop (j + 1)).length + 1) (lu.drop (j + 1)) (acc ++ linesW (l'.take i) v ++ Chars.enc z1) = (r1,r2,r3) := by
         rw [← HJ.out.go,HF.out]
         refine resGo_fuel n v _ _ _ _ (Nat.lt_succ_self _) ?_
         rw [List.length_drop]
         have h3 := hui.out; have h5 := hl'.out; have h7 := hnl.out; have h8 := hjl.out
         omega
        refine ⟨lu.drop (j + 1),fromP pu cu (j + 1),nu - (j + 1),cu - (j + 1),acc ++ linesW (l'.take i) v ++ Chars.enc z1,(by rw [List.length_drop,← hnl.out]; exact rfl),Nat.le_refl _,rfl,⟨(sb6.out.below B6.out.size hb7).drop hjl.out,byteB_drop hub.out _,?_,?_,byteB_app (byteB_app HJ.out.byt (lines_byte v (byteB_take HJ.out.okb _))) (byteB_enc z1),hI7,B6.out.trans hb7,hfin⟩⟩
        · rw [List.length_drop,← hnl.out]; have h3 := hui.out; omega
        · rw [List.length_drop,← hnl.out]; exact hsz.out
theorem Sb.of {C : Codec U0} {g : Gh} {w : World} {l : List Int} {q : Perm} {v : Value} (hv : RelV C g (.sl (.int .u8) l q) v) (hi : ∀ b o x,g.own b o = .imm x → w.cell? ⟨b,o,Option.none⟩ = some x) : ∃ p c,v = .slice p l.length c ∧ Sb w.heap.size w l p c := by
 cases hv with
 | sl0 => exact ⟨Option.none,0,rfl,Sb.nil _ _⟩
 | sle =>
  rename_i a hz
  exact ⟨some a,0,rfl,Nat.le_refl _,fun _ => rfl,fun h => absurd rfl h,fun h => absurd h (Nat.lt_irrefl 0)⟩
 | sl hs hm hle hp =>
  rename_i blk off cap vs
  obtain rfl := RelVs.nums hs
  refine ⟨_,cap,rfl,hle,fun h => (by cases h),fun _ a h => (by obtain rfl := Option.some.inj h; rfl),fun h0 => ⟨blk,off,rfl,?_,fun i hlt => ?_⟩⟩
  · have := hi _ _ _ (hm 0 _ (by rw [List.getElem?_map,List.getElem?_eq_getElem h0]; rfl))
    exact lt_of_cell (a := ⟨blk,off + 0,Option.none⟩) (by rw [this]; rfl)
  · refine hi _ _ _ (hm i _ ?_)
    rw [List.getElem?_map,List.getElem?_eq_getElem hlt,List.getD_eq_getElem?_getD,List.getElem?_eq_getElem hlt]; rfl
def resW (l : List Int) (v : Bool) : List Int × Int × Int := resGo l.length v (l.length + 1) l []
def resX (l : List Int) (v : Bool) : Option (ByteArray × Int × Int) := if okB l then some (ofBytes (resW l v).1,(resW l v).2.1,(resW l v).2.2) else none
def resF : List (AVal U0) → Option (AVal U0)
 | [.sl (.int .u8) l _,.bool v] => if okB l then some (.tup [.str (ofBytes (resW l v).1),.int .i64 (resW l v).2.1,.int .i64 (resW l v).2.2]) else none
 | _ => none
theorem res_ok : CallOk (R := Rr U0) Tryz.prog C0 28 (asExt resF) := by
 refine callOk_ext fun args u h g w cs ha hi hw => ?_
 unfold resF at h
 split at h
 · rename_i l _ b
   split at h
   · rename_i hs
     obtain rfl := Option.some.inj h
     obtain ⟨c,d,rfl,hc,hd⟩ := RelVs.two ha
     cases hd
     obtain ⟨p,c,rfl,hsb⟩ := Sb.of hc hi
     obtain ⟨w0,h0,h1⟩ := hw
     refine (res_walk l b p l.length c w rfl hsb hs (assumed_below h1 h0) _ _ _ rfl).mono fun e w' ⟨h2,h3⟩ => ?_
     exact ⟨_,h2,h3,.tup (.cons (.str _) (.cons (.int _ _) (.cons (.int _ _) .nil)))⟩
   · cases h
 · cases h
def resS : List (AVal U0) → St U0 → (Res U0 → St U0 → Option (Rr U0)) → Option (Rr U0) := fun args st K => match args with
 | [.sl (.int .u8) l _,.bool v] => (resX l v).bind fun r => K (.ret (.tup [.str r.1,.int .i64 r.2.1,.int .i64 r.2.2])) st
 | _ => none
theorem resS_ok : CallOkL Tryz.prog C0 28 resS := callOk_by res_ok fun args st K r h => by
 unfold resS at h
 unfold asExt resF
 split at h
 · unfold resX at h
   split at h
   · rename_i h1
     rw [if_pos h1]; exact h
   · cases h
 · cases h
noncomputable def specs_resS : SpecL := (28,false,resS) :: specs_plainS
theorem resS.ok : AllOk specs_resS := allOk_cons plainS.ok (fnOk_of (by kernel_rfl)) resS_ok
end Go.Proofs.YtccfmfifnbnlmaaGreatDoor.Ev
end
section
/- What is known of each function: its word; and the contexts in which it is reckoned. -/
-- prev resS
-- irreducible fullX trimX linesX numX namedX commX instX cutX containsX replX Chars.enc skipX resX rattrX ropenX rtokX rnextX takeX blanksX nameX valueX attrX openX closeX litX textX tokX nextX isX
set_option linter.unusedVariables false
namespace Go.Proofs.YtccfmfifnbnlmaaGreatDoor.Ev
open Go
abbrev TokT := Int × ByteArray × List (ByteArray × ByteArray) × Bool × ByteArray
def noTok : TokT := (0,⟨#[]⟩,[],false,⟨#[]⟩)
def off (l : List Int) : List Int := l.drop (blankN l)
def valQ (s : Int) (l : List Int) : List Int × Bool × List Int := if 0 ≤ bIndexW l [s] then (l.take (bIndexW l [s]).toNat,decide (bIndexW (l.take (bIndexW l [s]).toNat) [60] < 0),l.drop ((bIndexW l [s]).toNat + 1)) else (l,false,[])
/-- A value in signs: its text, whether it is one, what is left. -/
def valW (l : List Int) : List Int × Bool × List Int := if l.take 1 = [39] then valQ 39 (l.drop 1) else if l.take 1 = [34] then valQ 34 (l.drop 1) else ([],false,l)
def eqW (l : List Int) : Bool × List Int := if l.take 1 = [61] then (true,l.drop 1) else (false,l)
/-- An attribute: name, value, what is left, the error. -/
def attrW (l : List Int) : List Int × List Int × List Int × Int :=
 let e := eqW (off (l.drop (Xm.fullL l)))
 let t := valW (off e.2)
 if Xm.fullL l = 0 ∨ e.1 = false ∨ t.2.1 = false then (l.take (Xm.fullL l),[],t.2.2,11)
 else (l.take (Xm.fullL l),(resW t.1 true).1,t.2.2,(resW t.1 true).2.2)
/-- What is in an opening tag behind its name. -/
def openGo : Nat → List Int → List (ByteArray × ByteArray) → List (ByteArray × ByteArray) × Bool × List Int × Int
 | 0,l,xs => (xs,false,l,0)
 | d + 1,l,xs =>
  if (off l).take 1 = [62] then (xs,false,(off l).drop 1,0)
  else if (off l).take 2 = [47,62] then (xs,true,(off l).drop 2,0)
  else if blankN l = 0 then (xs,false,off l,11)
  else let a := attrW (off l)
   if a.2.2.2 = 0 then openGo d a.2.2.1 (xs ++ [(ofBytes a.1,ofBytes a.2.1)]) else (xs ++ [(ofBytes a.1,ofBytes a.2.1)],false,a.2.2.1,a.2.2.2)
def openW (l : List Int) : TokT × List Int × Int :=
 let u := if l.take 1 = [60] then l.drop 1 else l
 if Xm.fullL u = 0 then ((1,ofBytes (u.take 0),[],false,⟨#[]⟩),u,11)
 else let o := openGo (l.length + 1) (u.drop (Xm.fullL u)) []
  ((1,ofBytes (u.take (Xm.fullL u)),o.1,o.2.1,⟨#[]⟩),o.2.2.1,o.2.2.2)
def closeW (l : List Int) : TokT × List Int × Int :=
 let u := if l.take 2 = [60,47] then l.drop 2 else l
 let r := off (u.drop (Xm.fullL u))
 if Xm.fullL u = 0 then ((2,ofBytes (u.take 0),[],false,⟨#[]⟩),r,11)
 else if r.take 1 = [62] then ((2,ofBytes (u.take (Xm.fullL u)),[],false,⟨#[]⟩),r.drop 1,0) else ((2,ofBytes (u.take (Xm.fullL u)),[],false,⟨#[]⟩),r,11)
def litW (l : List Int) : TokT × List Int × Int :=
 let u := if l.take 9 = [60,33,91,67,68,65,84,65,91] then l.drop 9 else l
 if 0 ≤ bIndexW u [93,93,62] then ((3,⟨#[]⟩,[],false,ofBytes (linesW (u.take (bIndexW u [93,93,62]).toNat) false)),u.drop ((bIndexW u [93,93,62]).toNat + 3),0)
 else ((3,⟨#[]⟩,[],false,ofBytes (linesW u false)),[],11)
def textN (l : List Int) : Nat := if bIndexW l [60] < 0 then l.length else (bIndexW l [60]).toNat
def textW (l : List Int) : TokT × List Int × Int :=
 if bIndexW (l.take (textN l)) [93,93,62] = -1 then ((3,⟨#[]⟩,[],false,ofBytes (resW (l.take (textN l)) false).1),l.drop (textN l),(resW (l.take (textN l)) false).2.2)
 else ((3,⟨#[]⟩,[],false,⟨#[]⟩),l.drop (textN l),11)
def tokW (l : List Int) : TokT × List Int × Int :=
 if l.length = 0 then (noTok,l,0)
 else if l.take 9 = [60,33,91,67,68,65,84,65,91] then litW l
 else if l.take 9 = [60,33,68,79,67,84,89,80,69] then (noTok,l,12)
 else if l.take 2 = [60,47] then closeW l
 else if l.take 1 = [60] then openW l
 else textW l
def nextW (b : List Int) (p : Int) : TokT × Int × Int :=
 let s := skipW b p
 if s.2 ≠ 0 then (noTok,s.1,s.2) else
 let t := tokW (b.drop s.1.toNat)
 if t.2.2 ≠ 0 then (noTok,s.1,t.2.2) else (t.1,(b.length : Int) - t.2.1.length,0)
/-- As the reference has them: how many bytes, nothing with an error. -/
def ofTok (l : List Int) (t : TokT × List Int × Int) : TokT × Int × Int := if t.2.2 ≠ 0 then (noTok,0,t.2.2) else (t.1,(l.length : Int) - t.2.1.length,0)
def rattrW (b : List Int) : ByteArray × ByteArray × Int × Int := if (attrW b).2.2.2 = 11 then (⟨#[]⟩,⟨#[]⟩,0,11) else (ofBytes (attrW b).1,ofBytes (attrW b).2.1,(b.length : Int) - (attrW b).2.2.1.length,(attrW b).2.2.2)
def rattrX (b : List Int) : Option (ByteArray × ByteArray × Int × Int) := if okB b then some (rattrW b) else none
def flatT (t : TokT × Int × Int) : Int × ByteArray × List (ByteArray × ByteArray) × Bool × ByteArray × Int × Int := (t.1.1,t.1.2.1,t.1.2.2.1,t.1.2.2.2.1,t.1.2.2.2.2,t.2.1,t.2.2)
def flatB (t : TokT × List Int × Int) : Int × ByteArray × List (ByteArray × ByteArray) × Bool × ByteArray × List Int × Int := (t.1.1,t.1.2.1,t.1.2.2.1,t.1.2.2.2.1,t.1.2.2.2.2,t.2.1,t.2.2)
def ropenX (b : List Int) : Option (Int × ByteArray × List (ByteArray × ByteArray) × Bool × ByteArray × Int × Int) := if okB b ∧ b.take 1 = [60] then some (flatT (ofTok b (openW b))) else none
def rtokX (b : List Int) : Option (Int × ByteArray × List (ByteArray × ByteArray) × Bool × ByteArray × Int × Int) := if okB b ∧ b.length ≠ 0 then some (flatT (ofTok b (tokW b))) else none
def nextX (b : List Int) (p : Int) : Option (Int × ByteArray × List (ByteArray × ByteArray) × Bool × ByteArray × Int × Int) := if okB b then some (flatT (nextW b p)) else none
def rnextX (b : List Int) (p : Int) : Option (Int × ByteArray × List (ByteArray × ByteArray) × Bool × ByteArray × Int × Int) := nextX b p
def takeX (l : List Int) (q : Int) (t : ByteArray) : Option (Bool × List Int × Int) := if okB l then some (decide (l.take t.size = toBytes t),(if l.take t.size = toBytes t then l.drop t.size else l),q) else none
def blanksX (l : List Int) (q : Int) : Option (Bool × List Int × Int) := if okB l then some (decide (0 < blankN l),off l,q) else none
def nameX (l : List Int) (q : Int) : Option (ByteArray × List Int × Int) := if okB l then some (ofBytes (l.take (Xm.fullL l)),l.drop (Xm.fullL l),q) else none
def valueX (l : List Int) (q : Int) : Option (List Int × Bool × List Int × Int) := if okB l then some ((valW l).1,(valW l).2.1,(valW l).2.2,q) else none
def attrX (l : List Int) (q : Int) : Option (ByteArray × ByteArray × List Int × Int) := if okB l then some (ofBytes (attrW l).1,ofBytes (attrW l).2.1,(attrW l).2.2.1,(attrW l).2.2.2) else none
def openX (l : List Int) (q : Int) : Option (Int × ByteArray × List (ByteArray × ByteArray) × Bool × ByteArray × List Int × Int) := if okB l ∧ q = 0 then some (flatB (openW l)) else none
def closeX (l : List Int) (q : Int) : Option (Int × ByteArray × List (ByteArray × ByteArray) × Bool × ByteArray × List Int × Int) := if okB l ∧ q = 0 then some (flatB (closeW l)) else none
def litX (l : List Int) (q : Int) : Option (Int × ByteArray × List (ByteArray × ByteArray) × Bool × ByteArray × List Int × Int) := if okB l ∧ q = 0 then some (flatB (litW l)) else none
def textX (l : List Int) (q : Int) : Option (Int × ByteArray × List (ByteArray × ByteArray) × Bool × ByteArray × List Int × Int) := if okB l ∧ q = 0 then some (flatB (textW l)) else none
def isX (l : List Int) (t : ByteArray) : Option Bool := if okB l then some (decide (l.take t.size = toBytes t)) else none
def tokX (l : List Int) (q : Int) : Option (Int × ByteArray × List (ByteArray × ByteArray) × Bool × ByteArray × List Int × Int) := if okB l ∧ q = 0 then some (flatB (tokW l)) else none
noncomputable def cx_scan_take := cxOf specs_resS
noncomputable def scan_take.spec : Spec := fun args st K => match args,st.box,st.nt with
 | [.ptr 0 0,.str t],[[.sl (.int .u8) l .no,.int .i64 q]],0 => (takeX l q t).bind fun v => K (.ret (.bool v.1)) (lcRet [[.sl (.int .u8) (v.2.1) .no,.int .i64 (v.2.2)]] [] 0)
 | _,_,_ => none
noncomputable def specs_scan_take : SpecL := (58,false,scan_take.spec) :: specs_resS
noncomputable def cx_scan_blanks := cxOf specs_scan_take
noncomputable def scan_blanks.spec : Spec := fun args st K => match args,st.box,st.nt with
 | [.ptr 0 0],[[.sl (.int .u8) l .no,.int .i64 q]],0 => (blanksX l q).bind fun v => K (.ret (.bool v.1)) (lcRet [[.sl (.int .u8) (v.2.1) .no,.int .i64 (v.2.2)]] [] 0)
 | _,_,_ => none
noncomputable def specs_scan_blanks : SpecL := (60,false,scan_blanks.spec) :: specs_scan_take
noncomputable def cx_scan_name := cxOf specs_scan_blanks
noncomputable def scan_name.spec : Spec := fun args st K => match args,st.box,st.nt with
 | [.ptr 0 0],[[.sl (.int .u8) l .no,.int .i64 q]],0 => (nameX l q).bind fun v => K (.ret (.str v.1)) (lcRet [[.sl (.int .u8) (v.2.1) .no,.int .i64 (v.2.2)]] [] 0)
 | _,_,_ => none
noncomputable def specs_scan_name : SpecL := (59,false,scan_name.spec) :: specs_scan_blanks
noncomputable def cx_scan_value := cxOf specs_scan_name
noncomputable def scan_value.spec : Spec := fun args st K => match args,st.box,st.nt with
 | [.ptr 0 0],[[.sl (.int .u8) l .no,.int .i64 q]],0 => (valueX l q).bind fun v => K (.ret (.tup [.sl (.int .u8) (v.1) .no,.bool v.2.1])) (lcRet [[.sl (.int .u8) (v.2.2.1) .no,.int .i64 (v.2.2.2)]] [] 0)
 | _,_,_ => none
noncomputable def specs_scan_value : SpecL := (86,false,scan_value.spec) :: specs_scan_name
noncomputable def cx_scan_attribute := cxOf specs_scan_value
noncomputable def scan_attribute.spec : Spec := fun args st K => match args,st.box,st.nt with
 | [.ptr 0 0],[[.sl (.int .u8) l .no,.int .i64 q]],0 => (attrX l q).bind fun v => K (.ret (.agg [.str v.1,.str v.2.1])) (lcRet [[.sl (.int .u8) (v.2.2.1) .no,.int .i64 (v.2.2.2)]] [] 0)
 | _,_,_ => none
noncomputable def specs_scan_attribute : SpecL := (61,false,scan_attribute.spec) :: specs_scan_value
noncomputable def cx_scan_opening := cxOf specs_scan_attribute
noncomputable def scan_opening.spec : Spec := fun args st K => match args,st.box,st.nt with
 | [.ptr 0 0],[[.sl (.int .u8) l .no,.int .i64 q]],0 => (openX l q).bind fun v => K (.ret (.agg [.int .i64 v.1,.str v.2.1,.sl (.pair .str .str) (v.2.2.1) .no,.bool v.2.2.2.1,.str v.2.2.2.2.1])) (lcRet [[.sl (.int .u8) (v.2.2.2.2.2.1) .no,.int .i64 (v.2.2.2.2.2.2)]] [] 0)
 | _,_,_ => none
noncomputable def specs_scan_opening : SpecL := (36,false,scan_opening.spec) :: specs_scan_attribute
noncomputable def cx_scan_closing := cxOf specs_scan_opening
noncomputable def scan_closing.spec : Spec := fun args st K => match args,st.box,st.nt with
 | [.ptr 0 0],[[.sl (.int .u8) l .no,.int .i64 q]],0 => (closeX l q).bind fun v => K (.ret (.agg [.int .i64 v.1,.str v.2.1,.sl (.pair .str .str) (v.2.2.1) .no,.bool v.2.2.2.1,.str v.2.2.2.2.1])) (lcRet [[.sl (.int .u8) (v.2.2.2.2.2.1) .no,.int .i64 (v.2.2.2.2.2.2)]] [] 0)
 | _,_,_ => none
noncomputable def specs_scan_closing : SpecL := (35,false,scan_closing.spec) :: specs_scan_opening
noncomputable def cx_scan_literal := cxOf specs_scan_closing
noncomputable def scan_literal.spec : Spec := fun args st K => match args,st.box,st.nt with
 | [.ptr 0 0],[[.sl (.int .u8) l .no,.int .i64 q]],0 => (litX l q).bind fun v => K (.ret (.agg [.int .i64 v.1,.str v.2.1,.sl (.pair .str .str) (v.2.2.1) .no,.bool v.2.2.2.1,.str v.2.2.2.2.1])) (lcRet [[.sl (.int .u8) (v.2.2.2.2.2.1) .no,.int .i64 (v.2.2.2.2.2.2)]] [] 0)
 | _,_,_ => none
noncomputable def specs_scan_literal : SpecL := (34,false,scan_literal.spec) :: specs_scan_closing
noncomputable def cx_scan_text := cxOf specs_scan_literal
noncomputable def scan_text.spec : Spec := fun args st K => match args,st.box,st.nt with
 | [.ptr 0 0],[[.sl (.int .u8) l .no,.int .i64 q]],0 => (textX l q).bind fun v => K (.ret (.agg [.int .i64 v.1,.str v.2.1,.sl (.pair .str .str) (v.2.2.1) .no,.bool v.2.2.2.1,.str v.2.2.2.2.1])) (lcRet [[.sl (.int .u8) (v.2.2.2.2.2.1) .no,.int .i64 (v.2.2.2.2.2.2)]] [] 0)
 | _,_,_ => none
noncomputable def specs_scan_text : SpecL := (37,false,scan_text.spec) :: specs_scan_literal
noncomputable def cx_scan_is := cxOf specs_scan_text
noncomputable def scan_is.spec : Spec := fun args st K => match args,st.box,st.nt with
 | [.str t,.ptr 0 0],[[.ptr 1 0],[.sl (.int .u8) l .no,.int .i64 q]],0 => (isX l t).bind fun v => K (.ret (.bool v)) (lcRet [[.ptr 1 0],[.sl (.int .u8) l .no,.int .i64 q]] [] 0)
 | _,_,_ => none
noncomputable def specs_scan_is : SpecL := (33,false,scan_is.spec) :: specs_scan_text
noncomputable def cx_scan_token := cxOf specs_scan_is
noncomputable def scan_token.spec : Spec := fun args st K => match args,st.box,st.nt with
 | [.ptr 0 0],[[.sl (.int .u8) l .no,.int .i64 q]],0 => (tokX l q).bind fun v => K (.ret (.agg [.int .i64 v.1,.str v.2.1,.sl (.pair .str .str) (v.2.2.1) .no,.bool v.2.2.2.1,.str v.2.2.2.2.1])) (lcRet [[.sl (.int .u8) (v.2.2.2.2.2.1) .no,.int .i64 (v.2.2.2.2.2.2)]] [] 0)
 | _,_,_ => none
noncomputable def specs_scan_token : SpecL := (19,false,scan_token.spec) :: specs_scan_is
noncomputable def cx_xmllex_Next := cxOf specs_scan_token
noncomputable def xmllex_Next.spec : Spec := fun args st K => match args,st.box,st.nt with
 | [.sl (.int .u8) b .no,.int .i64 p],[],0 => (nextX b p).bind fun v => K (.ret (.tup [.agg [.int .i64 v.1,.str v.2.1,.sl (.pair .str .str) (v.2.2.1) .no,.bool v.2.2.2.1,.str v.2.2.2.2.1],.int .i64 v.2.2.2.2.2.1,.int .i64 v.2.2.2.2.2.2])) (lcRet [] [] 0)
 | _,_,_ => none
noncomputable def specs_xmllex_Next : SpecL := (7,false,xmllex_Next.spec) :: specs_scan_token
noncomputable def cx_dossierref05_resolve := cxOf specs_xmllex_Next
noncomputable def dossierref05_resolve.spec : Spec := fun args st K => match args,st.box,st.nt with
 | [.sl (.int .u8) b .no,.bool v],[],0 => (resX b v).bind fun v => K (.ret (.tup [.str v.1,.int .i64 v.2.1,.int .i64 v.2.2])) (lcRet [] [] 0)
 | _,_,_ => none
noncomputable def specs_dossierref05_resolve : SpecL := (29,false,dossierref05_resolve.spec) :: specs_xmllex_Next
noncomputable def cx_dossierref05_Unescape := cxOf specs_dossierref05_resolve
noncomputable def dossierref05_Unescape.spec : Spec := fun args st K => match args,st.box,st.nt with
 | [.sl (.int .u8) b .no],[],0 => (resX b false).bind fun v => K (.ret (.tup [.str v.1,.int .i64 v.2.1,.int .i64 v.2.2])) (lcRet [] [] 0)
 | _,_,_ => none
noncomputable def specs_dossierref05_Unescape : SpecL := (16,false,dossierref05_Unescape.spec) :: specs_dossierref05_resolve
noncomputable def cx_xmllex_Unescape := cxOf specs_dossierref05_Unescape
noncomputable def xmllex_Unescape.spec : Spec := fun args st K => match args,st.box,st.nt with
 | [.sl (.int .u8) b .no],[],0 => (resX b false).bind fun v => K (.ret (.tup [.str v.1,.int .i64 v.2.1,.int .i64 v.2.2])) (lcRet [] [] 0)
 | _,_,_ => none
noncomputable def specs_xmllex_Unescape : SpecL := (15,false,xmllex_Unescape.spec) :: specs_dossierref05_Unescape
noncomputable def cx_dossierref05_attribute := cxOf specs_xmllex_Unescape
noncomputable def dossierref05_attribute.spec : Spec := fun args st K => match args,st.box,st.nt with
 | [.sl (.int .u8) b .no],[],0 => (rattrX b).bind fun v => K (.ret (.tup [.agg [.str v.1,.str v.2.1],.int .i64 v.2.2.1,.int .i64 v.2.2.2])) (lcRet [] [] 0)
 | _,_,_ => none
noncomputable def specs_dossierref05_attribute : SpecL := (64,false,dossierref05_attribute.spec) :: specs_xmllex_Unescape
noncomputable def cx_dossierref05_opening := cxOf specs_dossierref05_attribute
noncomputable def dossierref05_opening.spec : Spec := fun args st K => match args,st.box,st.nt with
 | [.sl (.int .u8) b .no],[],0 => (ropenX b).bind fun v => K (.ret (.tup [.agg [.int .i64 v.1,.str v.2.1,.sl (.pair .str .str) (v.2.2.1) .no,.bool v.2.2.2.1,.str v.2.2.2.2.1],.int .i64 v.2.2.2.2.2.1,.int .i64 v.2.2.2.2.2.2])) (lcRet [] [] 0)
 | _,_,_ => none
noncomputable def specs_dossierref05_opening : SpecL := (40,false,dossierref05_opening.spec) :: specs_dossierref05_attribute
noncomputable def cx_dossierref05_token := cxOf specs_dossierref05_opening
noncomputable def dossierref05_token.spec : Spec := fun args st K => match args,st.box,st.nt with
 | [.sl (.int .u8) b .no],[],0 => (rtokX b).bind fun v => K (.ret (.tup [.agg [.int .i64 v.1,.str v.2.1,.sl (.pair .str .str) (v.2.2.1) .no,.bool v.2.2.2.1,.str v.2.2.2.2.1],.int .i64 v.2.2.2.2.2.1,.int .i64 v.2.2.2.2.2.2])) (lcRet [] [] 0)
 | _,_,_ => none
noncomputable def specs_dossierref05_token : SpecL := (20,false,dossierref05_token.spec) :: specs_dossierref05_opening
noncomputable def cx_dossierref05_Next := cxOf specs_dossierref05_token
noncomputable def dossierref05_Next.spec : Spec := fun args st K => match args,st.box,st.nt with
 | [.sl (.int .u8) b .no,.int .i64 p],[],0 => (rnextX b p).bind fun v => K (.ret (.tup [.agg [.int .i64 v.1,.str v.2.1,.sl (.pair .str .str) (v.2.2.1) .no,.bool v.2.2.2.1,.str v.2.2.2.2.1],.int .i64 v.2.2.2.2.2.1,.int .i64 v.2.2.2.2.2.2])) (lcRet [] [] 0)
 | _,_,_ => none
noncomputable def specs_dossierref05_Next : SpecL := (8,false,dossierref05_Next.spec) :: specs_dossierref05_token
end Go.Proofs.YtccfmfifnbnlmaaGreatDoor.Ev
end
section
/- What each function comes to, one step of it at a time: the kernel's own reckoning. -/
set_option linter.unusedVariables false
set_option maxRecDepth 100000
namespace Go.Proofs.YtccfmfifnbnlmaaGreatDoor.Ev
open Go Go.RowKit
open Go.IntKind (i64 u8 i32 u64)
noncomputable def dossierref05_resolve.L0 (n k0 : Nat) (b : List Int) (v : Bool) (j0 : List Int) (j1 : Bool) (j2 : List (Ty.den U0 (.int .u8))) (j3 : Int) : Option (Rr U0) := loopF cx_dossierref05_resolve noCalls k0 0 ([(0,false),(1,false),(7,true),(8,false)]) ((siteC (Tryz.f29.body.getD .skip) [1,1,0,1,0]).getD .skip) (siteK cx_dossierref05_resolve noCalls n [] (Tryz.f29.body.getD .skip) [1,1,0,1,0] (bodyK cx_dossierref05_resolve Tryz.f29 (lcSt [] 0) (callK false [] [] (lcSt [] 0) out))) (St.mk [(0,.sl (.int .u8) j0 .no),(1,.bool j1),(7,.sl (.int .u8) j2 (Perm.tok 0)),(8,.int .i64 j3)] [] [0] 1 0 0 0 0 29 [] 76)
theorem dossierref05_resolve.L0_s (n k0 : Nat) (b : List Int) (v : Bool) (j0 : List Int) (j1 : Bool) (j2 : List (Ty.den U0 (.int .u8))) (j3 : Int) : dossierref05_resolve.L0 n (k0 + 1) b v j0 j1 j2 j3 = if decide (j3 < (↑j0.length : Int)) = true then if 0 ≤ j3 then ((nth j0 j3.toNat).bind fun v0 => if (v0 != 38) = true then if 0 ≤ j3 then if j3 ≤ (↑j0.length : Int) then ((lim fun k => Q.dossierref05_find.f k (List.drop j3.toNat j0) (ByteArray.mk #[38])).bind fun v1 => if decide (v1 < 0) = true then if 0 ≤ j3 then if j3 ≤ i64.wrap (j3 + i64.wrap ((↑j0.length : Int) - j3)) then if i64.wrap (j3 + i64.wrap ((↑j0.length : Int) - j3)) ≤ (↑j0.length : Int) then ((linesX (List.drop j3.toNat (List.take (i64.wrap (j3 + i64.wrap ((↑j0.length : Int) - j3))).toNat j0)) j1).bind fun v2 => if (j2.length + v2.length) * 1 ≤ most then (dossierref05_resolve.L0 n k0 b v j0 j1 (j2 ++ v2) (i64.wrap (j3 + i64.wrap ((↑j0.length : Int) - j3)))) else none) else none else none else none else if 0 ≤ j3 then if j3 ≤ i64.wrap (j3 + v1) then if i64.wrap (j3 + v1) ≤ (↑j0.length : Int) then ((linesX (List.drop j3.toNat (List.take (i64.wrap (j3 + v1)).toNat j0)) j1).bind fun v3 => if (j2.length + v3.length) * 1 ≤ most then (dossierref05_resolve.L0 n k0 b v j0 j1 (j2 ++ v3) (i64.wrap (j3 + v1))) else none) else none else none else none) else none else none else if 0 ≤ j3 then if j3 ≤ (↑j0.length : Int) then ((lim fun k => Q.dossierref05_find.f k (List.drop j3.toNat j0) (ByteArray.mk #[59])).bind fun v4 => if decide (v4 < 0) = true then some (.ret (.tup [.str ⟨#[]⟩,.int .i64 j3,.int .i64 13]),lcRet [] [] 0) else if 0 ≤ i64.wrap (j3 + 1) then if i64.wrap (j3 + 1) ≤ i64.wrap (j3 + v4) then if i64.wrap (j3 + v4) ≤ (↑j0.length : Int) then ((lim fun k => Q.dossierref05_reference.f k (List.drop (i64.wrap (j3 + 1)).toNat (List.take (i64.wrap (j3 + v4)).toNat j0))).bind fun v5 => if (!v5.2) = true then some (.ret (.tup [.str ⟨#[]⟩,.int .i64 j3,.int .i64 13]),lcRet [] [] 0) else ((lim fun k => Q.dossierref01_Encode.f k v5.1).bind fun v6 => if (j2.length + v6.length) * 1 ≤ most then (dossierref05_resolve.L0 n k0 b v j0 j1 (j2 ++ v6) (i64.wrap (j3 + i64.wrap (v4 + 1)))) else none)) else none else none else none) else none else none) else none else some (.ret (.tup [.str (ofBytes j2),.int .i64 0,.int .i64 0]),lcRet [] [] 0) := by kernel_rfl
theorem dossierref05_resolve.top (n : Nat) (b : List Int) (v : Bool) : callX false (fnF cx_dossierref05_resolve noCalls n 29) ([.sl (.int .u8) b .no,.bool v]) (lcSt [] 0) out = (dossierref05_resolve.L0 n n b v b v [] 0) := by kernel_rfl
theorem scan_blanks.top (n : Nat) (l : List Int) (q : Int) : callX false (fnF cx_scan_blanks noCalls n 60) ([.ptr 0 0]) (lcSt ([[.sl (.int .u8) l .no,.int .i64 q]]) 0) out = ((trimX l).bind fun v0 => some (.ret (.bool (decide ((↑v0.length : Int) < (↑l.length : Int)))),lcRet ([[.sl (.int .u8) v0 .no,.int .i64 q]]) [] 0)) := by kernel_rfl
theorem scan_is.top (n : Nat) (t : ByteArray) (l : List Int) (q : Int) : callX false (fnF cx_scan_is noCalls n 33) ([.str t,.ptr 0 0]) (lcSt ([[.ptr 1 0],[.sl (.int .u8) l .no,.int .i64 q]]) 0) out = ((Q.bytes_HasPrefix.f l (toBytes t)).bind fun v0 => some (.ret (.bool v0),lcRet ([[.ptr 1 0],[.sl (.int .u8) l .no,.int .i64 q]]) [] 0)) := by kernel_rfl
theorem dossierref05_Unescape.top (n : Nat) (b : List Int) : callX false (fnF cx_dossierref05_Unescape noCalls n 16) ([.sl (.int .u8) b .no]) (lcSt [] 0) out = ((resX b false).bind fun v0 => some (.ret (.tup [.str v0.1,.int .i64 v0.2.1,.int .i64 v0.2.2]),lcRet [] [] 0)) := by kernel_rfl
theorem scan_name.top (n : Nat) (l : List Int) (q : Int) : callX false (fnF cx_scan_name noCalls n 59) ([.ptr 0 0]) (lcSt ([[.sl (.int .u8) l .no,.int .i64 q]]) 0) out = ((fullX l).bind fun v0 => if 0 ≤ (↑v0.length : Int) then if (↑v0.length : Int) ≤ (↑l.length : Int) then some (.ret (.str (ofBytes v0)),lcRet ([[.sl (.int .u8) (List.drop (↑v0.length : Int).toNat l) .no,.int .i64 q]]) [] 0) else none else none) := by kernel_rfl
theorem scan_token.top (n : Nat) (l : List Int) (q : Int) : callX false (fnF cx_scan_token noCalls n 19) ([.ptr 0 0]) (lcSt ([[.sl (.int .u8) l .no,.int .i64 q]]) 0) out = if ((↑l.length : Int) == 0) = true then some (.ret (.agg [.int .i64 0,.str ⟨#[]⟩,.sl (Ty.str.pair Ty.str) [] .no,.bool false,.str ⟨#[]⟩]),lcRet ([[.sl (.int .u8) l .no,.int .i64 q]]) [] 0) else ((isX l (ByteArray.mk #[60,33,91,67,68,65,84,65,91])).bind fun v0 => if v0 = true then ((litX l q).bind fun v1 => some (.ret (.agg [.int .i64 v1.1,.str v1.2.1,.sl (Ty.str.pair Ty.str) v1.2.2.1 .no,.bool v1.2.2.2.1,.str v1.2.2.2.2.1]),lcRet ([[.sl (.int .u8) v1.2.2.2.2.2.1 .no,.int .i64 v1.2.2.2.2.2.2]]) [] 0)) else ((isX l (ByteArray.mk #[60,33,68,79,67,84,89,80,69])).bind fun v2 => if v2 = true then some (.ret (.agg [.int .i64 0,.str ⟨#[]⟩,.sl (Ty.str.pair Ty.str) [] .no,.bool false,.str ⟨#[]⟩]),lcRet ([[.sl (.int .u8) l .no,.int .i64 12]]) [] 0) else ((isX l (ByteArray.mk #[60,47])).bind fun v3 => if v3 = true then ((closeX l q).bind fun v4 => some (.ret (.agg [.int .i64 v4.1,.str v4.2.1,.sl (Ty.str.pair Ty.str) v4.2.2.1 .no,.bool v4.2.2.2.1,.str v4.2.2.2.2.1]),lcRet ([[.sl (.int .u8) v4.2.2.2.2.2.1 .no,.int .i64 v4.2.2.2.2.2.2]]) [] 0)) else ((isX l (ByteArray.mk #[60])).bind fun v5 => if v5 = true then ((openX l q).bind fun v6 => some (.ret (.agg [.int .i64 v6.1,.str v6.2.1,.sl (Ty.str.pair Ty.str) v6.2.2.1 .no,.bool v6.2.2.2.1,.str v6.2.2.2.2.1]),lcRet ([[.sl (.int .u8) v6.2.2.2.2.2.1 .no,.int .i64 v6.2.2.2.2.2.2]]) [] 0)) else ((textX l q).bind fun v7 => some (.ret (.agg [.int .i64 v7.1,.str v7.2.1,.sl (Ty.str.pair Ty.str) v7.2.2.1 .no,.bool v7.2.2.2.1,.str v7.2.2.2.2.1]),lcRet ([[.sl (.int .u8) v7.2.2.2.2.2.1 .no,.int .i64 v7.2.2.2.2.2.2]]) [] 0)))))) := by kernel_rfl
theorem xmllex_Unescape.top (n : Nat) (b : List Int) : callX false (fnF cx_xmllex_Unescape noCalls n 15) ([.sl (.int .u8) b .no]) (lcSt [] 0) out = ((resX b false).bind fun v0 => some (.ret (.tup [.str v0.1,.int .i64 v0.2.1,.int .i64 v0.2.2]),lcRet [] [] 0)) := by kernel_rfl
def scan_value.bs : List Nat := [0]
noncomputable def scan_value.L1 (n k0 : Nat) (l : List Int) (q : Int) (j0 j1 : ByteArray) (j2 : Int) (j3 : List Int) (j4 : Int) : Option (Rr U0) := loopF cx_scan_value noCalls k0 (1) ([(0,false),(9,false),(10,false)]) ((siteC (Tryz.f86.body.getD .skip) [1,0,1,0]).getD .skip) (siteK cx_scan_value noCalls n [] (Tryz.f86.body.getD .skip) [1,0,1,0] (bodyK cx_scan_value Tryz.f86 (lcSt ([[.sl (.int .u8) l .no,.int .i64 q]]) 0) (callK false scan_value.bs [] (lcSt ([[.sl (.int .u8) l .no,.int .i64 q]]) 0) out))) (St.mk [(0,.ptr 0 0),(9,.agg [.str j0,.str j1]),(10,.int .i64 j2)] [[.sl (.int .u8) j3 .no,.int .i64 j4]] [] 0 0 0 0 1 86 [] 39)
theorem scan_value.L1_s (n k0 : Nat) (l : List Int) (q : Int) (j0 j1 : ByteArray) (j2 : Int) (j3 : List Int) (j4 : Int) : scan_value.L1 n (k0 + 1) l q j0 j1 j2 j3 j4 = if decide (j2 < 2) = true then if j2 = (↑(1 : Nat) : Int) then ((takeX j3 j4 j1).bind fun v2 => if v2.1 = true then ((cutX v2.2.1 (toBytes j1)).bind fun v3 => if v3.2.2 = true then some (.ret (.tup [.sl (.int .u8) v3.1 .no,.bool (if true = true then decide (Lib.indexByte (Lib.bytesOf v3.1) (Int.toNat (60 : Int)).toUInt8 < 0) else false)]),lcRet ([[.sl (.int .u8) v3.2.1 .no,.int .i64 v2.2.2]]) [] 0) else some (.ret (.tup [.sl (.int .u8) v3.1 .no,.bool false]),lcRet ([[.sl (.int .u8) v3.2.1 .no,.int .i64 v2.2.2]]) [] 0)) else (scan_value.L1 n k0 l q j0 j1 (i64.wrap (j2 + 1)) v2.2.1 v2.2.2)) else if j2 = (↑0 : Int) then ((takeX j3 j4 j0).bind fun v4 => if v4.1 = true then ((cutX v4.2.1 (toBytes j0)).bind fun v5 => if v5.2.2 = true then some (.ret (.tup [.sl (.int .u8) v5.1 .no,.bool (if true = true then decide (Lib.indexByte (Lib.bytesOf v5.1) (Int.toNat (60 : Int)).toUInt8 < 0) else false)]),lcRet ([[.sl (.int .u8) v5.2.1 .no,.int .i64 v4.2.2]]) [] 0) else some (.ret (.tup [.sl (.int .u8) v5.1 .no,.bool false]),lcRet ([[.sl (.int .u8) v5.2.1 .no,.int .i64 v4.2.2]]) [] 0)) else (scan_value.L1 n k0 l q j0 j1 (i64.wrap (j2 + 1)) v4.2.1 v4.2.2)) else none else some (.ret (.tup [.sl (.int .u8) [] .no,.bool false]),lcRet ([[.sl (.int .u8) j3 .no,.int .i64 j4]]) [] 0) := by kernel_rfl
theorem scan_value.top (n : Nat) (l : List Int) (q : Int) : callX false (fnF cx_scan_value noCalls n 86) ([.ptr 0 0]) (lcSt ([[.sl (.int .u8) l .no,.int .i64 q]]) 0) out = (scan_value.L1 n n l q (ByteArray.mk #[39]) (ByteArray.mk #[34]) 0 l q) := by kernel_rfl
theorem xmllex_Next.top (n : Nat) (b : List Int) (p : Int) : callX false (fnF cx_xmllex_Next noCalls n 7) ([.sl (.int .u8) b .no,.int .i64 p]) (lcSt [] 0) out = ((skipX b p).bind fun v0 => if (v0.2 != 0) = true then some (.ret (.tup [.agg [.int .i64 0,.str ⟨#[]⟩,.sl (Ty.str.pair Ty.str) [] .no,.bool false,.str ⟨#[]⟩],.int .i64 v0.1,.int .i64 v0.2]),lcRet [] [] 0) else if 0 ≤ v0.1 then if v0.1 ≤ (↑b.length : Int) then ((tokX (List.drop v0.1.toNat b) (0 : Int)).bind fun v1 => if (v1.2.2.2.2.2.2 != 0) = true then some (.ret (.tup [.agg [.int .i64 0,.str ⟨#[]⟩,.sl (Ty.str.pair Ty.str) [] .no,.bool false,.str ⟨#[]⟩],.int .i64 v0.1,.int .i64 v1.2.2.2.2.2.2]),lcRet [] [] 0) else some (.ret (.tup [.agg [.int .i64 v1.1,.str v1.2.1,.sl (Ty.str.pair Ty.str) v1.2.2.1 .no,.bool v1.2.2.2.1,.str v1.2.2.2.2.1],.int .i64 (i64.wrap ((↑b.length : Int) - (↑v1.2.2.2.2.2.1.length : Int))),.int .i64 0]),lcRet [] [] 0)) else none else none) := by kernel_rfl
theorem dossierref05_attribute.top (n : Nat) (b : List Int) : callX false (fnF cx_dossierref05_attribute noCalls n 64) ([.sl (.int .u8) b .no]) (lcSt [] 0) out = ((lim fun k => Q.dossierref05_name.f k b).bind fun v0 => if 0 ≤ v0 then if v0 ≤ (↑b.length : Int) then if 0 ≤ v0 then if v0 ≤ (↑b.length : Int) then ((lim fun k => Q.dossierref05_blanks.f k (List.drop v0.toNat b)).bind fun v1 => if (v0 == 0) = true then some (.ret (.tup [.agg [.str ⟨#[]⟩,.str ⟨#[]⟩],.int .i64 0,.int .i64 11]),lcRet [] [] 0) else if 0 ≤ i64.wrap (v0 + v1) then if i64.wrap (v0 + v1) ≤ (↑b.length : Int) then ((Q.dossierref05_begins.f (List.drop (i64.wrap (v0 + v1)).toNat b) (ByteArray.mk #[61])).bind fun v2 => if (if false = true then true else !v2) = true then some (.ret (.tup [.agg [.str ⟨#[]⟩,.str ⟨#[]⟩],.int .i64 0,.int .i64 11]),lcRet [] [] 0) else if 0 ≤ i64.wrap (i64.wrap (v0 + v1) + 1) then if i64.wrap (i64.wrap (v0 + v1) + 1) ≤ (↑b.length : Int) then ((lim fun k => Q.dossierref05_blanks.f k (List.drop (i64.wrap (i64.wrap (v0 + v1) + 1)).toNat b)).bind fun v3 => if 0 ≤ i64.wrap (i64.wrap (i64.wrap (v0 + v1) + 1) + v3) then if i64.wrap (i64.wrap (i64.wrap (v0 + v1) + 1) + v3) ≤ (↑b.length : Int) then ((Q.dossierref05_begins.f (List.drop (i64.wrap (i64.wrap (i64.wrap (v0 + v1) + 1) + v3)).toNat b) (ByteArray.mk #[39])).bind fun v4 => if (!v4) = true then if 0 ≤ i64.wrap (i64.wrap (i64.wrap (v0 + v1) + 1) + v3) then if i64.wrap (i64.wrap (i64.wrap (v0 + v1) + 1) + v3) ≤ (↑b.length : Int) then ((Q.dossierref05_begins.f (List.drop (i64.wrap (i64.wrap (i64.wrap (v0 + v1) + 1) + v3)).toNat b) (ByteArray.mk #[34])).bind fun v5 => if (if true = true then !v5 else false) = true then some (.ret (.tup [.agg [.str ⟨#[]⟩,.str ⟨#[]⟩],.int .i64 0,.int .i64 11]),lcRet [] [] 0) else if 0 ≤ i64.wrap (i64.wrap (i64.wrap (i64.wrap (v0 + v1) + 1) + v3) + 1) then if i64.wrap (i64.wrap (i64.wrap (i64.wrap (v0 + v1) + 1) + v3) + 1) ≤ (↑b.length : Int) then if 0 ≤ i64.wrap (i64.wrap (i64.wrap (v0 + v1) + 1) + v3) then if i64.wrap (i64.wrap (i64.wrap (v0 + v1) + 1) + v3) ≤ i64.wrap (i64.wrap (i64.wrap (i64.wrap (v0 + v1) + 1) + v3) + 1) then if i64.wrap (i64.wrap (i64.wrap (i64.wrap (v0 + v1) + 1) + v3) + 1) ≤ (↑b.length : Int) then ((lim fun k => Q.dossierref05_find.f k (List.drop (i64.wrap (i64.wrap (i64.wrap (i64.wrap (v0 + v1) + 1) + v3) + 1)).toNat b) (ofBytes (List.drop (i64.wrap (i64.wrap (i64.wrap (v0 + v1) + 1) + v3)).toNat (List.take (i64.wrap (i64.wrap (i64.wrap (i64.wrap (v0 + v1) + 1) + v3) + 1)).toNat b)))).bind fun v6 => if 0 ≤ i64.wrap (i64.wrap (i64.wrap (i64.wrap (v0 + v1) + 1) + v3) + 1) then if i64.wrap (i64.wrap (i64.wrap (i64.wrap (v0 + v1) + 1) + v3) + 1) ≤ (↑b.length : Int) then ((lim fun k => Q.dossierref05_find.f k (List.drop (i64.wrap (i64.wrap (i64.wrap (i64.wrap (v0 + v1) + 1) + v3) + 1)).toNat b) (ByteArray.mk #[60])).bind fun v7 => if (if decide (v6 < 0) = true then true else if decide (v7 ≥ 0) = true then decide (v7 < v6) else false) = true then some (.ret (.tup [.agg [.str ⟨#[]⟩,.str ⟨#[]⟩],.int .i64 0,.int .i64 11]),lcRet [] [] 0) else if 0 ≤ i64.wrap (i64.wrap (i64.wrap (i64.wrap (v0 + v1) + 1) + v3) + 1) then if i64.wrap (i64.wrap (i64.wrap (i64.wrap (v0 + v1) + 1) + v3) + 1) ≤ i64.wrap (i64.wrap (i64.wrap (i64.wrap (i64.wrap (v0 + v1) + 1) + v3) + 1) + v6) then if i64.wrap (i64.wrap (i64.wrap (i64.wrap (i64.wrap (v0 + v1) + 1) + v3) + 1) + v6) ≤ (↑b.length : Int) then ((resX (List.drop (i64.wrap (i64.wrap (i64.wrap (i64.wrap (v0 + v1) + 1) + v3) + 1)).toNat (List.take (i64.wrap (i64.wrap (i64.wrap (i64.wrap (i64.wrap (v0 + v1) + 1) + v3) + 1) + v6)).toNat b)) true).bind fun v8 => some (.ret (.tup [.agg [.str (ofBytes (List.take v0.toNat b)),.str v8.1],.int .i64 (i64.wrap (i64.wrap (i64.wrap (i64.wrap (i64.wrap (v0 + v1) + 1) + v3) + v6) + 2)),.int .i64 v8.2.2]),lcRet [] [] 0)) else none else none else none) else none else none) else none else none else none else none else none) else none else none else if 0 ≤ i64.wrap (i64.wrap (i64.wrap (i64.wrap (v0 + v1) + 1) + v3) + 1) then if i64.wrap (i64.wrap (i64.wrap (i64.wrap (v0 + v1) + 1) + v3) + 1) ≤ (↑b.length : Int) then if 0 ≤ i64.wrap (i64.wrap (i64.wrap (v0 + v1) + 1) + v3) then if i64.wrap (i64.wrap (i64.wrap (v0 + v1) + 1) + v3) ≤ i64.wrap (i64.wrap (i64.wrap (i64.wrap (v0 + v1) + 1) + v3) + 1) then if i64.wrap (i64.wrap (i64.wrap (i64.wrap (v0 + v1) + 1) + v3) + 1) ≤ (↑b.length : Int) then ((lim fun k => Q.dossierref05_find.f k (List.drop (i64.wrap (i64.wrap (i64.wrap (i64.wrap (v0 + v1) + 1) + v3) + 1)).toNat b) (ofBytes (List.drop (i64.wrap (i64.wrap (i64.wrap (v0 + v1) + 1) + v3)).toNat (List.take (i64.wrap (i64.wrap (i64.wrap (i64.wrap (v0 + v1) + 1) + v3) + 1)).toNat b)))).bind fun v9 => if 0 ≤ i64.wrap (i64.wrap (i64.wrap (i64.wrap (v0 + v1) + 1) + v3) + 1) then if i64.wrap (i64.wrap (i64.wrap (i64.wrap (v0 + v1) + 1) + v3) + 1) ≤ (↑b.length : Int) then ((lim fun k => Q.dossierref05_find.f k (List.drop (i64.wrap (i64.wrap (i64.wrap (i64.wrap (v0 + v1) + 1) + v3) + 1)).toNat b) (ByteArray.mk #[60])).bind fun v10 => if (if decide (v9 < 0) = true then true else if decide (v10 ≥ 0) = true then decide (v10 < v9) else false) = true then some (.ret (.tup [.agg [.str ⟨#[]⟩,.str ⟨#[]⟩],.int .i64 0,.int .i64 11]),lcRet [] [] 0) else if 0 ≤ i64.wrap (i64.wrap (i64.wrap (i64.wrap (v0 + v1) + 1) + v3) + 1) then if i64.wrap (i64.wrap (i64.wrap (i64.wrap (v0 + v1) + 1) + v3) + 1) ≤ i64.wrap (i64.wrap (i64.wrap (i64.wrap (i64.wrap (v0 + v1) + 1) + v3) + 1) + v9) then if i64.wrap (i64.wrap (i64.wrap (i64.wrap (i64.wrap (v0 + v1) + 1) + v3) + 1) + v9) ≤ (↑b.length : Int) then ((resX (List.drop (i64.wrap (i64.wrap (i64.wrap (i64.wrap (v0 + v1) + 1) + v3) + 1)).toNat (List.take (i64.wrap (i64.wrap (i64.wrap (i64.wrap (i64.wrap (v0 + v1) + 1) + v3) + 1) + v9)).toNat b)) true).bind fun v11 => some (.ret (.tup [.agg [.str (ofBytes (List.take v0.toNat b)),.str v11.1],.int .i64 (i64.wrap (i64.wrap (i64.wrap (i64.wrap (i64.wrap (v0 + v1) + 1) + v3) + v9) + 2)),.int .i64 v11.2.2]),lcRet [] [] 0)) else none else none else none) else none else none) else none else none else none else none else none) else none else none) else none else none) else none else none) else none else none else none else none) := by kernel_rfl
theorem scan_attribute.top (n : Nat) (l : List Int) (q : Int) : callX false (fnF cx_scan_attribute noCalls n 61) ([.ptr 0 0]) (lcSt ([[.sl (.int .u8) l .no,.int .i64 q]]) 0) out = ((nameX l q).bind fun v0 => ((blanksX v0.2.1 v0.2.2).bind fun v1 => ((takeX v1.2.1 v1.2.2 (ByteArray.mk #[61])).bind fun v2 => ((blanksX v2.2.1 v2.2.2).bind fun v3 => ((valueX v3.2.1 v3.2.2).bind fun v4 => if (if (if seq v0.1 (ByteArray.mk #[]) = true then true else !v2.1) = true then true else !v4.2.1) = true then some (.ret (.agg [.str v0.1,.str ⟨#[]⟩]),lcRet ([[.sl (.int .u8) v4.2.2.1 .no,.int .i64 11]]) [] 0) else ((resX v4.1 true).bind fun v5 => some (.ret (.agg [.str v0.1,.str v5.1]),lcRet ([[.sl (.int .u8) v4.2.2.1 .no,.int .i64 v5.2.2]]) [] 0))))))) := by kernel_rfl
noncomputable def dossierref05_opening.L1 (n k0 : Nat) (b j0 : List Int) (j1 j2 : Int) (j3 : ByteArray) (j4 : List (Ty.den U0 (Ty.str.pair Ty.str))) (j5 : Bool) (j6 : ByteArray) (j7 : Int) (j8 : ByteArray) (j9 : List (Ty.den U0 (Ty.str.pair Ty.str))) (j10 : Bool) (j11 : ByteArray) : Option (Rr U0) := loopF cx_dossierref05_opening noCalls k0 (2) ([(0,false),(2,false),(6,false),(7,false)]) ((siteC (Tryz.f40.body.getD .skip) [1,1,1,1,1,0]).getD .skip) (siteK cx_dossierref05_opening noCalls n [] (Tryz.f40.body.getD .skip) [1,1,1,1,1,0] (bodyK cx_dossierref05_opening Tryz.f40 (lcSt [] 0) (callK false [] [] (lcSt [] 0) out))) (St.mk [(0,.sl (.int .u8) j0 .no),(2,.ptr 0 0),(6,.ptr 1 0),(7,.int .i64 j1)] [[.int .i64 j2,.str j3,.sl (Ty.str.pair Ty.str) j4 (Perm.tok 0),.bool j5,.str j6],[.int .i64 j7,.str j8,.sl (Ty.str.pair Ty.str) j9 (Perm.tok (0 + 1)),.bool j10,.str j11]] [1,0] 2 0 0 0 0 40 [] 75)
theorem dossierref05_opening.L1_s (n k0 : Nat) (b j0 : List Int) (j1 j2 : Int) (j3 : ByteArray) (j4 : List (Ty.den U0 (Ty.str.pair Ty.str))) (j5 : Bool) (j6 : ByteArray) (j7 : Int) (j8 : ByteArray) (j9 : List (Ty.den U0 (Ty.str.pair Ty.str))) (j10 : Bool) (j11 : ByteArray) : dossierref05_opening.L1 n (k0 + 1) b j0 j1 j2 j3 j4 j5 j6 j7 j8 j9 j10 j11 = if 0 ≤ j1 then if j1 ≤ (↑j0.length : Int) then ((lim fun k => Q.dossierref05_blanks.f k (List.drop j1.toNat j0)).bind fun v5 => if 0 ≤ i64.wrap (j1 + v5) then if i64.wrap (j1 + v5) ≤ (↑j0.length : Int) then ((Q.dossierref05_begins.f (List.drop (i64.wrap (j1 + v5)).toNat j0) (ByteArray.mk #[62])).bind fun v6 => if v6 = true then some (.ret (.tup [.agg [.int .i64 j7,.str j8,.sl (Ty.str.pair Ty.str) j9 .no,.bool j10,.str j11],.int .i64 (i64.wrap (i64.wrap (j1 + v5) + 1)),.int .i64 0]),lcRet [] [] 0) else ((Q.dossierref05_begins.f (List.drop (i64.wrap (j1 + v5)).toNat j0) (ByteArray.mk #[47,62])).bind fun v7 => if v7 = true then some (.ret (.tup [.agg [.int .i64 j7,.str j8,.sl (Ty.str.pair Ty.str) j9 .no,.bool true,.str j11],.int .i64 (i64.wrap (i64.wrap (j1 + v5) + 2)),.int .i64 0]),lcRet [] [] 0) else if (v5 == 0) = true then some (.ret (.tup [.agg [.int .i64 0,.str ⟨#[]⟩,.sl (Ty.str.pair Ty.str) [] .no,.bool false,.str ⟨#[]⟩],.int .i64 0,.int .i64 11]),lcRet [] [] 0) else ((rattrX (List.drop (i64.wrap (j1 + v5)).toNat j0)).bind fun v8 => if (v8.2.2.2 != 0) = true then some (.ret (.tup [.agg [.int .i64 0,.str ⟨#[]⟩,.sl (Ty.str.pair Ty.str) [] .no,.bool false,.str ⟨#[]⟩],.int .i64 0,.int .i64 v8.2.2.2]),lcRet [] [] 0) else if (j9.length + [(v8.1,v8.2.1)].length) * 32 ≤ most then (dossierref05_opening.L1 n k0 b j0 (i64.wrap (j1 + i64.wrap (v5 + v8.2.2.1))) j2 j3 j4 j5 j6 j7 j8 (j9 ++ [(v8.1,v8.2.1)]) j10 j11) else none))) else none else none) else none else none := by kernel_rfl
theorem dossierref05_opening.top (n : Nat) (b : List Int) : callX false (fnF cx_dossierref05_opening noCalls n 40) ([.sl (.int .u8) b .no]) (lcSt [] 0) out = if (1 : Int) ≤ (↑b.length : Int) then ((lim fun k => Q.dossierref05_name.f k (List.drop (Int.toNat (1 : Int)) b)).bind fun v0 => if (v0 == 0) = true then some (.ret (.tup [.agg [.int .i64 0,.str ⟨#[]⟩,.sl (Ty.str.pair Ty.str) [] .no,.bool false,.str ⟨#[]⟩],.int .i64 0,.int .i64 11]),lcRet [] [] 0) else if (1 : Int) ≤ i64.wrap ((1 : Int) + v0) then if i64.wrap ((1 : Int) + v0) ≤ (↑b.length : Int) then (dossierref05_opening.L1 n n b b (i64.wrap ((1 : Int) + v0)) 0 (ByteArray.mk #[]) [] false (ByteArray.mk #[]) 1 (ofBytes (List.drop (Int.toNat (1 : Int)) (List.take (i64.wrap ((1 : Int) + v0)).toNat b))) [] false (ByteArray.mk #[])) else none else none) else none := by kernel_rfl
def scan_opening.bs : List Nat := [0]
noncomputable def scan_opening.L1 (n k0 : Nat) (l : List Int) (q : Int) (j0 : List Int) (j1 j2 : Int) (j3 : ByteArray) (j4 : List (Ty.den U0 (Ty.str.pair Ty.str))) (j5 : Bool) (j6 : ByteArray) (j7 : Int) (j8 : ByteArray) (j9 : List (Ty.den U0 (Ty.str.pair Ty.str))) (j10 : Bool) (j11 : ByteArray) : Option (Rr U0) := loopF cx_scan_opening noCalls k0 (3) ([(0,false),(2,false),(3,false)]) ((siteC (Tryz.f36.body.getD .skip) [1,1,1,1,0,0]).getD .skip) (siteK cx_scan_opening noCalls n [] (Tryz.f36.body.getD .skip) [1,1,1,1,0,0] (bodyK cx_scan_opening Tryz.f36 (lcSt ([[.sl (.int .u8) l .no,.int .i64 q]]) 0) (callK false scan_opening.bs [] (lcSt ([[.sl (.int .u8) l .no,.int .i64 q]]) 0) out))) (St.mk [(0,.ptr 0 0),(2,.ptr 1 0),(3,.ptr 2 0)] [[.sl (.int .u8) j0 .no,.int .i64 j1],[.int .i64 j2,.str j3,.sl (Ty.str.pair Ty.str) j4 (Perm.tok 0),.bool j5,.str j6],[.int .i64 j7,.str j8,.sl (Ty.str.pair Ty.str) j9 (Perm.tok (0 + 1)),.bool j10,.str j11]] [1,0] 2 0 0 0 1 36 [] 41)
theorem scan_opening.L1_s (n k0 : Nat) (l : List Int) (q : Int) (j0 : List Int) (j1 j2 : Int) (j3 : ByteArray) (j4 : List (Ty.den U0 (Ty.str.pair Ty.str))) (j5 : Bool) (j6 : ByteArray) (j7 : Int) (j8 : ByteArray) (j9 : List (Ty.den U0 (Ty.str.pair Ty.str))) (j10 : Bool) (j11 : ByteArray) : scan_opening.L1 n (k0 + 1) l q j0 j1 j2 j3 j4 j5 j6 j7 j8 j9 j10 j11 = if (j1 == 0) = true then ((blanksX j0 j1).bind fun v6 => ((takeX v6.2.1 v6.2.2 (ByteArray.mk #[62])).bind fun v7 => if v7.1 = true then some (.ret (.agg [.int .i64 j7,.str j8,.sl (Ty.str.pair Ty.str) j9 .no,.bool j10,.str j11]),lcRet ([[.sl (.int .u8) v7.2.1 .no,.int .i64 v7.2.2]]) [] 0) else ((takeX v7.2.1 v7.2.2 (ByteArray.mk #[47,62])).bind fun v8 => if v8.1 = true then some (.ret (.agg [.int .i64 j7,.str j8,.sl (Ty.str.pair Ty.str) j9 .no,.bool true,.str j11]),lcRet ([[.sl (.int .u8) v8.2.1 .no,.int .i64 v8.2.2]]) [] 0) else if (!v6.1) = true then some (.ret (.agg [.int .i64 j7,.str j8,.sl (Ty.str.pair Ty.str) j9 .no,.bool j10,.str j11]),lcRet ([[.sl (.int .u8) v8.2.1 .no,.int .i64 11]]) [] 0) else ((attrX v8.2.1 v8.2.2).bind fun v9 => if (j9.length + [(v9.1,v9.2.1)].length) * 32 ≤ most then (scan_opening.L1 n k0 l q v9.2.2.1 v9.2.2.2 j2 j3 j4 j5 j6 j7 j8 (j9 ++ [(v9.1,v9.2.1)]) j10 j11) else none)))) else some (.ret (.agg [.int .i64 j7,.str j8,.sl (Ty.str.pair Ty.str) j9 .no,.bool j10,.str j11]),lcRet ([[.sl (.int .u8) j0 .no,.int .i64 j1]]) [] 0) := by kernel_rfl
theorem scan_opening.top (n : Nat) (l : List Int) (q : Int) : callX false (fnF cx_scan_opening noCalls n 36) ([.ptr 0 0]) (lcSt ([[.sl (.int .u8) l .no,.int .i64 q]]) 0) out = ((takeX l q (ByteArray.mk #[60])).bind fun v0 => ((nameX v0.2.1 v0.2.2).bind fun v1 => if seq v1.1 (ByteArray.mk #[]) = true then (scan_opening.L1 n n l q v1.2.1 11 0 (ByteArray.mk #[]) [] false (ByteArray.mk #[]) 1 v1.1 [] false (ByteArray.mk #[])) else (scan_opening.L1 n n l q v1.2.1 v1.2.2 0 (ByteArray.mk #[]) [] false (ByteArray.mk #[]) 1 v1.1 [] false (ByteArray.mk #[])))) := by kernel_rfl
theorem dossierref05_token.top (n : Nat) (b : List Int) : callX false (fnF cx_dossierref05_token noCalls n 20) ([.sl (.int .u8) b .no]) (lcSt [] 0) out = ((Q.dossierref05_begins.f b (ByteArray.mk #[60,33,91,67,68,65,84,65,91])).bind fun v0 => if v0 = true then if (9 : Int) ≤ (↑b.length : Int) then ((lim fun k => Q.dossierref05_find.f k (List.drop (Int.toNat (9 : Int)) b) (ByteArray.mk #[93,93,62])).bind fun v1 => if decide (v1 < 0) = true then some (.ret (.tup [.agg [.int .i64 0,.str ⟨#[]⟩,.sl (Ty.str.pair Ty.str) [] .no,.bool false,.str ⟨#[]⟩],.int .i64 0,.int .i64 11]),lcRet [] [] 0) else if (9 : Int) ≤ i64.wrap ((9 : Int) + v1) then if i64.wrap ((9 : Int) + v1) ≤ (↑b.length : Int) then ((linesX (List.drop (Int.toNat (9 : Int)) (List.take (i64.wrap ((9 : Int) + v1)).toNat b)) false).bind fun v2 => some (.ret (.tup [.agg [.int .i64 3,.str ⟨#[]⟩,.sl (Ty.str.pair Ty.str) [] .no,.bool false,.str (ofBytes v2)],.int .i64 (i64.wrap (v1 + 12)),.int .i64 0]),lcRet [] [] 0)) else none else none) else none else ((Q.dossierref05_begins.f b (ByteArray.mk #[60,33,68,79,67,84,89,80,69])).bind fun v3 => if v3 = true then some (.ret (.tup [.agg [.int .i64 0,.str ⟨#[]⟩,.sl (Ty.str.pair Ty.str) [] .no,.bool false,.str ⟨#[]⟩],.int .i64 0,.int .i64 12]),lcRet [] [] 0) else ((Q.dossierref05_begins.f b (ByteArray.mk #[60,47])).bind fun v4 => if v4 = true then if (2 : Int) ≤ (↑b.length : Int) then ((lim fun k => Q.dossierref05_name.f k (List.drop (Int.toNat (2 : Int)) b)).bind fun v5 => if 0 ≤ i64.wrap ((2 : Int) + v5) then if i64.wrap ((2 : Int) + v5) ≤ (↑b.length : Int) then ((lim fun k => Q.dossierref05_blanks.f k (List.drop (i64.wrap ((2 : Int) + v5)).toNat b)).bind fun v6 => if (v5 == 0) = true then some (.ret (.tup [.agg [.int .i64 0,.str ⟨#[]⟩,.sl (Ty.str.pair Ty.str) [] .no,.bool false,.str ⟨#[]⟩],.int .i64 0,.int .i64 11]),lcRet [] [] 0) else if 0 ≤ i64.wrap (i64.wrap (v5 + 2) + v6) then if i64.wrap (i64.wrap (v5 + 2) + v6) ≤ (↑b.length : Int) then ((Q.dossierref05_begins.f (List.drop (i64.wrap (i64.wrap (v5 + 2) + v6)).toNat b) (ByteArray.mk #[62])).bind fun v7 => if (if false = true then true else !v7) = true then some (.ret (.tup [.agg [.int .i64 0,.str ⟨#[]⟩,.sl (Ty.str.pair Ty.str) [] .no,.bool false,.str ⟨#[]⟩],.int .i64 0,.int .i64 11]),lcRet [] [] 0) else if (2 : Int) ≤ i64.wrap ((2 : Int) + v5) then if i64.wrap ((2 : Int) + v5) ≤ (↑b.length : Int) then some (.ret (.tup [.agg [.int .i64 2,.str (ofBytes (List.drop (Int.toNat (2 : Int)) (List.take (i64.wrap ((2 : Int) + v5)).toNat b))),.sl (Ty.str.pair Ty.str) [] .no,.bool false,.str ⟨#[]⟩],.int .i64 (i64.wrap (i64.wrap (i64.wrap (v5 + 2) + v6) + 1)),.int .i64 0]),lcRet [] [] 0) else none else none) else none else none) else none else none) else none else ((Q.dossierref05_begins.f b (ByteArray.mk #[60])).bind fun v8 => if v8 = true then ((ropenX b).bind fun v9 => some (.ret (.tup [.agg [.int .i64 v9.1,.str v9.2.1,.sl (Ty.str.pair Ty.str) v9.2.2.1 .no,.bool v9.2.2.2.1,.str v9.2.2.2.2.1],.int .i64 v9.2.2.2.2.2.1,.int .i64 v9.2.2.2.2.2.2]),lcRet [] [] 0)) else ((lim fun k => Q.dossierref05_find.f k b (ByteArray.mk #[60])).bind fun v10 => if decide (v10 < 0) = true then if 0 ≤ (↑b.length : Int) then if (↑b.length : Int) ≤ (↑b.length : Int) then ((lim fun k => Q.dossierref05_find.f k (List.take (↑b.length : Int).toNat b) (ByteArray.mk #[93,93,62])).bind fun v11 => if decide (v11 ≥ 0) = true then some (.ret (.tup [.agg [.int .i64 0,.str ⟨#[]⟩,.sl (Ty.str.pair Ty.str) [] .no,.bool false,.str ⟨#[]⟩],.int .i64 0,.int .i64 11]),lcRet [] [] 0) else if 0 ≤ (↑b.length : Int) then if (↑b.length : Int) ≤ (↑b.length : Int) then ((resX (List.take (↑b.length : Int).toNat b) false).bind fun v12 => if (v12.2.2 != 0) = true then some (.ret (.tup [.agg [.int .i64 0,.str ⟨#[]⟩,.sl (Ty.str.pair Ty.str) [] .no,.bool false,.str ⟨#[]⟩],.int .i64 0,.int .i64 v12.2.2]),lcRet [] [] 0) else some (.ret (.tup [.agg [.int .i64 3,.str ⟨#[]⟩,.sl (Ty.str.pair Ty.str) [] .no,.bool false,.str v12.1],.int .i64 (↑b.length : Int),.int .i64 0]),lcRet [] [] 0)) else none else none) else none else none else if 0 ≤ v10 then if v10 ≤ (↑b.length : Int) then ((lim fun k => Q.dossierref05_find.f k (List.take v10.toNat b) (ByteArray.mk #[93,93,62])).bind fun v13 => if decide (v13 ≥ 0) = true then some (.ret (.tup [.agg [.int .i64 0,.str ⟨#[]⟩,.sl (Ty.str.pair Ty.str) [] .no,.bool false,.str ⟨#[]⟩],.int .i64 0,.int .i64 11]),lcRet [] [] 0) else if 0 ≤ v10 then if v10 ≤ (↑b.length : Int) then ((resX (List.take v10.toNat b) false).bind fun v14 => if (v14.2.2 != 0) = true then some (.ret (.tup [.agg [.int .i64 0,.str ⟨#[]⟩,.sl (Ty.str.pair Ty.str) [] .no,.bool false,.str ⟨#[]⟩],.int .i64 0,.int .i64 v14.2.2]),lcRet [] [] 0) else some (.ret (.tup [.agg [.int .i64 3,.str ⟨#[]⟩,.sl (Ty.str.pair Ty.str) [] .no,.bool false,.str v14.1],.int .i64 v10,.int .i64 0]),lcRet [] [] 0)) else none else none) else none else none))))) := by kernel_rfl
theorem scan_closing.top (n : Nat) (l : List Int) (q : Int) : callX false (fnF cx_scan_closing noCalls n 35) ([.ptr 0 0]) (lcSt ([[.sl (.int .u8) l .no,.int .i64 q]]) 0) out = ((takeX l q (ByteArray.mk #[60,47])).bind fun v0 => ((nameX v0.2.1 v0.2.2).bind fun v1 => ((blanksX v1.2.1 v1.2.2).bind fun v2 => if seq v1.1 (ByteArray.mk #[]) = true then some (.ret (.agg [.int .i64 2,.str v1.1,.sl (Ty.str.pair Ty.str) [] .no,.bool false,.str ⟨#[]⟩]),lcRet ([[.sl (.int .u8) v2.2.1 .no,.int .i64 11]]) [] 0) else ((takeX v2.2.1 v2.2.2 (ByteArray.mk #[62])).bind fun v3 => if (if false = true then true else !v3.1) = true then some (.ret (.agg [.int .i64 2,.str v1.1,.sl (Ty.str.pair Ty.str) [] .no,.bool false,.str ⟨#[]⟩]),lcRet ([[.sl (.int .u8) v3.2.1 .no,.int .i64 11]]) [] 0) else some (.ret (.agg [.int .i64 2,.str v1.1,.sl (Ty.str.pair Ty.str) [] .no,.bool false,.str ⟨#[]⟩]),lcRet ([[.sl (.int .u8) v3.2.1 .no,.int .i64 v3.2.2]]) [] 0))))) := by kernel_rfl
theorem dossierref05_Next.top (n : Nat) (b : List Int) (p : Int) : callX false (fnF cx_dossierref05_Next noCalls n 8) ([.sl (.int .u8) b .no,.int .i64 p]) (lcSt [] 0) out = ((skipX b p).bind fun v0 => if (v0.2 != 0) = true then some (.ret (.tup [.agg [.int .i64 0,.str ⟨#[]⟩,.sl (Ty.str.pair Ty.str) [] .no,.bool false,.str ⟨#[]⟩],.int .i64 v0.1,.int .i64 v0.2]),lcRet [] [] 0) else if (v0.1 == (↑b.length : Int)) = true then some (.ret (.tup [.agg [.int .i64 0,.str ⟨#[]⟩,.sl (Ty.str.pair Ty.str) [] .no,.bool false,.str ⟨#[]⟩],.int .i64 v0.1,.int .i64 0]),lcRet [] [] 0) else if 0 ≤ v0.1 then if v0.1 ≤ (↑b.length : Int) then ((rtokX (List.drop v0.1.toNat b)).bind fun v1 => if (v1.2.2.2.2.2.2 != 0) = true then some (.ret (.tup [.agg [.int .i64 0,.str ⟨#[]⟩,.sl (Ty.str.pair Ty.str) [] .no,.bool false,.str ⟨#[]⟩],.int .i64 v0.1,.int .i64 v1.2.2.2.2.2.2]),lcRet [] [] 0) else some (.ret (.tup [.agg [.int .i64 v1.1,.str v1.2.1,.sl (Ty.str.pair Ty.str) v1.2.2.1 .no,.bool v1.2.2.2.1,.str v1.2.2.2.2.1],.int .i64 (i64.wrap (v0.1 + v1.2.2.2.2.2.1)),.int .i64 0]),lcRet [] [] 0)) else none else none) := by kernel_rfl
theorem scan_literal.top (n : Nat) (l : List Int) (q : Int) : callX false (fnF cx_scan_literal noCalls n 34) ([.ptr 0 0]) (lcSt ([[.sl (.int .u8) l .no,.int .i64 q]]) 0) out = ((takeX l q (ByteArray.mk #[60,33,91,67,68,65,84,65,91])).bind fun v0 => ((cutX v0.2.1 [(93 : Int),(93 : Int),(62 : Int)]).bind fun v1 => if (!v1.2.2) = true then ((linesX v1.1 false).bind fun v2 => some (.ret (.agg [.int .i64 3,.str ⟨#[]⟩,.sl (Ty.str.pair Ty.str) [] .no,.bool false,.str (ofBytes v2)]),lcRet ([[.sl (.int .u8) v1.2.1 .no,.int .i64 11]]) [] 0)) else ((linesX v1.1 false).bind fun v3 => some (.ret (.agg [.int .i64 3,.str ⟨#[]⟩,.sl (Ty.str.pair Ty.str) [] .no,.bool false,.str (ofBytes v3)]),lcRet ([[.sl (.int .u8) v1.2.1 .no,.int .i64 v0.2.2]]) [] 0)))) := by kernel_rfl
theorem scan_take.top (n : Nat) (t : ByteArray) (l : List Int) (q : Int) : callX false (fnF cx_scan_take noCalls n 58) ([.ptr 0 0,.str t]) (lcSt ([[.sl (.int .u8) l .no,.int .i64 q]]) 0) out = ((Q.bytes_CutPrefix.f l (toBytes t)).bind fun v0 => some (.ret (.bool v0.2),lcRet ([[.sl (.int .u8) v0.1 .no,.int .i64 q]]) [] 0)) := by kernel_rfl
theorem scan_text.top (n : Nat) (l : List Int) (q : Int) : callX false (fnF cx_scan_text noCalls n 37) ([.ptr 0 0]) (lcSt ([[.sl (.int .u8) l .no,.int .i64 q]]) 0) out = if decide (Lib.indexByte (Lib.bytesOf l) (Int.toNat (60 : Int)).toUInt8 < 0) = true then if 0 ≤ (↑l.length : Int) then if (↑l.length : Int) ≤ (↑l.length : Int) then if 0 ≤ (↑l.length : Int) then if (↑l.length : Int) ≤ (↑l.length : Int) then ((containsX (List.take (↑l.length : Int).toNat l) [(93 : Int),(93 : Int),(62 : Int)]).bind fun v0 => if v0 = true then some (.ret (.agg [.int .i64 3,.str ⟨#[]⟩,.sl (Ty.str.pair Ty.str) [] .no,.bool false,.str ⟨#[]⟩]),lcRet ([[.sl (.int .u8) (List.drop (↑l.length : Int).toNat l) .no,.int .i64 11]]) [] 0) else ((resX (List.take (↑l.length : Int).toNat l) false).bind fun v1 => some (.ret (.agg [.int .i64 3,.str ⟨#[]⟩,.sl (Ty.str.pair Ty.str) [] .no,.bool false,.str v1.1]),lcRet ([[.sl (.int .u8) (List.drop (↑l.length : Int).toNat l) .no,.int .i64 v1.2.2]]) [] 0))) else none else none else none else none else if 0 ≤ Lib.indexByte (Lib.bytesOf l) (Int.toNat (60 : Int)).toUInt8 then if Lib.indexByte (Lib.bytesOf l) (Int.toNat (60 : Int)).toUInt8 ≤ (↑l.length : Int) then if 0 ≤ Lib.indexByte (Lib.bytesOf l) (Int.toNat (60 : Int)).toUInt8 then if Lib.indexByte (Lib.bytesOf l) (Int.toNat (60 : Int)).toUInt8 ≤ (↑l.length : Int) then ((containsX (List.take (Lib.indexByte (Lib.bytesOf l) (Int.toNat (60 : Int)).toUInt8).toNat l) [(93 : Int),(93 : Int),(62 : Int)]).bind fun v2 => if v2 = true then some (.ret (.agg [.int .i64 3,.str ⟨#[]⟩,.sl (Ty.str.pair Ty.str) [] .no,.bool false,.str ⟨#[]⟩]),lcRet ([[.sl (.int .u8) (List.drop (Lib.indexByte (Lib.bytesOf l) (Int.toNat (60 : Int)).toUInt8).toNat l) .no,.int .i64 11]]) [] 0) else ((resX (List.take (Lib.indexByte (Lib.bytesOf l) (Int.toNat (60 : Int)).toUInt8).toNat l) false).bind fun v3 => some (.ret (.agg [.int .i64 3,.str ⟨#[]⟩,.sl (Ty.str.pair Ty.str) [] .no,.bool false,.str v3.1]),lcRet ([[.sl (.int .u8) (List.drop (Lib.indexByte (Lib.bytesOf l) (Int.toNat (60 : Int)).toUInt8).toNat l) .no,.int .i64 v3.2.2]]) [] 0))) else none else none else none else none := by kernel_rfl
end Go.Proofs.YtccfmfifnbnlmaaGreatDoor.Ev
end
