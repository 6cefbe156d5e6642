/- Several texts in one, in their order. -/
import Derived.Test.YtbcpnpbkbndkjaaGreatDoorBEvalHolds4
import Derived.Test.YtbcpnpbkbndkjaaGreatDoorBEvalHolds13
import GoSem.ClaimChange
import GoSem.ClaimOpen
import Derived.WideShapes
section
/- Arguments: what a statement says of the data that stand in memory makes them values of the evaluator. -/
set_option linter.unusedVariables false
set_option linter.unusedSimpArgs false
namespace Go.Proofs.YtbcpnpbkbndkjaaGreatDoor.Ev
open Go Go.WideShapes
section
variable {U : Nat → Type} {P : Program} {w : World} {H : Type} {enc : TypeId × Value → H}
def fldB (P : Program) (C : Codec U) (B : TypeId → Ty → Bool) : Nat → List Field → Ty → Bool
 | off,[f],ty => Nat.beq f.offset off && Nat.beq (P.cellsOf f.type) (width C ty) && B f.type ty
 | off,f :: r,.pair a b => Nat.beq f.offset off && Nat.beq (P.cellsOf f.type) (width C a) && B f.type a && fldB P C B (off + width C a) r b
 | _,_,_ => false
/-- Are a type's data of this shape? -/
def tyB (P : Program) (C : Codec U) (ut : Nat → TypeId) (M : Nat) : Nat → TypeId → Ty → Bool
 | 0,_,_ => false
 | n + 1,t,ty => match ty with
  | .user i => Nat.beq t (ut i) && Nat.blt i M
  | .bool => match P.underlying t with | some .bool => true | _ => false
  | .int k => match P.underlying t with | some (.int k') => decide (k' = k) | _ => false
  | .str => match P.underlying t with | some .string => true | _ => false
  | .sl e => match P.underlying t with | some (.slice u) => tyB P C ut M n u e && Nat.beq (P.cellsOf u) (width C e) && !Nat.beq (width C e) 0 | _ => false
  | .unit => false
  | .pair a b => match P.underlying t with | some (.struct fs) => fldB P C (tyB P C ut M n) 0 fs.toList (.pair a b) && Nat.beq (P.cellsOf t) (width C (.pair a b)) | _ => false
/-- The types of trees are of their shapes. -/
def usersB (P : Program) (s : Shape U) (ut : Nat → TypeId) (M n : Nat) : Nat → Bool
 | 0 => true
 | m + 1 => (match P.underlying (ut m) with | some (.struct fs) => fldB P (codecOf s) (tyB P (codecOf s) ut M n) 0 fs.toList (s.sh m) && Nat.beq (P.cellsOf (ut m)) (width (codecOf s) (s.sh m)) | _ => false) && usersB P s ut M n m
/-- What holds of data that are made of data of which it holds. -/
structure Fine (s : Shape U) (Q : (ty : Ty) → ty.den U → Prop) : Prop where
 bool : ∀ b,Q .bool b
 int : ∀ k n,(Lit.int k n).wf = true → Q (.int k) n
 str : ∀ b : ByteArray,b.size ≤ maxLen → Q .str b
 pair : ∀ a b (x : a.den U) (y : b.den U),Q a x → Q b y → Q (.pair a b) (x,y)
 sl : ∀ e (l : List (e.den U)),l.length ≤ maxLen → (∀ x ∈ l,Q e x) → Q (.sl e) l
 user : ∀ i (x : (s.sh i).den U),Q (s.sh i) x → Q (.user i) (s.of i x)
variable {s : Shape U} {ut : Nat → TypeId} {Q : (ty : Ty) → ty.den U → Prop}
theorem width_D0 : ∀ {t : Ty} (h : noUser t = true) (C : Codec U),width (D0 : Codec U) t = width C t
 | .unit,_,_ => rfl
 | .int _,_,_ => rfl
 | .bool,_,_ => rfl
 | .str,_,_ => rfl
 | .sl _,_,_ => rfl
 | .pair a b,h,C => by
  have h' : (noUser a && noUser b) = true := h
  rw [Bool.and_eq_true] at h'
  show width D0 a + width D0 b = width C a + width C b
  rw [width_D0 h'.1 C,width_D0 h'.2 C]
 | .user _,h,_ => by cases h
theorem usersB_at {M n m i : Nat} (h : usersB P s ut M n m = true) (hi : i < m) : ∃ fs,P.underlying (ut i) = some (.struct fs) ∧ fldB P (codecOf s) (tyB P (codecOf s) ut M n) 0 fs.toList (s.sh i) = true ∧ P.cellsOf (ut i) = width (codecOf s) (s.sh i) := by
 induction m with
 | zero => omega
 | succ m ih =>
  unfold usersB at h
  rw [Bool.and_eq_true] at h
  by_cases hm : i = m
  · subst hm
    have h1 := h.1
    split at h1
    · rename_i fs hu
      rw [Bool.and_eq_true] at h1
      exact ⟨fs,hu,h1.1,Nat.eq_of_beq_eq_true h1.2⟩
    · cases h1
  · exact ih h.2 (by omega)
theorem mapM_all {α β : Type} {f : α → Option β} : ∀ {l : List α} {r : List β},l.mapM f = some r → ∀ x ∈ l,∃ y,f x = some y
 | [],_,_,x,hx => by cases hx
 | a :: l,r,h,x,hx => by
  rw [List.mapM_cons] at h
  simp only [Option.bind_eq_bind,Option.pure_def] at h
  obtain ⟨y,h1,h2⟩ := Option.bind_eq_some_iff.1 h
  obtain ⟨ys,h3,h4⟩ := Option.bind_eq_some_iff.1 h2
  rcases List.mem_cons.1 hx with rfl | hx
  · exact ⟨y,h1⟩
  · exact mapM_all h3 x hx
theorem mapM_nth {α β : Type} {f : α → Option β} : ∀ {l : List α} {r : List β},l.mapM f = some r → r.length = l.length ∧ ∀ (i : Nat) (v : β),r[i]? = some v → ∃ x,l[i]? = some x ∧ f x = some v
 | [],r,h => by
  rw [List.mapM_nil] at h
  obtain rfl : [] = r := Option.some.inj h
  exact ⟨rfl,fun i v hv => by simp at hv⟩
 | a :: l,r,h => by
  rw [List.mapM_cons] at h
  simp only [Option.bind_eq_bind,Option.pure_def] at h
  obtain ⟨y,h1,h2⟩ := Option.bind_eq_some_iff.1 h
  obtain ⟨ys,h3,h4⟩ := Option.bind_eq_some_iff.1 h2
  obtain rfl := Option.some.inj h4
  obtain ⟨e1,e2⟩ := mapM_nth h3
  refine ⟨by simp [e1],fun i v hv => ?_⟩
  cases i with
  | zero => exact ⟨a,rfl,by simpa [h1] using hv⟩
  | succ i => exact e2 i v (by simpa using hv)
theorem fld_flat {B : TypeId → Ty → Bool} {T : TypeId → List Value → Option (DataW H × List MemPlace)}
 (hQ : Fine s Q) (IH : ∀ t ty cs x,B t ty = true → cs.length = width (codecOf s) ty → T t cs = some x → ∃ v : ty.den U,RelVs (codecOf s) (g0 w) (flat (codecOf s) ty v) cs ∧ Q ty v) (cs : List Value) :
 ∀ (fs : List Field) (off : Nat) (ty : Ty) (xs : List (DataW H × List MemPlace)),fldB P (codecOf s) B off fs ty = true → (fs.mapM fun f => T f.type ((cs.drop f.offset).take (P.cellsOf f.type))) = some xs → off + width (codecOf s) ty ≤ cs.length →
  ∃ v : ty.den U,RelVs (codecOf s) (g0 w) (flat (codecOf s) ty v) ((cs.drop off).take (width (codecOf s) ty)) ∧ Q ty v
 | [],off,ty,xs,h,_,_ => by cases ty <;> cases h
 | [f],off,ty,xs,h,hm,hl => by
  have h' : (Nat.beq f.offset off && Nat.beq (P.cellsOf f.type) (width (codecOf s) ty) && B f.type ty) = true := by cases ty <;> exact h
  simp only [Bool.and_eq_true] at h'
  obtain ⟨y,hy⟩ := mapM_all hm f (by simp)
  rw [Nat.eq_of_beq_eq_true h'.1.1,Nat.eq_of_beq_eq_true h'.1.2] at hy
  exact IH f.type ty _ y h'.2 (by rw [List.length_take,List.length_drop]; omega) hy
 | f :: f2 :: r,off,ty,xs,h,hm,hl => by
  cases ty with
  | pair a b =>
   have h' : (Nat.beq f.offset off && Nat.beq (P.cellsOf f.type) (width (codecOf s) a) && B f.type a && fldB P (codecOf s) B (off + width (codecOf s) a) (f2 :: r) b) = true := h
   simp only [Bool.and_eq_true] at h'
   obtain ⟨⟨⟨h1,h2⟩,h3⟩,h4⟩ := h'
   have hw : width (codecOf s) (.pair a b) = width (codecOf s) a + width (codecOf s) b := rfl
   rw [hw] at hl ⊢
   rw [List.mapM_cons] at hm
   simp only [Option.bind_eq_bind,Option.pure_def] at hm
   obtain ⟨y,e1,e2⟩ := Option.bind_eq_some_iff.1 hm
   obtain ⟨ys,e3,e4⟩ := Option.bind_eq_some_iff.1 e2
   rw [Nat.eq_of_beq_eq_true h1,Nat.eq_of_beq_eq_true h2] at e1
   obtain ⟨v,hv,hq⟩ := IH f.type a _ y h3 (by rw [List.length_take,List.length_drop]; omega) e1
   obtain ⟨v2,hv2,hq2⟩ := fld_flat hQ IH cs (f2 :: r) (off + width (codecOf s) a) b ys h4 e3 (by omega)
   refine ⟨(v,v2),?_,hQ.pair a b v v2 hq hq2⟩
   have e5 : (cs.drop off).take (width (codecOf s) a + width (codecOf s) b) = (cs.drop off).take (width (codecOf s) a) ++ ((cs.drop (off + width (codecOf s) a)).take (width (codecOf s) b)) := by
    rw [List.take_add,List.drop_drop]
   rw [e5]
   exact RelVs.append hv hv2
  | _ => cases h
theorem cells_list {a : Addr} {n : Nat} {cs : List Value} (h : w.cells? 0 a n = some cs) : cs.length = n ∧ ∀ j v,cs[j]? = some v → w.cell? (a.add j) = some v := by
 unfold World.cells? at h
 rw [if_pos (Nat.zero_le _)] at h
 obtain ⟨h1,h2⟩ := mapM_nth h
 rw [List.length_range] at h1
 refine ⟨h1,fun j v hv => ?_⟩
 obtain ⟨x,hx,hf⟩ := h2 j v hv
 have hj : j < n := by rw [← h1]; exact (List.getElem?_eq_some_iff.1 hv).1
 rw [List.getElem?_range hj] at hx
 obtain rfl := Option.some.inj hx
 exact hf
theorem cell_spot {a : Addr} {v : Value} (h : w.cell? a = some v) : a.spot = none := by
 unfold World.cell? at h
 split at h
 · split at h
   · cases h
   · rename_i q; simpa using q
 · cases h
theorem addr_add2 {blk off i j : Nat} : ((⟨blk,off,none⟩ : Addr).add i).add j = ⟨blk,off + i + j,none⟩ := by
 rw [addr_add,addr_add]
/-- Elements one behind the other. -/
theorem elems_flat {e : Ty} {blk off sz : Nat} : ∀ (n : Nat),(∀ i,i < n → ∃ cs v,w.cells? 0 ((⟨blk,off,none⟩ : Addr).add (i * sz)) sz = some cs ∧ RelVs (codecOf s) (g0 w) (flat (codecOf s) e v) cs ∧ Q e v) →
 ∃ (l : List (e.den U)) (vs : List Value),l.length = n ∧ RelVs (codecOf s) (g0 w) (cellsAll (codecOf s) e l) vs ∧ vs.length = n * sz ∧ Imm (g0 w) blk off vs ∧ ∀ x ∈ l,Q e x
 | 0,_ => ⟨[],[],rfl,.nil,by simp,fun j v hv => by simp at hv,fun x hx => by cases hx⟩
 | n + 1,h => by
  obtain ⟨l,vs,h1,h2,h3,h4,h5⟩ := elems_flat n fun i hi => h i (by omega)
  obtain ⟨cs,v,g1,g2,g3⟩ := h n (by omega)
  obtain ⟨k1,k2⟩ := cells_list g1
  refine ⟨l ++ [v],vs ++ cs,by simp [h1],?_,by rw [List.length_append,h3,k1,Nat.add_mul,Nat.one_mul],fun j u hu => ?_,fun x hx => ?_⟩
  · unfold cellsAll at h2 ⊢
    rw [List.flatMap_append,List.flatMap_cons,List.flatMap_nil,List.append_nil]
    exact RelVs.append h2 g2
  · by_cases hj : j < vs.length
    · rw [List.getElem?_append_left hj] at hu
      exact h4 j u hu
    · rw [List.getElem?_append_right (by omega)] at hu
      have := k2 _ u hu
      rw [addr_add2] at this
      rw [g0_imm]
      rw [show off + j = off + n * sz + (j - vs.length) from by omega]
      exact this
  · rcases List.mem_append.1 hx with hx | hx
    · exact h5 x hx
    · rw [List.mem_singleton.1 hx]; exact g3
theorem trod_flat (hQ : Fine s Q) {N M : Nat} (hU : usersB P s ut M N M = true) : ∀ (fuel n : Nat) (t : TypeId) (ty : Ty) (cs : List Value) (x : DataW H × List MemPlace),
 tyB P (codecOf s) ut M n t ty = true → cs.length = width (codecOf s) ty → DataW.trod enc P w 0 (fun _ => true) true fuel t cs = some x → ∃ v : ty.den U,RelVs (codecOf s) (g0 w) (flat (codecOf s) ty v) cs ∧ Q ty v
 | 0,_,_,_,_,_,_,_,h => by cases h
 | fuel + 1,0,_,_,_,_,hB,_,_ => by cases hB
 | fuel + 1,n + 1,t,ty,cs,x,hB,hl,h => by
  unfold DataW.trod at h
  have struct : ∀ (fs : Array Field) (ty' : Ty) (m : Nat),P.underlying t = some (.struct fs) → fldB P (codecOf s) (tyB P (codecOf s) ut M m) 0 fs.toList ty' = true → P.cellsOf t = width (codecOf s) ty' → cs.length = width (codecOf s) ty' → ∃ v : ty'.den U,RelVs (codecOf s) (g0 w) (flat (codecOf s) ty' v) cs ∧ Q ty' v := by
   intro fs ty' m hu hf hc hl'
   rw [hu] at h
   have h' : (if cs.length = P.cellsOf t then (fs.toList.mapM fun f => DataW.trod enc P w 0 (fun _ => true) true fuel f.type ((cs.drop f.offset).take (P.cellsOf f.type))).map fun xs => (DataW.agg (xs.map (·.1)),xs.flatMap (·.2)) else none) = some x := by
    revert h
    match cs with
    | [] => exact id
    | [c] => cases c <;> exact id
    | c :: c2 :: r => exact id
   rw [if_pos (by rw [hl',hc])] at h'
   obtain ⟨xs,h1,_⟩ := Option.map_eq_some_iff.1 h'
   obtain ⟨v,hv,hq⟩ := fld_flat (P := P) (T := fun t cs => DataW.trod enc P w 0 (fun _ => true) true fuel t cs) hQ (fun t ty cs x hb hl hx => trod_flat hQ hU fuel m t ty cs x hb hl hx) cs fs.toList 0 ty' xs hf h1 (by omega)
   rw [List.drop_zero,← hl',List.take_length] at hv
   exact ⟨v,hv,hq⟩
  unfold tyB at hB
  cases ty with
  | unit => cases hB
  | bool =>
   dsimp only at hB
   split at hB
   · rename_i hu
     rw [hu] at h
     match cs,hl with
     | [c],hl => cases c <;> first | (cases h; done) | exact ⟨_,.cons (.bool _) .nil,hQ.bool _⟩
   · cases hB
  | int k =>
   dsimp only at hB
   split at hB
   · rename_i k' hu
     obtain rfl := of_decide_eq_true hB
     rw [hu] at h
     match cs,hl with
     | [c],hl =>
      cases c <;> first | (cases h; done) | skip
      rename_i k2 n2
      dsimp only at h
      split at h
      · rename_i hk
        obtain ⟨rfl,hwf⟩ := hk
        exact ⟨n2,.cons (.int _ _) .nil,hQ.int _ _ hwf⟩
      · cases h
   · cases hB
  | str =>
   dsimp only at hB
   split at hB
   · rename_i hu
     rw [hu] at h
     match cs,hl with
     | [c],hl =>
      cases c <;> first | (cases h; done) | skip
      rename_i b
      dsimp only at h
      split at h
      · rename_i hb
        exact ⟨b,.cons (.str _) .nil,hQ.str _ hb⟩
      · cases h
   · cases hB
  | pair a b =>
   dsimp only at hB
   split at hB
   · rename_i fs hu
     rw [Bool.and_eq_true] at hB
     exact struct fs (.pair a b) n hu hB.1 (Nat.eq_of_beq_eq_true hB.2) hl
   · cases hB
  | user i =>
   dsimp only at hB
   rw [Bool.and_eq_true] at hB
   have ht : t = ut i := Nat.eq_of_beq_eq_true hB.1
   have hi : i < M := Nat.lt_of_lt_of_le (Nat.lt_succ_self _) (Nat.le_of_ble_eq_true hB.2)
   obtain ⟨fs,hu,hf,hc⟩ := usersB_at hU hi
   rw [← ht] at hu hc
   have hw : width (codecOf s) (.user i) = width (codecOf s) (s.sh i) := by
    show width D0 (s.sh i) = _
    exact width_D0 (s.top i) _
   rw [hw] at hl
   obtain ⟨v,hv,hq⟩ := struct fs (s.sh i) N hu hf hc hl
   refine ⟨s.of i v,?_,hQ.user i v hq⟩
   show RelVs _ _ (flat D0 (s.sh i) (s.to i (s.of i v))) cs
   rw [s.to_of,flat_D0 (s.top i)]
   exact hv
  | sl e =>
   dsimp only at hB
   split at hB
   · rename_i u hu
     simp only [Bool.and_eq_true,Bool.not_eq_true'] at hB
     obtain ⟨⟨hB1,hB2⟩,hB3⟩ := hB
     have hsz := Nat.eq_of_beq_eq_true hB2
     have hz : width (codecOf s) e ≠ 0 := fun q => by rw [q] at hB3; cases hB3
     rw [hu] at h
     match cs,hl with
     | [c],hl =>
      cases c <;> first | (cases h; done) | skip
      rename_i ao len cap
      cases ao with
      | none =>
       cases len <;> cases cap <;> first | (cases h; done) | skip
       exact ⟨[],.cons (.sl0 rfl) .nil,hQ.sl e [] (Nat.zero_le _) (fun x hx => by cases hx)⟩
      | some a =>
       dsimp only at h
       split at h
       · rename_i hc
         obtain ⟨es,h1,h2⟩ := Option.bind_eq_some_iff.1 h
         obtain ⟨rs,h3,h4⟩ := Option.map_eq_some_iff.1 h2
         simp only [if_true] at h3
         by_cases hcap : cap = 0
         · subst hcap
           obtain rfl : len = 0 := by omega
           exact ⟨[],.cons (.sle rfl) .nil,hQ.sl e [] (Nat.zero_le _) (fun x hx => by cases hx)⟩
         · -- there is a cell,so the address is a plain one
           have hspot : a.spot = none := by
            have : ∃ y,((w.cells? 0 (a.add (0 * P.cellsOf u)) (P.cellsOf u)).bind (DataW.trod enc P w 0 (fun _ => true) true fuel u)) = some y := by
             by_cases hlen : len = 0
             · subst hlen
               obtain ⟨y,hy⟩ := mapM_all h3 0 (by rw [List.mem_range]; omega)
               exact ⟨y,by simpa using hy⟩
             · exact mapM_all h1 0 (by rw [List.mem_range]; omega)
            obtain ⟨y,hy⟩ := this
            obtain ⟨c0,hc0,_⟩ := Option.bind_eq_some_iff.1 hy
            obtain ⟨k1,k2⟩ := cells_list hc0
            have hlt : 0 < c0.length := by rw [k1,hsz]; omega
            have := cell_spot (k2 0 _ (List.getElem?_eq_getElem hlt))
            simpa [Addr.add] using this
           obtain ⟨blk,off,spot⟩ := a
           obtain rfl : spot = none := hspot
           obtain ⟨l,vs,g1,g2,g3,g4,g5⟩ := elems_flat (s := s) (Q := Q) (w := w) (e := e) (blk := blk) (off := off) (sz := P.cellsOf u) len (fun i hi => by
            obtain ⟨y,hy⟩ := mapM_all h1 i (by rw [List.mem_range]; exact hi)
            obtain ⟨c0,hc0,hy⟩ := Option.bind_eq_some_iff.1 hy
            obtain ⟨k1,k2⟩ := cells_list hc0
            obtain ⟨v,hv,hq⟩ := trod_flat hQ hU fuel n u e c0 y hB1 (by rw [k1,hsz]) hy
            exact ⟨c0,v,hc0,hv,hq⟩)
           subst g1
           exact ⟨l,.cons (.sl g2 g4 hc.2.1 trivial) .nil,hQ.sl e l (by omega) g5⟩
       · cases h
   · cases hB
/-- The value that data are. -/
def aval (C : Codec U) : (ty : Ty) → ty.den U → AVal U
 | .int k,n => .int k n
 | .bool,b => .bool b
 | .str,b => .str b
 | .sl e,l => .sl e l .no
 | .unit,x => .agg []
 | .pair a b,x => .agg (flat C (.pair a b) x)
 | .user i,x => .agg (C.flat i x)
/-- An argument as the statement says it is a value of the evaluator. -/
theorem arg_rel (hQ : Fine s Q) {N M n b0 : Nat} (hU : usersB P s ut M N M = true) {t : TypeId} {ty : Ty} {v : Value} {d : DataW H} {ps : List MemPlace} (hB : tyB P (codecOf s) ut M n t ty = true)
 (hok : Value.okWide P w .any b0 t v) (h : DataW.Trod enc P w 0 (fun _ => true) true t v d ps) : ∃ x : ty.den U,RelV (codecOf s) (g0 w) (aval (codecOf s) ty x) v ∧ Q ty x := by
 obtain ⟨fuel,hf⟩ := h
 have key : v.cells.toList.length = width (codecOf s) ty → ∃ x : ty.den U,RelVs (codecOf s) (g0 w) (flat (codecOf s) ty x) v.cells.toList ∧ Q ty x := fun hl => trod_flat hQ hU fuel n t ty _ _ hB hl hf
 have agg : ∀ fs,P.underlying t = some (.struct fs) → P.cellsOf t = width (codecOf s) ty → (∀ x,aval (codecOf s) ty x = .agg (flat (codecOf s) ty x)) → ∃ x : ty.den U,RelV (codecOf s) (g0 w) (aval (codecOf s) ty x) v ∧ Q ty x := by
  intro fs hu hc ha
  have hok' := hok
  unfold Value.okWide at hok'
  rw [hu] at hok'
  obtain ⟨cs,rfl,hcs,_⟩ := hok'
  obtain ⟨x,hx,hq⟩ := key (by show cs.toList.length = _; rw [Array.length_toList,hcs,hc])
  refine ⟨x,?_,hq⟩
  rw [ha]
  have := RelV.agg hx
  exact this
 cases n with
 | zero => cases hB
 | succ n =>
  have hB0 := hB
  unfold tyB at hB
  cases ty with
  | unit => cases hB
  | bool =>
   dsimp only at hB
   split at hB
   · rename_i hu
     obtain ⟨b,rfl⟩ := okWide_bool hu hok
     obtain ⟨x,hx,hq⟩ := key rfl
     cases hx with
     | cons h1 h2 => exact ⟨x,h1,hq⟩
   · cases hB
  | int k =>
   dsimp only at hB
   split at hB
   · rename_i k' hu
     obtain ⟨b,rfl⟩ := okWide_int hu hok
     obtain ⟨x,hx,hq⟩ := key rfl
     cases hx with
     | cons h1 h2 => exact ⟨x,h1,hq⟩
   · cases hB
  | str =>
   dsimp only at hB
   split at hB
   · rename_i hu
     obtain ⟨b,rfl⟩ := okWide_string hu hok
     obtain ⟨x,hx,hq⟩ := key rfl
     cases hx with
     | cons h1 h2 => exact ⟨x,h1,hq⟩
   · cases hB
  | sl e =>
   dsimp only at hB
   split at hB
   · rename_i u hu
     obtain ⟨a,len,cap,rfl⟩ := okWide_slice hu hok
     obtain ⟨x,hx,hq⟩ := key rfl
     cases hx with
     | cons h1 h2 => exact ⟨x,h1,hq⟩
   · cases hB
  | pair a b =>
   dsimp only at hB
   split at hB
   · rename_i fs hu
     rw [Bool.and_eq_true] at hB
     exact agg fs hu (Nat.eq_of_beq_eq_true hB.2) (fun x => rfl)
   · cases hB
  | user i =>
   dsimp only at hB
   rw [Bool.and_eq_true] at hB
   have ht : t = ut i := Nat.eq_of_beq_eq_true hB.1
   have hi : i < M := Nat.lt_of_lt_of_le (Nat.lt_succ_self _) (Nat.le_of_ble_eq_true hB.2)
   obtain ⟨fs,hu,hf2,hc⟩ := usersB_at hU hi
   rw [← ht] at hu hc
   refine agg fs hu ?_ (fun x => rfl)
   rw [hc]
   show _ = width D0 (s.sh i)
   exact (width_D0 (s.top i) _).symm
end
end Go.Proofs.YtbcpnpbkbndkjaaGreatDoor.Ev
end
section
/- EvalHolds, as a call from any memory, on what the arguments are. -/
set_option linter.unusedVariables false
namespace Go.Proofs.YtbcpnpbkbndkjaaGreatDoor.Ev
open Go Go.RowKit Go.Proofs.YtbcpnpbkbndkjaaGreatDoorW.PrintWords
/-- Lists as long as lists can be, numbers of 64 bits. -/
def QF : (ty : Ty) → ty.den U0 → Prop
 | .sl e,l => l.length ≤ maxLen ∧ ∀ x ∈ l,QF e x
 | .pair a b,x => QF a x.1 ∧ QF b x.2
 | .int .i64,z => Does.In64 z
 | _,_ => True
theorem fineQ : Fine shapes QF where
 bool _ := trivial
 int k z h := by
  cases k <;> first | trivial | skip
  simp [Lit.wf,IntKind.min,IntKind.max,IntKind.signed,IntKind.bits] at h
  show Does.In64 z
  unfold Does.In64
  omega
 str _ _ := trivial
 pair _ _ _ _ h1 h2 := ⟨h1,h2⟩
 sl _ _ h1 h2 := ⟨h1,h2⟩
 user i x h := trivial
theorem law_of {f : FuncId} {spec : Spec} {args : List (AVal U0)} {st' : St U0} {w : World} (hs : CallOkL Tryz.prog C0 f spec) (h : spec args (lcSt [] 0) out = some (.ret (.bool true),st')) (hA : Assumed w) (cs : List Value) (ha : RelVs C0 (g0 w) args cs) :
 Calls Tryz.prog f cs.toArray w fun e w' => e = .returned (.bool true) ∧ RowKit.Below w.heap.size w w' :=
 (hs args [] 0 out _ h _ w (g0 w) w cs ha (srel0 hA 0)).mono fun e w' ⟨res,st',g',h1,h2,h3,h4,h5⟩ => by
  refine ⟨?_,below_of' h3⟩
  obtain ⟨rfl,_⟩ := Prod.mk.inj (Option.some.inj h1)
  cases h5 with
  | ret hv => cases hv; rfl
abbrev caseT : Ty := .pair (.int .i64) (.pair .str (.pair (.sl insT) (.pair (.sl docT) (.int .i64))))
theorem EvalHolds_calls (s : ByteArray) {v1 : Value} {c : caseT.den U0} {w : World} (r1 : RelV C0 (g0 w) (aval C0 caseT c) v1) (q1 : QF caseT c) (hA : Assumed w) :
 Calls Tryz.prog 4 #[.string s,v1] w fun e w' => e = .returned (.bool true) ∧ RowKit.Below w.heap.size w w' := by
 obtain ⟨c0,c1,c2,c3,c4⟩ := c
 refine law_of (spec := law_Holds.spec) (args := [.str s,.agg [.int .i64 c0,.str c1,.sl insT c2 .no,.sl docT c3 .no,.int .i64 c4]]) (st' := lcRet [] [] 0) (law_Holds.ok _ (List.mem_cons_self ..)).2 ?_ hA [.string s,v1] (.cons (.str _) (.cons r1 .nil))
 unfold law_Holds.spec
 dsimp only [lcSt]
 show Option.bind (lawH s c2 c3) _ = _
 have q2 : c2.length ≤ maxLen := q1.2.2.1.1
 have q3 : c3.length ≤ maxLen := q1.2.2.2.1.1
 rw [lawH_true (Nat.le_trans q2 (by decide)) (Nat.le_trans q3 (by decide)) (fun d hd => (q1.2.2.2.1.2 d hd).2.1.2.1) s]
 rfl
end Go.Proofs.YtbcpnpbkbndkjaaGreatDoor.Ev
end
