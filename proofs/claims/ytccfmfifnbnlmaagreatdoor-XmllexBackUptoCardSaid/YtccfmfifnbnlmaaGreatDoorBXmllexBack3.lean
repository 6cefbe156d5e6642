/- Several texts in one, in their order. -/
import Derived.Test.YtccfmfifnbnlmaaGreatDoorBXmllexBack2
section
/- Boxes that are put out of sight while an operation runs. -/
set_option linter.unusedVariables false
set_option linter.unusedSimpArgs false
namespace Go.Proofs.YtccfmfifnbnlmaaGreatDoor.Ev
open Go
section
variable {U : Nat → Type} {C : Codec U} {P : Program} {g g' : Gh} {w w' w0 : World} {R : Type} {S : Nat → Nat → Bool} {st st' : St U}
def hidAt (w : World) (H : List Nat) (blk o k : Nat) : Option Value :=
 match hasTok k H,w.cell? ⟨blk,o,none⟩,w.frozen? ⟨blk,o,none⟩ with
 | true,some v,false => some v
 | _,_,_ => none
def Gh.hide (g : Gh) (w : World) (H : List Nat) : Gh :=
 { g with own := fun blk o => match g.own blk o with
    | .box k => match hidAt w H blk o k with
     | some v => .hid v
     | none => .box k
    | x => x }
def Gh.unhide (g' g : Gh) (w : World) (H : List Nat) : Gh :=
 { g' with own := fun blk o => match g.own blk o with
    | .box k => match hidAt w H blk o k with
     | some _ => .box k
     | none => g'.own blk o
    | _ => g'.own blk o }
theorem hidAt_some {H : List Nat} {b o k : Nat} {v : Value} (h : hidAt w H b o k = some v) : hasTok k H = true ∧ w.cell? ⟨b,o,none⟩ = some v ∧ w.frozen? ⟨b,o,none⟩ = false := by
 unfold hidAt at h
 split at h
 · rename_i h1 h2 h3; obtain rfl := Option.some.inj h; exact ⟨h1,h2,h3⟩
 · cases h
theorem hidAt_of {H : List Nat} {b o k : Nat} {v : Value} (h1 : hasTok k H = true) (h2 : w.cell? ⟨b,o,none⟩ = some v) (h3 : w.frozen? ⟨b,o,none⟩ = false) : hidAt w H b o k = some v := by
 unfold hidAt
 rw [h1,h2,h3]
theorem nth_hide : ∀ (H : List Nat) (bx : List (List (AVal U))) (b : Nat) (cs : List (AVal U)),nth (hideBox H bx) b = some cs → (hasTok b H = true ∧ cs = []) ∨ (hasTok b H = false ∧ nth bx b = some cs)
 | [],bx,b,cs,h => .inr ⟨rfl,h⟩
 | a :: r,bx,b,cs,h => by
  unfold hideBox at h
  rcases nth_hide r _ b cs h with ⟨h1,h2⟩ | ⟨h1,h2⟩
  · exact .inl ⟨hasTok_cons.2 (.inr h1),h2⟩
  · rw [nth_set] at h2
    by_cases e : a = b
    · rw [if_pos e] at h2
      refine .inl ⟨hasTok_cons.2 (.inl e.symm),?_⟩
      cases hx : nth bx b with
      | none => rw [hx] at h2; cases h2
      | some c => rw [hx] at h2; exact (Option.some.inj h2).symm
    · rw [if_neg e] at h2
      refine .inr ⟨?_,h2⟩
      cases e2 : hasTok b (a :: r) with
      | false => rfl
      | true =>
       rcases hasTok_cons.1 e2 with q | q
       · exact absurd q.symm e
       · rw [h1] at q; cases q
theorem hideBox_length : ∀ (H : List Nat) (bx : List (List (AVal U))),(hideBox H bx).length = bx.length
 | [],_ => rfl
 | a :: r,bx => by unfold hideBox; rw [hideBox_length r]; simp
theorem show_nth {orig : List (List (AVal U))} : ∀ (H : List Nat) (bx bx' : List (List (AVal U))),showBox orig H bx = some bx' →
 (∀ b,hasTok b H = true → nth bx' b = nth orig b ∧ (nth orig b).isSome = true) ∧ (∀ b,hasTok b H = false → nth bx' b = nth bx b) ∧ bx'.length = bx.length
 | [],bx,bx',h => by obtain rfl := Option.some.inj h; exact ⟨fun b h => (by cases h),fun _ _ => rfl,rfl⟩
 | a :: r,bx,bx',h => by
  unfold showBox at h
  split at h
  · rename_i cs h1 h2
    obtain ⟨h3,h4,h5⟩ := show_nth r _ _ h
    refine ⟨fun b hb => ?_,fun b hb => ?_,by rw [h5]; simp⟩
    · cases e : hasTok b r with
      | true => exact h3 b e
      | false =>
       have hba : b = a := (hasTok_cons.1 hb).resolve_right (by rw [e]; simp)
       subst hba
       refine ⟨?_,by rw [h1]; rfl⟩
       rw [h4 b e,nth_set,if_pos rfl,h2,h1]
       try rfl
    · have e1 : hasTok b r = false := by
       cases e : hasTok b r with
       | false => rfl
       | true => rw [hasTok_cons.2 (.inr e)] at hb; cases hb
      have e2 : a ≠ b := fun q => by rw [hasTok_cons.2 (.inl q.symm)] at hb; cases hb
      rw [h4 b e1,nth_set,if_neg e2]
  · cases h
theorem hide_of {b o : Nat} {H : List Nat} {x : Own} (h : (g.hide w H).own b o = x) :
 (∃ k v,g.own b o = .box k ∧ hidAt w H b o k = some v ∧ x = .hid v) ∨ (g.own b o = x ∧ ∀ k v,g.own b o = .box k → hidAt w H b o k = some v → False) := by
 have h' : (match g.own b o with
  | .box k => match hidAt w H b o k with
   | some v => Own.hid v
   | none => .box k
  | x => x) = x := h
 cases e : g.own b o with
 | box k =>
  rw [e] at h'
  dsimp only at h'
  cases e3 : hidAt w H b o k with
  | none => rw [e3] at h'; exact .inr ⟨h',fun k' v q q3 => by cases q; rw [e3] at q3; cases q3⟩
  | some v => rw [e3] at h'; exact .inl ⟨k,v,rfl,e3,h'.symm⟩
 | _ => rw [e] at h'; exact .inr ⟨h',fun k v q => by cases q⟩
theorem hide_box {b o k : Nat} {H : List Nat} {v : Value} (h1 : g.own b o = .box k) (h2 : hidAt w H b o k = some v) : (g.hide w H).own b o = .hid v := by
 show (match g.own b o with
  | .box k => match hidAt w H b o k with
   | some v => Own.hid v
   | none => .box k
  | x => x) = _
 rw [h1]
 dsimp only
 rw [h2]
theorem hide_other {b o : Nat} {H : List Nat} (h : ∀ k v,g.own b o = .box k → hidAt w H b o k = some v → False) : (g.hide w H).own b o = g.own b o := by
 rcases hide_of (g := g) (w := w) (b := b) (o := o) (H := H) rfl with ⟨k,v,h1,h2,_⟩ | ⟨h1,_⟩
 · exact (h k v h1 h2).elim
 · exact h1.symm
theorem unhide_of {b o : Nat} {H : List Nat} :
 (∃ k v,g.own b o = .box k ∧ hidAt w H b o k = some v ∧ (g'.unhide g w H).own b o = .box k) ∨
 ((g'.unhide g w H).own b o = g'.own b o ∧ ∀ k v,g.own b o = .box k → hidAt w H b o k = some v → False) := by
 have h' : (g'.unhide g w H).own b o = (match g.own b o with
  | .box k => match hidAt w H b o k with
   | some _ => .box k
   | none => g'.own b o
  | _ => g'.own b o) := rfl
 cases e : g.own b o with
 | box k =>
  rw [e] at h'
  dsimp only at h'
  cases e3 : hidAt w H b o k with
  | none => rw [e3] at h'; exact .inr ⟨h',fun k' v q q3 => by cases q; rw [e3] at q3; cases q3⟩
  | some v => rw [e3] at h'; exact .inl ⟨k,v,rfl,e3,h'⟩
 | _ => rw [e] at h'; exact .inr ⟨h',fun k v q => by cases q⟩
theorem le_hide (H : List Nat) : Le g (g.hide w H) :=
 ⟨fun b o v h => by rw [hide_other (fun k v' q => by rw [h] at q; cases q)]; exact h,fun _ _ h => h,fun _ _ h => h,
  fun b o v h => by rw [hide_other (fun k v' q => by rw [h] at q; cases q)]; exact h,rfl⟩
theorem SRel.hide (hS : SRel C S w0 st g w) (H : List Nat) : SRel C S w0 { st with box := hideBox H st.box } (g.hide w H) w := by
 refine ⟨⟨fun b o v h => ?_,fun b cs blk base hb hβ => ?_,fun i hi blk e c hτ o h1 h2 => ?_,fun b o hb => ?_,hS.h.size,hS.h.os,hS.h.tape,hS.h.output,hS.h.old,fun b o i h hb => ?_,fun b o i h hb => ?_,
  fun b o v h1 h2 h3 => ?_,fun b o v h => ?_,hS.h.lo,fun b o hr => by
   rcases hide_of (g := g) (w := w) (b := b) (o := o) (H := H) rfl with ⟨k,u,h1,_,_⟩ | ⟨q,_⟩
   · exact hS.h.fz b o (by rw [h1]; rfl)
   · exact hS.h.fz b o (by rw [q]; exact hr)⟩,fun b => by show g.β b = none ↔ (hideBox H st.box).length ≤ b; rw [hideBox_length]; exact hS.tb b,hS.tt,hS.uniq,hS.lt⟩
 · rcases hide_of h with ⟨k,u,_,_,q⟩ | ⟨q,_⟩
   · cases q
   · exact hS.h.imm b o v q
 · rcases nth_hide H _ b cs hb with ⟨h1,rfl⟩ | ⟨h1,h2⟩
   · exact ⟨[],.nil,fun j v hv => by cases hv⟩
   · obtain ⟨vs,h3,h4⟩ := hS.h.box b cs blk base h2 hβ
     refine ⟨vs,RelVs.mono (le_hide H) h3,fun j v hv => ?_⟩
     obtain ⟨h5,h6⟩ := h4 j v hv
     refine ⟨?_,h6⟩
     rw [hide_other (fun k v' q q2 => by rw [h5] at q; cases q; rw [(hidAt_some q2).1] at h1; cases h1)]
     exact h5
 · obtain ⟨h3,h4⟩ := hS.h.live i hi blk e c hτ o h1 h2
   exact ⟨by rw [hide_other (fun k v' q => by rw [h3] at q; cases q)]; exact h3,h4⟩
 · have := hS.h.fresh b o hb
   rw [hide_other (fun k v' q => by rw [this] at q; cases q)]; exact this
 · rcases hide_of h with ⟨k,u,_,_,q⟩ | ⟨q,_⟩
   · cases q
   · exact hS.h.wbox b o i q hb
 · rcases hide_of h with ⟨k,u,_,_,q⟩ | ⟨q,_⟩
   · cases q
   · exact hS.h.wspare b o i q hb
 · have := hS.h.snap b o v h1 h2 h3
   rw [hide_other (fun k v' q => by rw [this] at q; cases q)]; exact this
 · rcases hide_of h with ⟨k,u,h1,h2,q⟩ | ⟨q,_⟩
   · cases q
     exact (hidAt_some h2).2
   · exact hS.h.hid b o v q
theorem le_unhide (H : List Nat) (hle : Le (g.hide w H) g') : Le g (g'.unhide g w H) ∧ LeV g' (g'.unhide g w H) := by
 refine ⟨⟨fun b o v h => ?_,fun b x h => hle.β b x h,fun i s h => hle.τ i s h,fun b o v h => ?_,hle.lo⟩,⟨fun b o v h => ?_,fun _ _ h => h,fun _ _ h => h,rfl⟩⟩
 · rcases unhide_of (g := g) (g' := g') (w := w) (b := b) (o := o) (H := H) with ⟨k,v',h1,_⟩ | ⟨h1,_⟩
   · rw [h] at h1; cases h1
   · rw [h1]; exact hle.imm b o v ((le_hide H).imm b o v h)
 · rcases unhide_of (g := g) (g' := g') (w := w) (b := b) (o := o) (H := H) with ⟨k,v',h1,_⟩ | ⟨h1,_⟩
   · rw [h] at h1; cases h1
   · rw [h1]; exact hle.hid b o v ((le_hide H).hid b o v h)
 · rcases unhide_of (g := g) (g' := g') (w := w) (b := b) (o := o) (H := H) with ⟨k,v',h1,h2,_⟩ | ⟨h1,_⟩
   · rw [hle.hid b o v' (hide_box h1 h2)] at h; cases h
   · rw [h1]; exact h
theorem SRel.unhide (hS : SRel C S w0 st g w) (H : List Nat) (hS' : SRel C S w0 st' g' w') (hle : Le (g.hide w H) g') {bx : List (List (AVal U))} (hb : showBox st.box H st'.box = some bx) :
 SRel C S w0 { st' with box := bx } (g'.unhide g w H) w' := by
 obtain ⟨hl,hv⟩ := le_unhide H hle
 obtain ⟨s1,s2,s3⟩ := show_nth H _ _ hb
 -- what is not put back
 have keep : ∀ b o x,g'.own b o = x → (∀ v,x ≠ .hid v) → (g'.unhide g w H).own b o = x := by
  intro b o x hx hn
  rcases unhide_of (g := g) (g' := g') (w := w) (b := b) (o := o) (H := H) with ⟨k,v',h1,h2,_⟩ | ⟨h1,_⟩
  · exact absurd (hx.symm.trans (hle.hid b o v' (hide_box h1 h2))) (hn v')
  · rw [h1,hx]
 refine ⟨⟨fun b o v h => ?_,fun b cs blk base hb hβ => ?_,fun i hi blk e c hτ o h1 h2 => ?_,fun b o hb => ?_,hS'.h.size,hS'.h.os,hS'.h.tape,hS'.h.output,hS'.h.old,fun b o i h hb => ?_,fun b o i h hb => ?_,
  fun b o v h1 h2 h3 => ?_,fun b o v h => ?_,hS'.h.lo,fun b o hr => by
   rcases unhide_of (g := g) (g' := g') (w := w) (b := b) (o := o) (H := H) with ⟨k,v',h1,h2,h3⟩ | ⟨h1,_⟩
   · exact hS'.h.fz b o (by rw [hle.hid _ _ _ (hide_box h1 h2)]; rfl)
   · exact hS'.h.fz b o (by rw [← h1]; exact hr)⟩,fun b => by show g'.β b = none ↔ bx.length ≤ b; rw [s3]; exact hS'.tb b,hS'.tt,hS'.uniq,hS'.lt⟩
 · rcases unhide_of (g := g) (g' := g') (w := w) (b := b) (o := o) (H := H) with ⟨k,v',h1,h2,h3⟩ | ⟨h1,_⟩
   · rw [h3] at h; cases h
   · exact hS'.h.imm b o v (h1.symm.trans h)
 · cases e : hasTok b H with
   | true =>
    obtain ⟨q1,q2⟩ := s1 b e
    have hcs : nth st.box b = some cs := q1.symm.trans hb
    cases hgβ : g.β b with
    | none =>
     have h1 := (hS.tb b).1 hgβ
     have : nth st.box b = none := by rw [nth_get,List.getElem?_eq_none h1]
     rw [this] at hcs; cases hcs
    | some x =>
     obtain ⟨blk',base'⟩ := x
     have hx := hle.β b _ hgβ
     have hβ' : g'.β b = some (blk,base) := hβ
     rw [hβ'] at hx
     obtain ⟨rfl,rfl⟩ := Prod.mk.inj (Option.some.inj hx)
     obtain ⟨vs,h3,h4⟩ := hS.h.box b cs blk base hcs hgβ
     refine ⟨vs,RelVs.mono hl h3,fun j v hv => ?_⟩
     obtain ⟨h5,h6,h7⟩ := h4 j v hv
     have hh := hidAt_of e h6 h7
     have h8 := hS'.h.hid _ _ _ (hle.hid _ _ _ (hide_box h5 hh))
     refine ⟨?_,h8⟩
     rcases unhide_of (g := g) (g' := g') (w := w) (b := blk) (o := base + j) (H := H) with ⟨k,v',h1,h2,h3⟩ | ⟨h1,h2⟩
     · rw [h5] at h1; cases h1; exact h3
     · exact (h2 _ _ h5 hh).elim
   | false =>
    have q1 := s2 b e
    obtain ⟨vs,h3,h4⟩ := hS'.h.box b cs blk base (q1.symm.trans hb) hβ
    refine ⟨vs,RelVs.monoV hv h3,fun j v hv => ?_⟩
    obtain ⟨h5,h6⟩ := h4 j v hv
    exact ⟨keep _ _ _ h5 (fun v q => by cases q),h6⟩
 · obtain ⟨h3,h4⟩ := hS'.h.live i hi blk e c hτ o h1 h2
   exact ⟨keep _ _ _ h3 (fun v q => by cases q),h4⟩
 · exact keep _ _ _ (hS'.h.fresh b o hb) (fun v q => by cases q)
 · rcases unhide_of (g := g) (g' := g') (w := w) (b := b) (o := o) (H := H) with ⟨k,v',h1,h2,h3⟩ | ⟨h1,_⟩
   · rw [h3] at h; cases h; exact hS.h.wbox b o i h1 hb
   · exact hS'.h.wbox b o i (h1.symm.trans h) hb
 · rcases unhide_of (g := g) (g' := g') (w := w) (b := b) (o := o) (H := H) with ⟨k,v',h1,h2,h3⟩ | ⟨h1,_⟩
   · rw [h3] at h; cases h
   · exact hS'.h.wspare b o i (h1.symm.trans h) hb
 · exact keep _ _ _ (hS'.h.snap b o v h1 h2 h3) (fun v q => by cases q)
 · rcases unhide_of (g := g) (g' := g') (w := w) (b := b) (o := o) (H := H) with ⟨k,v',h1,h2,h3⟩ | ⟨h1,_⟩
   · rw [h3] at h; cases h
   · exact hS'.h.hid b o v (h1.symm.trans h)
end
end Go.Proofs.YtccfmfifnbnlmaaGreatDoor.Ev
end
section
/- Operations that leave the evaluator's memory alone: what they come to hangs on what they look at. -/
set_option linter.unusedVariables false
set_option linter.unusedSimpArgs false
namespace Go.Proofs.YtccfmfifnbnlmaaGreatDoor.Ev
open Go
section
variable {U : Nat → Type} {R : Type} {st st1 : St U} {cx : Cx U R}
theorem val_env (h : st1.env = st.env) (x : Operand) : val st1 x = val st x := by
 cases x <;> simp only [val,h]
theorem vals_env (h : st1.env = st.env) : ∀ l : List Operand,vals st1 l = vals st l
 | [] => rfl
 | x :: r => by unfold vals; rw [val_env h,vals_env h r]
theorem partVals_env (h : st1.env = st.env) : ∀ l : List (Nat × Operand),partVals st1 l = partVals st l
 | [] => rfl
 | (i,x) :: r => by unfold partVals; rw [val_env h,partVals_env h r]
section
variable {A B : Type}
theorem binInt_nat {op : Go.BinOp} {k : IntKind} {x y : Int} {K : AVal U → Option A} {r : A} (h : binInt op k x y K = some r) : ∃ v,K v = some r ∧ ∀ (K' : AVal U → Option B),binInt op k x y K' = K' v := by
 unfold binInt at h ⊢
 cases op <;> simp only at h <;> first | (cases h; done) | exact ⟨_,h,fun _ => rfl⟩ | (split at h <;> first | (cases h; done) | (rename_i q; exact ⟨_,h,fun _ => if_neg q⟩))
theorem shift_nat {op : Go.BinOp} {k : IntKind} {x y : Int} {K : AVal U → Option A} {r : A} (h : shift op k x y K = some r) : ∃ v,K v = some r ∧ ∀ (K' : AVal U → Option B),shift op k x y K' = K' v := by
 unfold shift at h ⊢
 split at h
 · cases h
 · rename_i q
   simp only [if_neg q]
   cases op <;> simp only at h <;> first | (cases h; done) | exact ⟨_,h,fun _ => rfl⟩
theorem binStr_nat {op : Go.BinOp} {x y : ByteArray} {K : AVal U → Option A} {r : A} (h : binStr op x y K = some r) : ∃ v,K v = some r ∧ ∀ (K' : AVal U → Option B),binStr op x y K' = K' v := by
 unfold binStr at h ⊢
 cases op <;> simp only at h <;> first | (cases h; done) | exact ⟨_,h,fun _ => rfl⟩ | (split at h <;> first | (cases h; done) | (rename_i q; exact ⟨_,h,fun _ => if_pos q⟩))
theorem binOp_nat {cx : Cx U A} {op : Go.BinOp} {t : TypeId} {c : Bool} {x y : AVal U} {K : AVal U → Option A} {r : A} (h : binOp cx op t c x y K = some r) :
 ∃ v,K v = some r ∧ ∀ (K' : AVal U → Option A),binOp cx op t c x y K' = K' v := by
 unfold binOp at h ⊢
 split at h
 · exact shift_nat h
 · exact shift_nat h
 · rename_i op k a k' b h1 h2
   split at h
   · rename_i q
     subst q
     obtain ⟨v,h3,h4⟩ := binInt_nat (B := A) h
     exact ⟨v,h3,fun K' => by simp [h4]⟩
   · cases h
 · exact binStr_nat h
 · obtain ⟨b,h1,h2⟩ := bind2 h
   exact ⟨_,h2,fun K' => by simp [h1]⟩
 · obtain ⟨b,h1,h2⟩ := bind2 h
   exact ⟨_,h2,fun K' => by simp [h1]⟩
 · cases h
theorem pick_nat {t : Bool} {x y : AVal U} {K : AVal U → Option A} {r : A} (h : pick t x y K = some r) : ∃ v,K v = some r ∧ ∀ (K' : AVal U → Option A),pick t x y K' = K' v := by
 unfold pick at h ⊢
 split at h
 · split at h
   · rename_i q; exact ⟨_,h,fun K' => by simp [q]⟩
   · cases h
 · exact ⟨_,h,fun _ => rfl⟩
 · exact ⟨_,h,fun _ => rfl⟩
 · split at h
   · rename_i q; exact ⟨_,h,fun K' => by simp [q]⟩
   · rename_i q; exact ⟨_,h,fun K' => by simp [q]⟩
theorem cases_nat {K : Nat → Option A} {r : A} : ∀ {n : Nat} {i : Int},cases n i K = some r → ∃ m,K m = some r ∧ ∀ (K' : Nat → Option A),cases n i K' = K' m
 | 0,i,h => by cases h
 | m + 1,i,h => by
  unfold cases at h
  split at h
  · rename_i q; exact ⟨m,h,fun K' => by unfold cases; rw [if_pos q]⟩
  · rename_i q
    obtain ⟨m',h1,h2⟩ := cases_nat h
    exact ⟨m',h1,fun K' => by unfold cases; rw [if_neg q]; exact h2 K'⟩
theorem indexAddr_nat {cx : Cx U A} {t : TypeId} {x y : AVal U} {K : AVal U → Option A} {r : A} (h : indexAddr cx t x y K = some r) : ∃ v,K v = some r ∧ ∀ (K' : AVal U → Option A),indexAddr cx t x y K' = K' v := by
 unfold indexAddr at h ⊢
 split at h
 · split at h
   · obtain ⟨l,h1,h⟩ := bind2 h
     split at h
     · rename_i q
       obtain ⟨e,h2,h⟩ := bind2 h
       exact ⟨_,h,fun K' => by simp [h1,h2,q]⟩
     · cases h
   · cases h
 · split at h
   · obtain ⟨z,h1,h⟩ := bind2 h
     obtain ⟨m,h2,h3⟩ := cases_nat h
     exact ⟨_,h2,fun K' => by simp [h1,h3]⟩
   · cases h
 · split at h
   · obtain ⟨z,h1,h⟩ := bind2 h
     obtain ⟨m,h2,h3⟩ := cases_nat h
     exact ⟨_,h2,fun K' => by simp [h1,h3]⟩
   · cases h
 · cases h
theorem index_nat {cx : Cx U A} {t : TypeId} {x y : AVal U} {K : AVal U → Option A} {r : A} (h : index cx t x y K = some r) : ∃ v,K v = some r ∧ ∀ (K' : AVal U → Option A),index cx t x y K' = K' v := by
 unfold index at h ⊢
 split at h
 · split at h
   · split at h
     · rename_i q
       split at h
       · rename_i q2
         exact ⟨_,h,fun K' => by simp [q,q2]⟩
       · cases h
     · cases h
   · cases h
 · split at h
   · obtain ⟨z,h1,h⟩ := bind2 h
     obtain ⟨m,h2,h3⟩ := cases_nat h
     obtain ⟨v,h4,h5⟩ := bind2 h2
     exact ⟨_,h5,fun K' => by simp [h1,h3,h4]⟩
   · cases h
 · cases h
theorem sliceOp_nat {cx : Cx U A} {t : TypeId} {x : AVal U} {lo hi mx : Option (AVal U)} {st : St U} {K : AVal U → St U → Option A} {r : A} (hr : (match (cx.TT t).k with | .arr _ _ _ => false | _ => true) = true) (h : sliceOp cx t x lo hi mx st K = some r) :
 ∃ v,K v st = some r ∧ ∀ st' (K' : AVal U → St U → Option A),sliceOp cx t x lo hi mx st' K' = K' v st' := by
 unfold sliceOp at h ⊢
 split at h
 · split at h
   · split at h
     · exact ⟨_,h,fun _ _ => rfl⟩
     · (repeat' split at h) <;> first | (cases h; done) | (rename_i q1 q2; exact ⟨_,h,fun _ _ => by simp [q1,q2]⟩)
     · (repeat' split at h) <;> first | (cases h; done) | (rename_i q1 q2; exact ⟨_,h,fun _ _ => by simp [q1,q2]⟩)
     · (repeat' split at h) <;> first | (cases h; done) | (rename_i q1 q2 q3; exact ⟨_,h,fun _ _ => by simp [q1,q2,q3]⟩)
     · cases h
   · cases h
 · split at h
   · obtain ⟨l,h1,h⟩ := bind2 h
     split at h
     · exact ⟨_,h,fun _ _ => by simp [h1]⟩
     · (repeat' split at h) <;> first | (cases h; done) | (rename_i q1 q2; exact ⟨_,h,fun _ _ => by simp [h1,q1,q2]⟩)
     · (repeat' split at h) <;> first | (cases h; done) | (rename_i q1 q2; exact ⟨_,h,fun _ _ => by simp [h1,q1,q2]⟩)
     · (repeat' split at h) <;> first | (cases h; done) | (rename_i q1 q2 q3; exact ⟨_,h,fun _ _ => by simp [h1,q1,q2,q3]⟩)
     · cases h
   · cases h
 · split at h
   · rename_i q; rw [q] at hr; cases hr
   · cases h
 · cases h
theorem convert_nat {cx : Cx U A} {s d : TypeId} {x : AVal U} {st : St U} {K : AVal U → St U → Option A} {r : A} (hd : (match (cx.TT d).k with | .sl _ _ => false | _ => true) = true) (h : convert cx s d x st K = some r) :
 ∃ v,K v st = some r ∧ ∀ st' (K' : AVal U → St U → Option A),convert cx s d x st' K' = K' v st' := by
 unfold convert at h ⊢
 split at h
 · exact ⟨_,h,fun _ _ => rfl⟩
 · exact ⟨_,h,fun _ _ => rfl⟩
 · obtain ⟨l,h1,h⟩ := bind2 h
   exact ⟨_,h,fun _ _ => by simp [h1]⟩
 · rename_i q1 q2 q3
   rw [q2] at hd
   cases hd
 · rename_i q1 q2
   rw [q1] at hd
   cases hd
 · cases h
theorem builtin_nat {cx : Cx U A} {b : Builtin} (hb : (match b with | .len | .min | .max => true | _ => false) = true) {ts : List TypeId} {args : List (AVal U)} {st : St U} {K : AVal U → St U → Option A} {r : A} (h : builtin cx b ts args st K = some r) :
 ∃ v,K v st = some r ∧ ∀ st' (K' : AVal U → St U → Option A),builtin cx b ts args st' K' = K' v st' := by
 unfold builtin at h ⊢
 split at h
 · obtain ⟨n,h1,h⟩ := bind2 h
   exact ⟨_,h,fun _ _ => by simp [h1]⟩
 · cases hb
 · split at h
   · rename_i q; exact ⟨_,h,fun _ _ => by simp [q]⟩
   · cases h
 · split at h
   · rename_i q; exact ⟨_,h,fun _ _ => by simp [q]⟩
   · cases h
 · cases h
end
theorem rd_nat {o : Oper} {v : AVal U} {s : St U} (hr : reads cx o.op = true) (h : rdOp cx o st = some (v,s)) :
 s = st ∧ ∀ st1 : St U,st1.env = st.env → (∀ t x b off,o.op = .load t x → val st x = some (.ptr b off) → nth st1.box b = nth st.box b) → rdOp cx o st1 = some (v,st1) := by
 unfold rdOp exOp at h ⊢
 obtain ⟨dst,op,type,pos,after,guard⟩ := o
 cases op <;> simp only [reads] at hr <;> try (cases hr; done)
 all_goals dsimp only at h ⊢
 case move x => obtain ⟨u,h1,h⟩ := bind2 h; cases h; exact ⟨rfl,fun st1 he _ => by rw [val_env he,h1]; rfl⟩
 case assign x => obtain ⟨u,h1,h⟩ := bind2 h; cases h; exact ⟨rfl,fun st1 he _ => by rw [val_env he,h1]; rfl⟩
 case pick c x y =>
  obtain ⟨vc,h1,h⟩ := bind2 h
  obtain ⟨vx,h2,h⟩ := bind2 h
  obtain ⟨vy,h3,h⟩ := bind2 h
  cases vc <;> try (cases h; done)
  dsimp only at h
  obtain ⟨u,h4,h5⟩ := pick_nat h
  cases h4
  exact ⟨rfl,fun st1 he _ => by have := h5 (fun v => some (v,st1)); rw [val_env he,val_env he,val_env he,h1,h2,h3]; exact this⟩
 case build t ps =>
  split at h
  · rename_i q
    obtain ⟨l,h1,h⟩ := bind2 h
    obtain ⟨cs,h2,h⟩ := bind2 h
    cases h
    exact ⟨rfl,fun st1 he _ => by simp [partVals_env he,h1,h2,q]⟩
  · cases h
 case buildSlice t n ps =>
  obtain ⟨l,h1,h⟩ := bind2 h
  split at h
  · rename_i q
    split at h
    · rename_i q2
      obtain ⟨cs,h2,h⟩ := bind2 h
      obtain ⟨z,h3,h⟩ := bind2 h
      cases h
      exact ⟨rfl,fun st1 he _ => by simp [partVals_env he,h1,h2,h3,q,q2]⟩
    · cases h
  · cases h
 case load t x =>
  obtain ⟨p,h1,h⟩ := bind2 h
  obtain ⟨cs,h2,h⟩ := bind2 h
  obtain ⟨u,h3,h⟩ := bind2 h
  cases h
  refine ⟨rfl,fun st1 he hb => ?_⟩
  have ha : at? st1 p = at? st p := by
   cases p <;> try rfl
   rename_i b off
   have := hb t x b off rfl h1
   show (nth st1.box b).bind _ = (nth st.box b).bind _
   rw [this]
  simp [val_env he,h1,ha,h2,h3]
 case nilCheck x =>
  obtain ⟨u,h1,h⟩ := bind2 h
  cases u <;> first | (cases h; done) | (cases h; exact ⟨rfl,fun st1 he _ => by rw [val_env he,h1]; rfl⟩)
 case binOp op t x y yt =>
  obtain ⟨u,h1,h⟩ := bind2 h
  obtain ⟨z,h2,h⟩ := bind2 h
  obtain ⟨q,h4,h5⟩ := binOp_nat h
  cases h4
  exact ⟨rfl,fun st1 he _ => by have := h5 (fun v => some (v,st1)); rw [val_env he,val_env he,h1,h2]; exact this⟩
 case unOp op t x =>
  obtain ⟨u,h1,h⟩ := bind2 h
  obtain ⟨z,h2,h⟩ := bind2 h
  cases h
  exact ⟨rfl,fun st1 he _ => by simp [val_env he,h1,h2]⟩
 case convert s d x =>
  obtain ⟨u,h1,h⟩ := bind2 h
  obtain ⟨z,h2,h3⟩ := convert_nat (cx := cxV cx) hr h
  cases h2
  exact ⟨rfl,fun st1 he _ => by have := h3 st1 (fun v s => some (v,s)); rw [val_env he,h1]; exact this⟩
 case makeInterface t x =>
  obtain ⟨u,h1,h⟩ := bind2 h
  split at h
  · cases h
  · rename_i k q
    split at h
    · rename_i q2
      cases h
      exact ⟨rfl,fun st1 he _ => by simp [val_env he,h1] <;> (split <;> simp_all)⟩
    · cases h
 case makeFunc f first caps =>
  split at h
  · rename_i q
    obtain ⟨l,h1,h⟩ := bind2 h
    cases h
    exact ⟨rfl,fun st1 he _ => by rw [vals_env he,h1]; rfl⟩
  · cases h
 case slice t x lo hi mx =>
  obtain ⟨u,h1,h⟩ := bind2 h
  have ev : ∀ {st1 : St U},st1.env = st.env → val st1 = val st := fun he => funext (val_env he)
  split at h
  all_goals first
   | (cases h; done)
   | (rename_i q1 q2 q3
      obtain ⟨z,h2,h3⟩ := sliceOp_nat (cx := cxV cx) hr h
      cases h2
      exact ⟨rfl,fun st1 he _ => by have := h3 st1 (fun v s => some (v,s)); rw [ev he,h1]; simp [q1,q2,q3,this]⟩)
 case fieldAddr t x f =>
  obtain ⟨p,h1,h⟩ := bind2 h
  split at h
  · rename_i fs q
    obtain ⟨fo,h2,h⟩ := bind2 h
    split at h
    · rename_i q2
      cases p <;> first | (cases h; done) | (cases h; exact ⟨rfl,fun st1 he _ => by simp [val_env he,h1,h2,q,q2]⟩)
    · cases h
  · cases h
 case field t x f =>
  obtain ⟨u,h1,h⟩ := bind2 h
  split at h
  · rename_i fs cs q
    obtain ⟨fo,h2,h⟩ := bind2 h
    obtain ⟨z,h3,h⟩ := bind2 h
    cases h
    exact ⟨rfl,fun st1 he _ => by simp [val_env he,h1,h2,h3,q]⟩
  · cases h
 case indexAddr t x i =>
  obtain ⟨u,h1,h⟩ := bind2 h
  obtain ⟨z,h2,h⟩ := bind2 h
  obtain ⟨q,h4,h5⟩ := indexAddr_nat h
  cases h4
  exact ⟨rfl,fun st1 he _ => by have := h5 (fun v => some (v,st1)); rw [val_env he,val_env he,h1,h2]; exact this⟩
 case index t x i =>
  obtain ⟨u,h1,h⟩ := bind2 h
  obtain ⟨z,h2,h⟩ := bind2 h
  obtain ⟨q,h4,h5⟩ := index_nat h
  cases h4
  exact ⟨rfl,fun st1 he _ => by have := h5 (fun v => some (v,st1)); rw [val_env he,val_env he,h1,h2]; exact this⟩
 case extract x i =>
  obtain ⟨u,h1,h⟩ := bind2 h
  cases u <;> try (cases h; done)
  dsimp only at h
  obtain ⟨z,h2,h⟩ := bind2 h
  cases h
  exact ⟨rfl,fun st1 he _ => by simp [val_env he,h1,h2]⟩
 case call c =>
  obtain ⟨args,h1,h⟩ := bind2 h
  cases hc : c.callee with
  | builtin b =>
   rw [hc] at hr h
   dsimp only at hr h
   obtain ⟨z,h2,h3⟩ := builtin_nat hr h
   cases h2
   exact ⟨rfl,fun st1 he _ => by have := h3 st1 (fun v s => some (v,s)); rw [vals_env he,h1]; exact this⟩
  | value f => rw [hc] at hr; cases hr
  | invoke f m => rw [hc] at hr; cases hr
/-! ### what is read is read alike, whatever follows -/
section
variable {K : AVal U → Option R} {r : R}
theorem binEq_V {t : TypeId} {c : Bool} {x y : AVal U} : binEq (cxV cx) t c x y = binEq cx t c x y := rfl
theorem elemSize_V {t : TypeId} : elemSize (cxV cx) t = elemSize cx t := rfl
theorem loadAt_V {t : TypeId} {cs : List (AVal U)} : loadAt (cxV cx) t cs = loadAt cx t cs := rfl
theorem TT_V : (cxV cx).TT = cx.TT := rfl
theorem C_V : (cxV cx).C = cx.C := rfl
theorem binOp_V {op : Go.BinOp} {t : TypeId} {c : Bool} {x y : AVal U} (h : binOp cx op t c x y K = some r) : ∃ v,K v = some r ∧ binOp (cxV cx) op t c x y (fun v => some (v,st)) = some (v,st) := by
 unfold binOp at h ⊢
 split at h
 · obtain ⟨v,h1,h2⟩ := shift_nat (B := AVal U × St U) h; exact ⟨v,h1,h2 _⟩
 · obtain ⟨v,h1,h2⟩ := shift_nat (B := AVal U × St U) h; exact ⟨v,h1,h2 _⟩
 · rename_i op k a k' b h1 h2
   split at h
   · rename_i q
     subst q
     obtain ⟨v,h3,h4⟩ := binInt_nat (B := AVal U × St U) h
     exact ⟨v,h3,by simp [h4]⟩
   · cases h
 · obtain ⟨v,h1,h2⟩ := binStr_nat (B := AVal U × St U) h; exact ⟨v,h1,h2 _⟩
 · obtain ⟨b,h1,h2⟩ := bind2 h
   exact ⟨_,h2,by simp [binEq_V,h1]⟩
 · obtain ⟨b,h1,h2⟩ := bind2 h
   exact ⟨_,h2,by simp [binEq_V,h1]⟩
 · cases h
theorem pick_V {t : Bool} {x y : AVal U} (h : pick t x y K = some r) : ∃ v,K v = some r ∧ pick t x y (fun v => some (v,st)) = some (v,st) := by
 unfold pick at h ⊢
 split at h
 · split at h
   · rename_i q; exact ⟨_,h,by simp [q]⟩
   · cases h
 · exact ⟨_,h,rfl⟩
 · exact ⟨_,h,rfl⟩
 · split at h
   · rename_i q; exact ⟨_,h,by simp [q]⟩
   · rename_i q; exact ⟨_,h,by simp [q]⟩
theorem cases_V {K : Nat → Option R} : ∀ {n : Nat} {i : Int},cases n i K = some r → ∃ m,K m = some r ∧ ∀ (K' : Nat → Option (AVal U × St U)),cases n i K' = K' m
 | 0,i,h => by cases h
 | m + 1,i,h => by
  unfold cases at h
  split at h
  · rename_i q; exact ⟨m,h,fun K' => by unfold cases; rw [if_pos q]⟩
  · rename_i q
    obtain ⟨m',h1,h2⟩ := cases_V h
    exact ⟨m',h1,fun K' => by unfold cases; rw [if_neg q]; exact h2 K'⟩
theorem indexAddr_V {t : TypeId} {x y : AVal U} (h : indexAddr cx t x y K = some r) : ∃ v,K v = some r ∧ indexAddr (cxV cx) t x y (fun v => some (v,st)) = some (v,st) := by
 unfold indexAddr at h ⊢
 rw [TT_V,C_V]
 split at h
 · split at h
   · rename_i q0
     obtain ⟨l,h1,h⟩ := bind2 h
     split at h
     · rename_i q
       obtain ⟨e,h2,h⟩ := bind2 h
       exact ⟨_,h,by simp [q0,h1,h2,q]⟩
     · cases h
   · cases h
 · split at h
   · rename_i q0
     obtain ⟨z,h1,h⟩ := bind2 h
     obtain ⟨m,h2,h3⟩ := cases_V (U := U) h
     exact ⟨_,h2,by simp [q0,elemSize_V,h1,h3]⟩
   · cases h
 · split at h
   · rename_i q0
     obtain ⟨z,h1,h⟩ := bind2 h
     obtain ⟨m,h2,h3⟩ := cases_V (U := U) h
     exact ⟨_,h2,by simp [q0,elemSize_V,h1,h3]⟩
   · cases h
 · cases h
theorem index_V {t : TypeId} {x y : AVal U} (h : index cx t x y K = some r) : ∃ v,K v = some r ∧ index (cxV cx) t x y (fun v => some (v,st)) = some (v,st) := by
 unfold index at h ⊢
 rw [TT_V]
 split at h
 · split at h
   · rename_i q0
     split at h
     · rename_i q
       split at h
       · rename_i q2
         exact ⟨_,h,by simp [q0,q,q2]⟩
       · cases h
     · cases h
   · cases h
 · split at h
   · rename_i q0
     obtain ⟨z,h1,h⟩ := bind2 h
     obtain ⟨m,h2,h3⟩ := cases_V (U := U) h
     obtain ⟨v,h4,h5⟩ := bind2 h2
     exact ⟨_,h5,by simp [q0,elemSize_V,loadAt_V,h1,h3,h4]⟩
   · cases h
 · cases h
theorem sliceOp_V {t : TypeId} {x : AVal U} {lo hi mx : Option (AVal U)} {K : AVal U → St U → Option R} (hr : (match (cx.TT t).k with | .arr _ _ _ => false | _ => true) = true) (h : sliceOp cx t x lo hi mx st K = some r) :
 ∃ v,K v st = some r ∧ sliceOp (cxV cx) t x lo hi mx st (fun v s => some (v,s)) = some (v,st) := by
 unfold sliceOp at h ⊢
 rw [TT_V]
 split at h
 · split at h
   · rename_i q0
     split at h
     · exact ⟨_,h,by simp [q0, *]⟩
     · (repeat' split at h) <;> first | (cases h; done) | (rename_i q1 q2; exact ⟨_,h,by simp [q0,q1,q2, *]⟩)
     · (repeat' split at h) <;> first | (cases h; done) | (rename_i q1 q2; exact ⟨_,h,by simp [q0,q1,q2, *]⟩)
     · (repeat' split at h) <;> first | (cases h; done) | (rename_i q1 q2 q3; exact ⟨_,h,by simp [q0,q1,q2,q3, *]⟩)
     · cases h
   · cases h
 · split at h
   · rename_i q0
     obtain ⟨l,h1,h⟩ := bind2 h
     split at h
     · exact ⟨_,h,by simp [q0,h1, *]⟩
     · (repeat' split at h) <;> first | (cases h; done) | (rename_i q1 q2; exact ⟨_,h,by simp [q0,h1,q1,q2, *]⟩)
     · (repeat' split at h) <;> first | (cases h; done) | (rename_i q1 q2; exact ⟨_,h,by simp [q0,h1,q1,q2, *]⟩)
     · (repeat' split at h) <;> first | (cases h; done) | (rename_i q1 q2 q3; exact ⟨_,h,by simp [q0,h1,q1,q2,q3, *]⟩)
     · cases h
   · cases h
 · split at h
   · rename_i q; rw [q] at hr; cases hr
   · cases h
 · cases h
theorem convert_V {s d : TypeId} {x : AVal U} {K : AVal U → St U → Option R} (hd : (match (cx.TT d).k with | .sl _ _ => false | _ => true) = true) (h : convert cx s d x st K = some r) :
 ∃ v,K v st = some r ∧ convert (cxV cx) s d x st (fun v s => some (v,s)) = some (v,st) := by
 unfold convert at h ⊢
 rw [TT_V]
 split at h
 · rename_i q1 q2 q3; exact ⟨_,h,by simp [q1,q2,q3]⟩
 · rename_i q1 q2 q3; exact ⟨_,h,by simp [q1,q2,q3]⟩
 · rename_i q1 q2 q3
   obtain ⟨l,h1,h⟩ := bind2 h
   exact ⟨_,h,by simp [q1,q2,q3,h1]⟩
 · rename_i q1 q2 q3
   rw [q2] at hd
   cases hd
 · rename_i q1 q2
   rw [q1] at hd
   cases hd
 · cases h
theorem builtin_V {b : Builtin} (hb : (match b with | .len | .min | .max => true | _ => false) = true) {ts : List TypeId} {args : List (AVal U)} {K : AVal U → St U → Option R} (h : builtin cx b ts args st K = some r) :
 ∃ v,K v st = some r ∧ builtin (cxV cx) b ts args st (fun v s => some (v,s)) = some (v,st) := by
 unfold builtin at h ⊢
 split at h
 · obtain ⟨n,h1,h⟩ := bind2 h
   exact ⟨_,h,by simp [show ∀ t x,lenOf (cxV cx) t x = lenOf cx t x from fun _ _ => rfl,h1]⟩
 · cases hb
 · split at h
   · rename_i q; exact ⟨_,h,by simp [q]⟩
   · cases h
 · split at h
   · rename_i q; exact ⟨_,h,by simp [q]⟩
   · cases h
 · cases h
end
theorem rd_V {callR : FuncId → List (AVal U) → St U → (Res U → St U → Option R) → Option R} {o : Oper} {K : AVal U → St U → Option R} {KP : AVal U → St U → Option R} {r : R} (hr : reads cx o.op = true) (h : exOp cx callR o st K KP = some r) :
 ∃ v,K v st = some r ∧ rdOp cx o st = some (v,st) := by
 unfold rdOp
 unfold exOp at h ⊢
 obtain ⟨dst,op,type,pos,after,guard⟩ := o
 cases op <;> simp only [reads] at hr <;> try (cases hr; done)
 all_goals dsimp only at h ⊢
 case move x => obtain ⟨u,h1,h⟩ := bind2 h; exact ⟨_,h,by rw [h1]; rfl⟩
 case assign x => obtain ⟨u,h1,h⟩ := bind2 h; exact ⟨_,h,by rw [h1]; rfl⟩
 case pick c x y =>
  obtain ⟨vc,h1,h⟩ := bind2 h
  obtain ⟨vx,h2,h⟩ := bind2 h
  obtain ⟨vy,h3,h⟩ := bind2 h
  cases vc <;> try (cases h; done)
  dsimp only at h
  obtain ⟨u,h4,h5⟩ := pick_V (st := st) h
  exact ⟨_,h4,by rw [h1,h2,h3]; exact h5⟩
 case build t ps =>
  split at h
  · rename_i q
    obtain ⟨l,h1,h⟩ := bind2 h
    obtain ⟨cs,h2,h⟩ := bind2 h
    exact ⟨_,h,by simp [show canBuild (cxV cx) t = canBuild cx t from rfl,show places (cxV cx) t = places cx t from rfl,TT_V,h1,h2,q]⟩
  · cases h
 case buildSlice t n ps =>
  obtain ⟨l,h1,h⟩ := bind2 h
  split at h
  · rename_i q
    split at h
    · rename_i q2
      obtain ⟨cs,h2,h⟩ := bind2 h
      obtain ⟨z,h3,h⟩ := bind2 h
      exact ⟨_,h,by simp [TT_V,C_V,h1,h2,h3,q,q2]⟩
    · cases h
  · cases h
 case load t x =>
  obtain ⟨p,h1,h⟩ := bind2 h
  obtain ⟨cs,h2,h⟩ := bind2 h
  obtain ⟨u,h3,h⟩ := bind2 h
  exact ⟨_,h,by simp [h1,h2,loadAt_V,h3]⟩
 case nilCheck x =>
  obtain ⟨u,h1,h⟩ := bind2 h
  cases u <;> first | (cases h; done) | exact ⟨_,h,by rw [h1]; rfl⟩
 case binOp op t x y yt =>
  obtain ⟨u,h1,h⟩ := bind2 h
  obtain ⟨z,h2,h⟩ := bind2 h
  obtain ⟨q,h4,h5⟩ := binOp_V (st := st) h
  exact ⟨_,h4,by rw [h1,h2]; exact h5⟩
 case unOp op t x =>
  obtain ⟨u,h1,h⟩ := bind2 h
  obtain ⟨z,h2,h⟩ := bind2 h
  exact ⟨_,h,by simp [h1,h2]⟩
 case convert s d x =>
  obtain ⟨u,h1,h⟩ := bind2 h
  obtain ⟨z,h2,h3⟩ := convert_V hr h
  exact ⟨_,h2,by rw [h1]; exact h3⟩
 case makeInterface t x =>
  obtain ⟨u,h1,h⟩ := bind2 h
  split at h
  · cases h
  · rename_i k q
    split at h
    · rename_i q2
      exact ⟨_,h,by simp [h1,TT_V] <;> (split <;> simp_all)⟩
    · cases h
 case makeFunc f first caps =>
  split at h
  · rename_i q
    obtain ⟨l,h1,h⟩ := bind2 h
    exact ⟨_,h,by rw [h1]; rfl⟩
  · cases h
 case slice t x lo hi mx =>
  obtain ⟨u,h1,h⟩ := bind2 h
  split at h
  all_goals first
   | (cases h; done)
   | (rename_i q1 q2 q3
      obtain ⟨z,h2,h3⟩ := sliceOp_V hr h
      exact ⟨_,h2,by rw [h1]; simp [q1,q2,q3,h3]⟩)
 case fieldAddr t x f =>
  obtain ⟨p,h1,h⟩ := bind2 h
  split at h
  · rename_i fs q
    obtain ⟨fo,h2,h⟩ := bind2 h
    split at h
    · rename_i q2
      cases p <;> first | (cases h; done) | exact ⟨_,h,by simp [TT_V,h1,h2,q,q2]⟩
    · cases h
  · cases h
 case field t x f =>
  obtain ⟨u,h1,h⟩ := bind2 h
  split at h
  · rename_i fs cs q
    obtain ⟨fo,h2,h⟩ := bind2 h
    obtain ⟨z,h3,h⟩ := bind2 h
    exact ⟨_,h,by simp [TT_V,loadAt_V,h1,h2,h3,q]⟩
  · cases h
 case indexAddr t x i =>
  obtain ⟨u,h1,h⟩ := bind2 h
  obtain ⟨z,h2,h⟩ := bind2 h
  obtain ⟨q,h4,h5⟩ := indexAddr_V (st := st) h
  exact ⟨_,h4,by rw [h1,h2]; exact h5⟩
 case index t x i =>
  obtain ⟨u,h1,h⟩ := bind2 h
  obtain ⟨z,h2,h⟩ := bind2 h
  obtain ⟨q,h4,h5⟩ := index_V (st := st) h
  exact ⟨_,h4,by rw [h1,h2]; exact h5⟩
 case extract x i =>
  obtain ⟨u,h1,h⟩ := bind2 h
  cases u <;> try (cases h; done)
  dsimp only at h
  obtain ⟨z,h2,h⟩ := bind2 h
  exact ⟨_,h,by simp [h1,h2]⟩
 case call c =>
  obtain ⟨args,h1,h⟩ := bind2 h
  cases hc : c.callee with
  | builtin b =>
   rw [hc] at hr h
   dsimp only at hr h
   obtain ⟨z,h2,h3⟩ := builtin_V hr h
   exact ⟨_,h2,by rw [h1]; exact h3⟩
  | value f => rw [hc] at hr; cases hr
  | invoke f m => rw [hc] at hr; cases hr
end
end Go.Proofs.YtccfmfifnbnlmaaGreatDoor.Ev
end
section
/- Regions that draw their order: what the machine has done lags behind what the evaluator has. -/
set_option linter.unusedVariables false
set_option linter.unusedSimpArgs false
namespace Go.Proofs.YtccfmfifnbnlmaaGreatDoor.Ev
open Go
section
variable {U : Nat → Type} {P : Program} {g g' : Gh} {gB : Base} {w w' w0 : World} {R : Type} {S : Nat → Nat → Bool} {st : St U} {cx : Cx U R} {callR : CallR U R} {ops : Array Oper} {a : Act}
 {lcon : Array Bool} {L : List Nat} {loads : List (Nat × Nat)} {todo : List (Nat × Oper)} {pend : List (Nat × AVal U)}
theorem cxV_ok (ok : Ok P cx) : Ok P (cxV cx) := ⟨ok.tt,ok.codec,ok.eqs,fun f fn h => (by cases h),ok.mixed⟩
theorem cxV_calls : Calls.Ok P (cxV cx) (fun _ _ _ _ => none) := ⟨fun f s h => (by cases h),fun f args cs n K r h => (by cases h),fun f args st K r h => (by cases h)⟩
/-! ### what stands fast -/
theorem hasTok_mem {i : Nat} : ∀ {l : List Nat},hasTok i l = true ↔ i ∈ l
 | [] => by simp [hasTok]
 | a :: r => by rw [hasTok_cons,hasTok_mem,List.mem_cons]
theorem sub_spec : ∀ {l m : List Nat},subOf l m = true ↔ ∀ a ∈ l,hasTok a m = true
 | [],m => by simp [subOf]
 | a :: r,m => by simp [subOf,sub_spec]
structure Fits (ops : Array Oper) : Prop where
 ap : ∀ (k j : Nat) ok oj d,ops[k]? = some ok → ops[j]? = some oj → j ≠ k → oj.dst = some d → ok.dst ≠ some d ∧ (d ∈ ok.looksAt ops → j ∈ predsOf ok ∨ k ∈ predsOf oj)
theorem mem_numbered : ∀ (l : List Oper) (k i : Nat) (o : Oper),(i,o) ∈ numberedOps k l ↔ k ≤ i ∧ l[i - k]? = some o
 | [],k,i,o => by simp [numberedOps]
 | x :: r,k,i,o => by
  unfold numberedOps
  rw [List.mem_cons,mem_numbered r (k + 1) i o,Prod.mk.injEq]
  by_cases h : i = k
  · subst h
    simp
    constructor
    · rintro (h | ⟨h,_⟩)
      · exact h.symm
      · omega
    · intro h; exact .inl h.symm
  · constructor
    · rintro (⟨h1,_⟩ | ⟨h1,h2⟩)
      · exact absurd h1 h
      · refine ⟨by omega,?_⟩
        rw [show i - k = (i - (k + 1)) + 1 by omega,List.getElem?_cons_succ]; exact h2
    · rintro ⟨h1,h2⟩
      refine .inr ⟨by omega,?_⟩
      rw [show i - k = (i - (k + 1)) + 1 by omega,List.getElem?_cons_succ] at h2; exact h2
theorem apartOne_spec {k : Nat} {dst : Option Nat} {looks preds : List Nat} : ∀ {l : List (Nat × Oper)},apartOne k dst looks preds l = true → ∀ j oj d,(j,oj) ∈ l → j ≠ k → oj.dst = some d →
 dst ≠ some d ∧ (d ∈ looks → j ∈ preds ∨ k ∈ predsOf oj)
 | [],_,j,oj,d,h,_,_ => by cases h
 | (j',o') :: r,h,j,oj,d,hm,hne,hd => by
  unfold apartOne at h
  rw [Bool.and_eq_true] at h
  rcases List.mem_cons.1 hm with e | e
  · obtain ⟨e1,e2⟩ := Prod.mk.inj e
    subst e1 e2
    have h1 := h.1
    have : Nat.beq j k = false := by
     cases q : Nat.beq j k with
     | false => rfl
     | true => exact absurd (Nat.eq_of_beq_eq_true q) hne
    rw [this,hd] at h1
    dsimp only at h1
    simp only [Bool.and_eq_true,Bool.or_eq_true,Bool.not_eq_true'] at h1
    refine ⟨fun q => ?_,fun q => ?_⟩
    · rw [q] at h1
      have := h1.1
      dsimp only at this
      rw [Nat.beq_refl] at this; cases this
    · rcases h1.2 with z | z
      · rw [hasTok_mem.2 q] at z; cases z
      · exact z.imp hasTok_mem.1 hasTok_mem.1
  · exact apartOne_spec h.2 j oj d e hne hd
theorem apartAll_spec {all : List (Nat × Oper)} : ∀ {l : List (Nat × Oper)},apartAll ops all l = true → ∀ k o,(k,o) ∈ l → apartOne k o.dst (o.looksAt ops) (predsOf o) all = true
 | [],_,k,o,h => by cases h
 | (k',o') :: r,h,k,o,hm => by
  unfold apartAll at h
  rw [Bool.and_eq_true] at h
  rcases List.mem_cons.1 hm with e | e
  · cases e; exact h.1
  · exact apartAll_spec h.2 k o e
theorem fits_of (h : apartAll ops (numberedOps 0 ops.toList) (numberedOps 0 ops.toList) = true) : Fits ops :=
 ⟨fun k j ok oj d hk hj hne hd => apartOne_spec (apartAll_spec h k ok ((mem_numbered _ 0 k ok).2 ⟨Nat.zero_le _,by simpa using hk⟩)) j oj d ((mem_numbered _ 0 j oj).2 ⟨Nat.zero_le _,by simpa using hj⟩) hne hd⟩
/-! ### what is pending -/
inductive Ordered (ops : Array Oper) (lcon : Array Bool) : List (Nat × AVal U) → Prop
 | nil : Ordered ops lcon []
 | cons {i : Nat} {u : AVal U} {r : List (Nat × AVal U)} {o : Oper} : ops[i]? = some o → lcon.getD i false = false → (∀ y,(i,y) ∉ r) → (∀ e ∈ predsOf o,lcon.getD e false = true ∨ ∃ y,(e,y) ∈ r) → Ordered ops lcon r →
  Ordered ops lcon ((i,u) :: r)
theorem Ordered.un : ∀ {pend : List (Nat × AVal U)},Ordered ops lcon pend → ∀ i u,(i,u) ∈ pend → lcon.getD i false = false
 | _,.nil,i,u,h => by cases h
 | _,.cons h1 h2 h3 h4 h5,i,u,h => by
  rcases List.mem_cons.1 h with e | e
  · cases e; exact h2
  · exact h5.un i u e
theorem Ordered.fn : ∀ {pend : List (Nat × AVal U)},Ordered ops lcon pend → ∀ i u y,(i,u) ∈ pend → (i,y) ∈ pend → u = y
 | _,.nil,i,u,y,h,_ => by cases h
 | _,.cons h1 h2 h3 h4 h5,i,u,y,h,k => by
  rcases List.mem_cons.1 h with e | e <;> rcases List.mem_cons.1 k with f | f
  · cases e; cases f; rfl
  · cases e; exact absurd f (h3 y)
  · cases f; exact absurd e (h3 u)
  · exact h5.fn i u y e f
theorem Ordered.pre : ∀ {pend : List (Nat × AVal U)},Ordered ops lcon pend → ∀ i u o,(i,u) ∈ pend → ops[i]? = some o → ∀ e ∈ predsOf o,lcon.getD e false = true ∨ ∃ y,(e,y) ∈ pend
 | _,.nil,i,u,o,h,_ => by cases h
 | _,.cons h1 h2 h3 h4 h5,i,u,o,h,ho => by
  intro e he
  rcases List.mem_cons.1 h with q | q
  · cases q
    rw [h1] at ho; cases ho
    exact (h4 e he).imp id fun ⟨y,hy⟩ => ⟨y,List.mem_cons_of_mem _ hy⟩
  · exact (h5.pre i u o q ho e he).imp id fun ⟨y,hy⟩ => ⟨y,List.mem_cons_of_mem _ hy⟩
theorem Ordered.first : ∀ {pend : List (Nat × AVal U)},Ordered ops lcon pend → pend ≠ [] → ∃ i u o,(i,u) ∈ pend ∧ ops[i]? = some o ∧ ∀ e ∈ predsOf o,lcon.getD e false = true
 | _,.nil,h => absurd rfl h
 | _,.cons (i := i) (u := u) (r := r) (o := o) h1 h2 h3 h4 h5,h => by
  cases hr : r with
  | nil =>
   subst hr
   exact ⟨i,u,o,List.mem_cons_self ..,h1,fun e he => (h4 e he).resolve_right (fun ⟨y,hy⟩ => by cases hy)⟩
  | cons x xs =>
   obtain ⟨i',u',o',k1,k2,k3⟩ := h5.first (by rw [hr]; simp)
   exact ⟨i',u',o',List.mem_cons_of_mem _ (hr ▸ k1),k2,k3⟩
def drop1 (q : Nat) : List (Nat × AVal U) → List (Nat × AVal U)
 | [] => []
 | (i,u) :: r => if i = q then drop1 q r else (i,u) :: drop1 q r
theorem mem_drop1 {q : Nat} : ∀ {l : List (Nat × AVal U)} {i : Nat} {u : AVal U},(i,u) ∈ drop1 q l ↔ (i,u) ∈ l ∧ i ≠ q
 | [],i,u => by simp [drop1]
 | (j,v) :: r,i,u => by
  unfold drop1
  by_cases h : j = q
  · rw [if_pos h,mem_drop1]
    constructor
    · exact fun ⟨h1,h2⟩ => ⟨List.mem_cons_of_mem _ h1,h2⟩
    · rintro ⟨h1,h2⟩
      rcases List.mem_cons.1 h1 with e | e
      · cases e; exact absurd h h2
      · exact ⟨e,h2⟩
  · rw [if_neg h,List.mem_cons,List.mem_cons,mem_drop1]
    constructor
    · rintro (e | ⟨h1,h2⟩)
      · cases e; exact ⟨.inl rfl,h⟩
      · exact ⟨.inr h1,h2⟩
    · rintro ⟨e | e,h2⟩
      · exact .inl e
      · exact .inr ⟨e,h2⟩
theorem drop1_len {q : Nat} : ∀ {l : List (Nat × AVal U)},(drop1 q l).length ≤ l.length
 | [] => Nat.le_refl _
 | (j,v) :: r => by
  unfold drop1
  have := drop1_len (q := q) (l := r)
  split <;> simp only [List.length_cons] <;> omega
theorem drop1_lt {q : Nat} {u : AVal U} : ∀ {l : List (Nat × AVal U)},(q,u) ∈ l → (drop1 q l).length < l.length
 | (j,v) :: r,h => by
  unfold drop1
  have := drop1_len (q := q) (l := r)
  rcases List.mem_cons.1 h with e | e
  · cases e; rw [if_pos rfl,List.length_cons]; omega
  · have := drop1_lt e
    split <;> simp only [List.length_cons] <;> omega
theorem Ordered.done {q : Nat} (hq : q < lcon.size) : ∀ {pend : List (Nat × AVal U)},Ordered ops lcon pend → Ordered ops (lcon.setIfInBounds q true) (drop1 q pend)
 | _,.nil => .nil
 | _,.cons (i := i) (u := u) (r := r) h1 h2 h3 h4 h5 => by
  unfold drop1
  by_cases h : i = q
  · rw [if_pos h]; exact h5.done hq
  · rw [if_neg h]
    refine .cons h1 (by rw [getD_set_ne false (Ne.symm h)]; exact h2) (fun y hy => h3 y (mem_drop1.1 hy).1) (fun e he => ?_) (h5.done hq)
    rcases h4 e he with z | ⟨y,hy⟩
    · exact .inl (getD_set_true z)
    · by_cases k : e = q
      · subst k
        refine .inl ?_
        simp [hq]
      · exact .inr ⟨y,mem_drop1.2 ⟨hy,k⟩⟩
theorem Ordered.more {q : Nat} (hn : ∀ u : AVal U,(q,u) ∉ pend) (h : Ordered ops lcon pend) : Ordered ops (lcon.setIfInBounds q true) pend := by
 induction h with
 | nil => exact .nil
 | cons h1 h2 h3 h4 h5 ih =>
  refine .cons h1 ?_ h3 (fun e he => (h4 e he).imp getD_set_true id) (ih fun u hu => hn u (List.mem_cons_of_mem _ hu))
  rw [getD_set_ne false (fun e => by subst e; exact hn _ (List.mem_cons_self ..))]; exact h2
theorem mem_del {i : Nat} : ∀ {l : List (Nat × Oper)} {j : Nat} {o : Oper},(j,o) ∈ delOp i l ↔ (j,o) ∈ l ∧ j ≠ i
 | [],j,o => by simp [delOp]
 | (k,x) :: r,j,o => by
  rw [show delOp i ((k,x) :: r) = (match Nat.beq k i with | true => delOp i r | false => (k,x) :: delOp i r) from rfl]
  cases h : Nat.beq k i with
  | true =>
   have := Nat.eq_of_beq_eq_true h
   dsimp only
   rw [mem_del]
   constructor
   · exact fun ⟨h1,h2⟩ => ⟨List.mem_cons_of_mem _ h1,h2⟩
   · rintro ⟨h1,h2⟩
     rcases List.mem_cons.1 h1 with e | e
     · cases e; exact absurd this h2
     · exact ⟨e,h2⟩
  | false =>
   have hne : k ≠ i := fun q => by rw [q,Nat.beq_refl] at h; cases h
   dsimp only
   rw [List.mem_cons,List.mem_cons,mem_del]
   constructor
   · rintro (e | ⟨h1,h2⟩)
     · cases e; exact ⟨.inl rfl,hne⟩
     · exact ⟨.inr h1,h2⟩
   · rintro ⟨e | e,h2⟩
     · exact .inl e
     · exact .inr ⟨e,h2⟩
theorem del_len {i : Nat} : ∀ {l : List (Nat × Oper)},(delOp i l).length ≤ l.length
 | [] => Nat.le_refl _
 | (k,x) :: r => by
  rw [show delOp i ((k,x) :: r) = (match Nat.beq k i with | true => delOp i r | false => (k,x) :: delOp i r) from rfl]
  have := del_len (i := i) (l := r)
  cases Nat.beq k i <;> simp only [List.length_cons] <;> omega
theorem del_lt {i : Nat} {o : Oper} : ∀ {l : List (Nat × Oper)},(i,o) ∈ l → (delOp i l).length < l.length
 | (k,x) :: r,h => by
  rw [show delOp i ((k,x) :: r) = (match Nat.beq k i with | true => delOp i r | false => (k,x) :: delOp i r) from rfl]
  have := del_len (i := i) (l := r)
  rcases List.mem_cons.1 h with e | e
  · cases e; rw [Nat.beq_refl,List.length_cons]; dsimp only; omega
  · have := del_lt e
    cases Nat.beq k i <;> simp only [List.length_cons] <;> omega
theorem mem_preds {o : Oper} {k : Nat} : k ∈ predsOf o ↔ ∃ e ∈ o.after,Region.binds .any e = true ∧ e.on = k := by
 simp [predsOf,and_assoc]
theorem ready_iff (hz : lcon.size = ops.size) {j : Nat} : j ∈ Region.ready .any ops lcon ↔ lcon.getD j false = false ∧ ∃ o,ops[j]? = some o ∧ ∀ e ∈ predsOf o,lcon.getD e false = true := by
 rw [mem_ready]
 constructor
 · rintro ⟨h1,o,h2,h3⟩
   refine ⟨?_,o,h2,fun e he => ?_⟩
   · have : j < lcon.size := by rw [hz]; exact (Array.getElem?_eq_some_iff.1 h2).1
     simp [this] at h1 ⊢; exact h1
   · obtain ⟨x,h4,h5,rfl⟩ := mem_preds.1 he
     exact h3 x h4 h5
 · rintro ⟨h1,o,h2,h3⟩
   refine ⟨?_,o,h2,fun e he hb => h3 _ (mem_preds.2 ⟨e,he,hb,rfl⟩)⟩
   have : j < lcon.size := by rw [hz]; exact (Array.getElem?_eq_some_iff.1 h2).1
   simp [this] at h1 ⊢; exact h1
end
end Go.Proofs.YtccfmfifnbnlmaaGreatDoor.Ev
end
section
/- Regions that draw their order: the steps. -/
set_option linter.unusedVariables false
set_option linter.unusedSimpArgs false
namespace Go.Proofs.YtccfmfifnbnlmaaGreatDoor.Ev
open Go
section
variable {U : Nat → Type} {P : Program} {g g' : Gh} {gB : Base} {w w' w0 : World} {R : Type} {S : Nat → Nat → Bool} {st : St U} {cx : Cx U R} {callR : CallR U R} {ops : Array Oper} {a : Act}
 {lcon : Array Bool} {L : List Nat} {loads : List (Nat × Nat)} {todo : List (Nat × Oper)} {pend : List (Nat × AVal U)}
/-- All of a frame but its temporaries. -/
structure FrameRel (cx : Cx U R) (S : Nat → Nat → Bool) (w0 : World) (gB : Base) (st : St U) (g : Gh) (w : World) (a : Act) : Prop where
 s : SRel cx.C S w0 st g w
 n : a.tmps.size = st.n
 df : a.defers = gB.df
 le : Le gB.g g
 bb : st.bb = gB.bb ∧ gB.bb ≤ st.box.length
 bt : st.bt = gB.bt ∧ gB.bt ≤ st.nt
 lβ : ∀ b,gB.g.β b ≠ none → b < gB.bb
 lτ : ∀ i,gB.g.τ i ≠ none → i < gB.bt
 gs : st.gs = []
def OnOf (ops : Array Oper) (o : Oper) (env : List (Nat × AVal U)) (on : Bool) : Prop :=
 (o.guard = none ∧ on = true) ∨ ∃ j want d,o.guard = some (j,want) ∧ guardTmp ops j = some d ∧ ((∃ b,lookup d env = some (.bool b) ∧ on = (b == want)) ∨ (lookup d env = some .und ∧ on = false))
structure Pend (cx : Cx U R) (ops : Array Oper) (st : St U) (g : Gh) (a : Act) (pend : List (Nat × AVal U)) (loads : List (Nat × Nat)) (i : Nat) (u : AVal U) (o : Oper) (envp : List (Nat × AVal U)) (on : Bool) : Prop where
 op : ops[i]? = some o
 env : ∀ t x,lookup t envp = some x → t ∈ o.looksAt ops ∧ isGd x = false ∧
  ((∃ q oq,(q,x) ∈ pend ∧ ops[q]? = some oq ∧ oq.dst = some t ∧ q ∈ predsOf o) ∨
   ((∀ q y oq,(q,y) ∈ pend → ops[q]? = some oq → oq.dst = some t → q ∉ predsOf o) ∧ RelV cx.C g x (a.tmps.getD t undef)))
 gu : OnOf ops o envp on
 val : on = true → reads cx o.op = true ∧ ∃ r,rdOp cx o { st with env := envp } = some (r,{ st with env := envp }) ∧ isGd r = false ∧ u = co (cx.TT o.type).k r
 off : on = false → u = .und
 ld : on = true → ∀ t x b off,o.op = .load t x → Ev.val { st with env := envp } x = some (.ptr b off) → (i,b) ∈ loads
 dst : ∀ d,o.dst = some d → d < a.tmps.size
structure Sim (cx : Cx U R) (S : Nat → Nat → Bool) (w0 : World) (gB : Base) (ops : Array Oper) (st : St U) (g : Gh) (w : World) (a : Act) (lcon : Array Bool) (L : List Nat) (loads : List (Nat × Nat)) (todo : List (Nat × Oper))
 (pend : List (Nat × AVal U)) : Prop where
 f : FrameRel cx S w0 gB st g w a
 env : ∀ t x,lookup t st.env = some x → isGd x = false ∧
  ((∃ q oq,(q,x) ∈ pend ∧ ops[q]? = some oq ∧ oq.dst = some t) ∨ ((∀ q y oq,(q,y) ∈ pend → ops[q]? = some oq → oq.dst ≠ some t) ∧ RelV cx.C g x (a.tmps.getD t undef)))
 lst : ∀ i,hasTok i L = true ↔ lcon.getD i false = true ∨ ∃ u,(i,u) ∈ pend
 td : ∀ i o,(i,o) ∈ todo ↔ ops[i]? = some o ∧ hasTok i L = false
 pd : ∀ i u,(i,u) ∈ pend → ∃ o envp on,Pend cx ops st g a pend loads i u o envp on
 ord : Ordered ops lcon pend
 sz : lcon.size = ops.size
theorem put_other (a : Act) {dst : Option Nat} (c : Value) {t : Nat} (h : dst ≠ some t) : (a.put dst c).tmps.getD t undef = a.tmps.getD t undef := by
 cases dst with
 | none => rfl
 | some d =>
  have : d ≠ t := fun q => h (by rw [q])
  simp only [Act.put,Array.getD_eq_getD_getElem?,Array.getElem?_setIfInBounds_ne this]
theorem put_at (a : Act) {dst : Option Nat} (c : Value) {t : Nat} (h : dst = some t) (ht : t < a.tmps.size) : (a.put dst c).tmps.getD t undef = c := by
 subst h
 rw [put_getD a t c t ht,if_pos rfl]
theorem put_size (a : Act) (dst : Option Nat) (c : Value) : (a.put dst c).tmps.size = a.tmps.size := by
 cases dst <;> simp [Act.put]
theorem put_defs (a : Act) (dst : Option Nat) (c : Value) : (a.put dst c).defers = a.defers := by
 cases dst <;> rfl
/-- The guard's word. -/
theorem OnOf.wanted {o : Oper} {env : List (Nat × AVal U)} {on : Bool} (h : OnOf ops o env on) (hE : ∀ j want d,o.guard = some (j,want) → guardTmp ops j = some d → ∀ x,lookup d env = some x → RelV cx.C g x (a.tmps.getD d undef)) :
 Region.wanted o (yielded ops a.tmps) = on := by
 rcases h with ⟨h1,rfl⟩ | ⟨j,want,d,h1,h2,h3⟩
 · unfold Region.wanted; rw [h1]
 · have hw : Region.wanted o (yielded ops a.tmps) = (yielded ops a.tmps j == some want) := by unfold Region.wanted; rw [h1]
   have hy := yielded_eq ops a.tmps j d h2 want
   rw [hw]
   rcases h3 with ⟨b,h4,rfl⟩ | ⟨h4,rfl⟩
   · have hr := hE j want d h1 h2 _ h4
     unfold Yields at hy
     generalize a.tmps.getD d undef = c at hr hy
     cases hr
     rw [Bool.eq_iff_iff,hy]
     simp
   · have hr := hE j want d h1 h2 _ h4
     unfold Yields at hy
     generalize a.tmps.getD d undef = c at hr hy
     cases hr
     rw [Bool.eq_iff_iff,hy]
     simp [undef]
theorem guard_looks {o : Oper} {j : Nat} {want : Bool} {d : Nat} (h1 : o.guard = some (j,want)) (h2 : guardTmp ops j = some d) : d ∈ o.looksAt ops := by
 unfold guardTmp at h2
 unfold Oper.looksAt
 rw [h1]
 refine List.mem_append_right _ ?_
 dsimp only
 rw [h2]
 simp
theorem lookup_restrict {t : Nat} {env : List (Nat × AVal U)} : ∀ {l : List Nat},lookup t (restrict l env) = if t ∈ l then lookup t env else none
 | [] => by simp [restrict,lookup]
 | a :: r => by
  unfold restrict
  cases h : lookup a env with
  | none =>
   dsimp only
   rw [lookup_restrict]
   by_cases e : t = a
   · subst e; simp [h]
   · simp [e]
  | some v =>
   dsimp only
   rw [lookup_cons,lookup_restrict]
   by_cases e : a = t
   · subst e; simp [h]
   · have : t ≠ a := fun q => e q.symm
     simp [e,this]
/-- What a guard leaves. -/
theorem guardOn_rel {o : Oper} {F : Bool → St U → Option R} {r : R} (h : guardOn ops o st F = some r) :
 ∃ on env',F on { st with env := env' } = some r ∧ (∀ t,lookup t env' = lookup t st.env) ∧ OnOf ops o env' on := by
 unfold guardOn at h
 split at h
 · rename_i hg; exact ⟨true,st.env,h,fun _ => rfl,.inl ⟨hg,rfl⟩⟩
 · rename_i j want hg
   obtain ⟨d,h1,h⟩ := bind2 h
   obtain ⟨v,h2,h⟩ := bind2 h
   split at h
   · rename_i b
     split at h
     · rename_i q
       subst q
       refine ⟨want,_,h,fun t => ?_,.inr ⟨j,want,d,hg,h1,.inl ⟨true,?_,by cases want <;> rfl⟩⟩⟩
       · rw [lookup_cons]; by_cases e : d = t
         · rw [if_pos e,← e,h2]
         · rw [if_neg e]
       · rw [lookup_cons,if_pos rfl]
     · rename_i q
       have q : b = false := by simpa using q
       subst q
       refine ⟨!want,_,h,fun t => ?_,.inr ⟨j,want,d,hg,h1,.inl ⟨false,?_,by cases want <;> rfl⟩⟩⟩
       · rw [lookup_cons]; by_cases e : d = t
         · rw [if_pos e,← e,h2]
         · rw [if_neg e]
       · rw [lookup_cons,if_pos rfl]
   · exact ⟨false,st.env,h,fun _ => rfl,.inr ⟨j,want,d,hg,h1,.inr ⟨h2,rfl⟩⟩⟩
   · cases h
theorem Sim.lookups (h : Sim cx S w0 gB ops st g w a lcon L loads todo pend) {env' : List (Nat × AVal U)} (he : ∀ t,lookup t env' = lookup t st.env) : Sim cx S w0 gB ops { st with env := env' } g w a lcon L loads todo pend :=
 ⟨⟨⟨h.f.s.h,h.f.s.tb,h.f.s.tt,h.f.s.uniq,h.f.s.lt⟩,h.f.n,h.f.df,h.f.le,h.f.bb,h.f.bt,h.f.lβ,h.f.lτ,h.f.gs⟩,fun t x hx => h.env t x (by rw [← he t]; exact hx),h.lst,h.td,
  fun i u hm => by obtain ⟨o,envp,on,k⟩ := h.pd i u hm; exact ⟨o,envp,on,k.op,k.env,k.gu,k.val,k.off,k.ld,k.dst⟩,h.ord,h.sz⟩
/-- What is put in a frame. -/
theorem putR_inv {dst : Option Nat} {v : AVal U} {K : St U → Option R} {r : R} (h : putR st dst v K = some r) :
 ∃ env',K { st with env := env' } = some r ∧ ((dst = none ∧ env' = st.env) ∨ ∃ d,dst = some d ∧ env' = (d,v) :: st.env ∧ d < st.n) := by
 unfold putR at h
 cases dst with
 | none => exact ⟨st.env,h,.inl ⟨rfl,rfl⟩⟩
 | some d =>
  dsimp only at h
  split at h
  · cases h
  · rename_i q
    simp only [Bool.not_eq_true,Bool.or_eq_false_iff,Bool.not_eq_false'] at q
    refine ⟨_,h,.inr ⟨d,rfl,rfl,?_⟩⟩
    have := Nat.le_of_ble_eq_true (show Nat.ble (d + 1) st.n = true from q.2)
    omega
/-- The evaluator goes ahead: an operation that leaves its memory alone. -/
theorem simR (fits : Fits ops) (h : Sim cx S w0 gB ops st g w a lcon L loads todo pend) {i : Nat} {o : Oper} (hi : (i,o) ∈ todo) (hp : ∀ e ∈ predsOf o,hasTok e L = true) {on : Bool} (hon : OnOf ops o st.env on) {u : AVal U} {loads' : List (Nat × Nat)}
 (hu : isGd u = false) (hval : on = true → reads cx o.op = true ∧ ∃ r,rdOp cx o { st with env := restrict (o.looksAt ops) st.env } = some (r,{ st with env := restrict (o.looksAt ops) st.env }) ∧ isGd r = false ∧ u = co (cx.TT o.type).k r)
 (hoff : on = false → u = .und) (hl : ∀ x,x ∈ loads → x ∈ loads')
 (hld : on = true → ∀ t x b off,o.op = .load t x → Ev.val { st with env := restrict (o.looksAt ops) st.env } x = some (.ptr b off) → (i,b) ∈ loads')
 {K : St U → Option R} {r : R} (hk : putR st o.dst u K = some r) : ∃ st2,K st2 = some r ∧ Sim cx S w0 gB ops st2 g w a lcon (i :: L) loads' (delOp i todo) ((i,u) :: pend) := by
 obtain ⟨env',hk',hd⟩ := putR_inv hk
 obtain ⟨ho,hn⟩ := (h.td i o).1 hi
 have hnl : lcon.getD i false = false := by
  cases e : lcon.getD i false with
  | false => rfl
  | true => rw [(h.lst i).2 (.inl e)] at hn; cases hn
 have hnp : ∀ y,(i,y) ∉ pend := fun y hy => by rw [(h.lst i).2 (.inr ⟨y,hy⟩)] at hn; cases hn
 -- nothing pending waits for it
 have hnw : ∀ p y op,(p,y) ∈ pend → ops[p]? = some op → i ∉ predsOf op := by
  intro p y op hpm hop hin
  have := h.ord.pre p y op hpm hop i hin
  rw [(h.lst i).2 this] at hn; cases hn
 refine ⟨_,hk',⟨⟨⟨h.f.s.h,h.f.s.tb,h.f.s.tt,h.f.s.uniq,h.f.s.lt⟩,h.f.n,h.f.df,h.f.le,h.f.bb,h.f.bt,h.f.lβ,h.f.lτ,h.f.gs⟩,fun t x hx => ?_,fun j => ?_,fun j oj => ?_,fun p y hm => ?_,?_,h.sz⟩⟩
 · -- the temporaries
   have old : o.dst ≠ some t → lookup t st.env = some x → isGd x = false ∧ ((∃ q oq,(q,x) ∈ (i,u) :: pend ∧ ops[q]? = some oq ∧ oq.dst = some t) ∨
    ((∀ q y oq,(q,y) ∈ (i,u) :: pend → ops[q]? = some oq → oq.dst ≠ some t) ∧ RelV cx.C g x (a.tmps.getD t undef))) := by
    intro hne hx
    obtain ⟨h1,h2⟩ := h.env t x hx
    refine ⟨h1,h2.imp (fun ⟨q,oq,k1,k2⟩ => ⟨q,oq,List.mem_cons_of_mem _ k1,k2⟩) (fun ⟨k1,k2⟩ => ⟨fun q y oq hq hoq => ?_,k2⟩)⟩
    rcases List.mem_cons.1 hq with e | e
    · cases e; rw [ho] at hoq; cases hoq; exact hne
    · exact k1 q y oq e hoq
   rcases hd with ⟨h1,rfl⟩ | ⟨d,h1,rfl,_⟩
   · exact old (by rw [h1]; simp) hx
   · have hx' : lookup t ((d,u) :: st.env) = some x := hx
     rw [lookup_cons] at hx'
     by_cases e : d = t
     · rw [if_pos e] at hx'
       cases hx'
       exact ⟨hu,.inl ⟨i,o,List.mem_cons_self ..,ho,by rw [h1,e]⟩⟩
     · rw [if_neg e] at hx'
       exact old (by rw [h1]; exact fun q => e (Option.some.inj q)) hx'
 · rw [hasTok_cons,h.lst j]
   constructor
   · rintro (e | e | ⟨y,hy⟩)
     · subst e; exact .inr ⟨u,List.mem_cons_self ..⟩
     · exact .inl e
     · exact .inr ⟨y,List.mem_cons_of_mem _ hy⟩
   · rintro (e | ⟨y,hy⟩)
     · exact .inr (.inl e)
     · rcases List.mem_cons.1 hy with e | e
       · cases e; exact .inl rfl
       · exact .inr (.inr ⟨y,e⟩)
 · rw [mem_del,h.td j oj]
   constructor
   · rintro ⟨⟨h1,h2⟩,h3⟩
     refine ⟨h1,?_⟩
     cases e : hasTok j (i :: L) with
     | false => rfl
     | true =>
      rcases hasTok_cons.1 e with q | q
      · exact absurd q h3
      · rw [q] at h2; cases h2
   · rintro ⟨h1,h2⟩
     refine ⟨⟨h1,?_⟩,fun q => by rw [q,hasTok_cons.2 (.inl rfl)] at h2; cases h2⟩
     cases e : hasTok j L with
     | false => rfl
     | true => rw [hasTok_cons.2 (.inr e)] at h2; cases h2
 · rcases List.mem_cons.1 hm with e | e
   · cases e
     refine ⟨o,restrict (o.looksAt ops) st.env,on,ho,fun t x hx => ?_,?_,hval,hoff,hld,fun d hd' => ?_⟩
     · rw [lookup_restrict] at hx
       by_cases q : t ∈ o.looksAt ops
       · rw [if_pos q] at hx
         obtain ⟨h1,h2⟩ := h.env t x hx
         refine ⟨q,h1,?_⟩
         rcases h2 with ⟨p,op,k1,k2,k3⟩ | ⟨k1,k2⟩
         · refine .inl ⟨p,op,List.mem_cons_of_mem _ k1,k2,k3,?_⟩
           have hne : p ≠ i := fun z => hnp x (z ▸ k1)
           rcases (fits.ap i p o op t ho k2 hne k3).2 q with z | z
           · exact z
           · exact absurd z (hnw p x op k1 k2)
         · by_cases hdt : o.dst = some t
           · refine .inr ⟨fun p y op hpm hop hpd => ?_,k2⟩
             rcases List.mem_cons.1 hpm with z | z
             · cases z
               intro hself
               have := hp _ hself
               rw [hn] at this; cases this
             · exact absurd hpd (k1 p y op z hop)
           · refine .inr ⟨fun p y op hpm hop hpd => ?_,k2⟩
             rcases List.mem_cons.1 hpm with z | z
             · cases z; rw [ho] at hop; cases hop; exact absurd hpd hdt
             · exact absurd hpd (k1 p y op z hop)
       · rw [if_neg q] at hx; cases hx
     · rcases hon with z | ⟨j,want,d,h1,h2,h3⟩
       · exact .inl z
       · refine .inr ⟨j,want,d,h1,h2,?_⟩
         rw [lookup_restrict,if_pos (guard_looks h1 h2)]
         exact h3
     · rcases hd with ⟨h1,_⟩ | ⟨d',h1,_,h3⟩
       · rw [h1] at hd'; cases hd'
       · rw [h1] at hd'; cases hd'; rw [h.f.n]; exact h3
   · obtain ⟨op,envp,on',k⟩ := h.pd p y e
     refine ⟨op,envp,on',k.op,fun t x hx => ?_,k.gu,k.val,k.off,fun z t x b off h1 h2 => hl _ (k.ld z t x b off h1 h2),k.dst⟩
     obtain ⟨h1,h2,h3⟩ := k.env t x hx
     refine ⟨h1,h2,h3.imp (fun ⟨q,oq,k1,k2⟩ => ⟨q,oq,List.mem_cons_of_mem _ k1,k2⟩) (fun ⟨k1,k2⟩ => ⟨fun q y' oq hq hoq hqd => ?_,k2⟩)⟩
     rcases List.mem_cons.1 hq with z | z
     · cases z; exact hnw p y op e k.op
     · exact k1 q y' oq z hoq hqd
 · exact .cons ho hnl hnp (fun e he => (h.lst e).1 (hp e he)) h.ord
/-- The machine follows. -/
theorem simE (fits : Fits ops) (h : Sim cx S w0 gB ops st g w a lcon L loads todo pend) {q : Nat} {u : AVal U} {o : Oper} (hq : (q,u) ∈ pend) (ho : ops[q]? = some o) (hpre : ∀ e ∈ predsOf o,lcon.getD e false = true)
 {c : Value} (hle : Le g g') (hS : SRel cx.C S w0 st g' w') (hv : RelV cx.C g' u c) :
 Sim cx S w0 gB ops st g' w' (a.put o.dst c) (lcon.setIfInBounds q true) L loads todo (drop1 q pend) := by
 have hql : q < lcon.size := by rw [h.sz]; exact (Array.getElem?_eq_some_iff.1 ho).1
 obtain ⟨o',envq,onq,kq⟩ := h.pd q u hq
 have : o' = o := by have := kq.op; rw [ho] at this; exact (Option.some.inj this).symm
 subst this
 have hsame : ∀ p oq t,ops[p]? = some oq → oq.dst = some t → o'.dst = some t → p = q := by
  intro p oq t h1 h2 h3
  by_cases e : p = q
  · exact e
  · exact absurd h3 (fits.ap q p o' oq t ho h1 e h2).1
 refine ⟨⟨hS,by rw [put_size]; exact h.f.n,by rw [put_defs]; exact h.f.df,h.f.le.trans hle,h.f.bb,h.f.bt,h.f.lβ,h.f.lτ,h.f.gs⟩,fun t x hx => ?_,fun i => ?_,h.td,fun p y hm => ?_,h.ord.done hql,by simp [h.sz]⟩
 · obtain ⟨h1,h2⟩ := h.env t x hx
   refine ⟨h1,?_⟩
   rcases h2 with ⟨p,op,k1,k2,k3⟩ | ⟨k1,k2⟩
   · by_cases e : p = q
     · subst e
       rw [ho] at k2; cases k2
       have := h.ord.fn _ _ _ k1 hq
       subst this
       refine .inr ⟨fun p' y oq hp' hoq hd => ?_,by rw [put_at a c k3 (kq.dst t k3)]; exact hv⟩
       obtain ⟨z1,z2⟩ := mem_drop1.1 hp'
       exact z2 (hsame p' oq t hoq hd k3)
     · exact .inl ⟨p,op,mem_drop1.2 ⟨k1,e⟩,k2,k3⟩
   · refine .inr ⟨fun p y oq hp hoq => k1 p y oq (mem_drop1.1 hp).1 hoq,?_⟩
     rw [put_other a c (k1 q u o' hq ho)]
     exact k2.mono hle
 · rw [h.lst i]
   constructor
   · rintro (e | ⟨y,hy⟩)
     · exact .inl (getD_set_true e)
     · by_cases e : i = q
       · subst e; exact .inl (by simp [hql])
       · exact .inr ⟨y,mem_drop1.2 ⟨hy,e⟩⟩
   · rintro (e | ⟨y,hy⟩)
     · by_cases z : q = i
       · subst z; exact .inr ⟨u,hq⟩
       · rw [getD_set_ne false z] at e; exact .inl e
     · exact .inr ⟨y,(mem_drop1.1 hy).1⟩
 · obtain ⟨hm1,hm2⟩ := mem_drop1.1 hm
   obtain ⟨op,envp,on,k⟩ := h.pd p y hm1
   refine ⟨op,envp,on,k.op,fun t x hx => ?_,k.gu,k.val,k.off,k.ld,fun d hd => by rw [put_size]; exact k.dst d hd⟩
   obtain ⟨h1,h2,h3⟩ := k.env t x hx
   refine ⟨h1,h2,?_⟩
   rcases h3 with ⟨p',oq,k1,k2,k3,k4⟩ | ⟨k1,k2⟩
   · by_cases e : p' = q
     · subst e
       rw [ho] at k2; cases k2
       have := h.ord.fn _ _ _ k1 hq
       subst this
       refine .inr ⟨fun p2 y2 oq hp2 hoq hd => ?_,by rw [put_at a c k3 (kq.dst t k3)]; exact hv⟩
       obtain ⟨z1,z2⟩ := mem_drop1.1 hp2
       exact absurd (hsame p2 oq t hoq hd k3) z2
     · exact .inl ⟨p',oq,mem_drop1.2 ⟨k1,e⟩,k2,k3,k4⟩
   · refine .inr ⟨fun p2 y2 oq hp2 hoq hd => k1 p2 y2 oq (mem_drop1.1 hp2).1 hoq hd,?_⟩
     by_cases e : o'.dst = some t
     · exfalso
       rcases (fits.ap p q op o' t k.op ho (Ne.symm hm2) e).2 h1 with z | z
       · exact k1 q u o' hq ho e z
       · have := hpre p z
         rw [h.ord.un p y hm1] at this; cases this
     · rw [put_other a c e]; exact k2.mono hle
end
end Go.Proofs.YtccfmfifnbnlmaaGreatDoor.Ev
end
section
/- Regions that draw their order: every order comes to what the evaluator says. -/
set_option linter.unusedVariables false
set_option linter.unusedSimpArgs false
namespace Go.Proofs.YtccfmfifnbnlmaaGreatDoor.Ev
open Go
section
variable {U : Nat → Type} {P : Program} {g g' : Gh} {gB : Base} {w w' w0 : World} {R : Type} {S : Nat → Nat → Bool} {st : St U} {cx : Cx U R} {callR : CallR U R} {ops : Array Oper} {a : Act}
 {lcon : Array Bool} {L : List Nat} {loads : List (Nat × Nat)} {todo : List (Nat × Oper)} {pend : List (Nat × AVal U)}
/-- Both go on by an operation that acts. -/
theorem simN (fits : Fits ops) (h : Sim cx S w0 gB ops st g w a lcon L loads todo pend) {i : Nat} {o : Oper} (hi : (i,o) ∈ todo) (hpre : ∀ e ∈ predsOf o,lcon.getD e false = true) {st' : St U}
 (hle : Le g g') (hS : SRel cx.C S w0 st' g' w') (henv : st'.env = st.env) (hn' : st'.n = st.n) (hgs : st'.gs = st.gs) (hbb : st'.bb = st.bb) (hbt : st'.bt = st.bt) (hlen : st.box.length ≤ st'.box.length) (hnt : st.nt ≤ st'.nt)
 (hbox : ∀ k b,(k,b) ∈ loads → k ∉ predsOf o → nth st'.box b = nth st.box b) {v : AVal U} {c : Value} (hv : RelV cx.C g' v c) (hgd : isGd v = false) {K : St U → Option R} {r : R} (hk : putR st' o.dst v K = some r) :
 ∃ st2,K st2 = some r ∧ Sim cx S w0 gB ops st2 g' w' (a.put o.dst c) (lcon.setIfInBounds i true) (i :: L) loads (delOp i todo) pend := by
 obtain ⟨env',hk',hd⟩ := putR_inv hk
 obtain ⟨ho,hn⟩ := (h.td i o).1 hi
 have hil : i < lcon.size := by rw [h.sz]; exact (Array.getElem?_eq_some_iff.1 ho).1
 have hnp : ∀ y,(i,y) ∉ pend := fun y hy => by rw [(h.lst i).2 (.inr ⟨y,hy⟩)] at hn; cases hn
 have hnw : ∀ p y op,(p,y) ∈ pend → ops[p]? = some op → i ∉ predsOf op := by
  intro p y op hpm hop hin
  have := h.ord.pre p y op hpm hop i hin
  rw [(h.lst i).2 this] at hn; cases hn
 have hpn : ∀ p y,(p,y) ∈ pend → p ∉ predsOf o := fun p y hp hq => by
  have := hpre p hq
  rw [h.ord.un p y hp] at this; cases this
 refine ⟨_,hk',⟨⟨⟨hS.h,hS.tb,hS.tt,hS.uniq,hS.lt⟩,by rw [put_size]; exact h.f.n.trans hn'.symm,by rw [put_defs]; exact h.f.df,h.f.le.trans hle,⟨hbb.trans h.f.bb.1,Nat.le_trans h.f.bb.2 hlen⟩,⟨hbt.trans h.f.bt.1,Nat.le_trans h.f.bt.2 hnt⟩,h.f.lβ,h.f.lτ,
  hgs.trans h.f.gs⟩,fun t x hx => ?_,fun j => ?_,fun j oj => ?_,fun p y hm => ?_,h.ord.more hnp,by simp [h.sz]⟩⟩
 · have old : o.dst ≠ some t → lookup t st.env = some x → isGd x = false ∧ ((∃ q oq,(q,x) ∈ pend ∧ ops[q]? = some oq ∧ oq.dst = some t) ∨
    ((∀ q y oq,(q,y) ∈ pend → ops[q]? = some oq → oq.dst ≠ some t) ∧ RelV cx.C g' x ((a.put o.dst c).tmps.getD t undef))) := by
    intro hne hx
    obtain ⟨h1,h2⟩ := h.env t x hx
    exact ⟨h1,h2.imp id (fun ⟨k1,k2⟩ => ⟨k1,by rw [put_other a c hne]; exact k2.mono hle⟩)⟩
   rcases hd with ⟨h1,rfl⟩ | ⟨d,h1,rfl,h3⟩
   · exact old (by rw [h1]; simp) (by rw [← henv]; exact hx)
   · have hx' : lookup t ((d,v) :: st'.env) = some x := hx
     rw [lookup_cons,henv] at hx'
     by_cases e : d = t
     · rw [if_pos e] at hx'
       cases hx'
       subst e
       refine ⟨hgd,.inr ⟨fun q y oq hq hoq hd' => ?_,by rw [put_at a c h1 (by rw [h.f.n,← hn']; exact h3)]; exact hv⟩⟩
       have hne : q ≠ i := fun z => hnp y (z ▸ hq)
       exact (fits.ap i q o oq d ho hoq hne hd').1 h1
     · rw [if_neg e] at hx'
       exact old (by rw [h1]; exact fun q => e (Option.some.inj q)) hx'
 · rw [hasTok_cons,h.lst j]
   constructor
   · rintro (e | e | e)
     · subst e; exact .inl (by simp [hil])
     · exact .inl (getD_set_true e)
     · exact .inr e
   · rintro (e | e)
     · by_cases z : i = j
       · exact .inl z.symm
       · rw [getD_set_ne false z] at e; exact .inr (.inl e)
     · exact .inr (.inr e)
 · rw [mem_del,h.td j oj]
   constructor
   · rintro ⟨⟨h1,h2⟩,h3⟩
     refine ⟨h1,?_⟩
     cases e : hasTok j (i :: L) with
     | false => rfl
     | true =>
      rcases hasTok_cons.1 e with q | q
      · exact absurd q h3
      · rw [q] at h2; cases h2
   · rintro ⟨h1,h2⟩
     refine ⟨⟨h1,?_⟩,fun q => by rw [q,hasTok_cons.2 (.inl rfl)] at h2; cases h2⟩
     cases e : hasTok j L with
     | false => rfl
     | true => rw [hasTok_cons.2 (.inr e)] at h2; cases h2
 · obtain ⟨op,envp,on,k⟩ := h.pd p y hm
   refine ⟨op,envp,on,k.op,fun t x hx => ?_,k.gu,fun z => ?_,k.off,fun z t x b off h1 h2 => ?_,fun d hd' => by rw [put_size]; exact k.dst d hd'⟩
   · obtain ⟨h1,h2,h3⟩ := k.env t x hx
     refine ⟨h1,h2,h3.imp id (fun ⟨k1,k2⟩ => ⟨k1,?_⟩)⟩
     have hne : o.dst ≠ some t := by
      intro e
      have hne : i ≠ p := fun z => hnp y (z ▸ hm)
      rcases (fits.ap p i op o t k.op ho hne e).2 h1 with z | z
      · exact hnw p y op hm k.op z
      · exact hpn p y hm z
     rw [put_other a c hne]; exact k2.mono hle
   · obtain ⟨h1,q,h2,h3,h4⟩ := k.val z
     refine ⟨h1,q,?_,h3,h4⟩
     refine (rd_nat h1 h2).2 _ rfl fun t x b off h5 h6 => ?_
     exact hbox p b (k.ld z t x b off h5 h6) (hpn p y hm)
   · refine k.ld z t x b off h1 ?_
     rw [← h2]
     exact (val_env rfl x)
/-- All has been done. -/
theorem Sim.code (h : Sim cx S w0 gB ops st g w a lcon L loads todo []) : CodeRel cx S w0 gB st g w a :=
 ⟨fun t x hx => by
  obtain ⟨_,h2⟩ := h.env t x hx
  rcases h2 with ⟨q,oq,k,_⟩ | ⟨_,k⟩
  · cases k
  · exact k,⟨fun t d want b v hx => by have := (h.env t _ hx).1; cases this⟩,h.f.s,h.f.n,h.f.df,h.f.le,h.f.bb,h.f.bt,h.f.lβ,h.f.lτ⟩
theorem firstRead_mem {i : Nat} {o : Oper} : ∀ {todo : List (Nat × Oper)},firstRead cx L todo = some (i,o) → (i,o) ∈ todo ∧ reads cx o.op = true ∧ ∀ e ∈ predsOf o,hasTok e L = true
 | (j,x) :: r,h => by
  unfold firstRead at h
  split at h
  · rename_i q
    cases h
    rw [Bool.and_eq_true] at q
    exact ⟨List.mem_cons_self ..,q.1,sub_spec.1 q.2⟩
  · obtain ⟨h1,h2⟩ := firstRead_mem h
    exact ⟨List.mem_cons_of_mem _ h1,h2⟩
theorem mem_readyOnes {i : Nat} {o : Oper} : ∀ {todo : List (Nat × Oper)},(i,o) ∈ readyOnes L todo ↔ (i,o) ∈ todo ∧ ∀ e ∈ predsOf o,hasTok e L = true
 | [] => by simp [readyOnes]
 | (j,x) :: r => by
  unfold readyOnes
  cases h : subOf (predsOf x) L with
  | true =>
   dsimp only
   rw [List.mem_cons,List.mem_cons,mem_readyOnes]
   constructor
   · rintro (e | ⟨h1,h2⟩)
     · cases e; exact ⟨.inl rfl,sub_spec.1 h⟩
     · exact ⟨.inr h1,h2⟩
   · rintro ⟨e | e,h2⟩
     · exact .inl e
     · exact .inr ⟨e,h2⟩
  | false =>
   dsimp only
   rw [List.mem_cons,mem_readyOnes]
   constructor
   · exact fun ⟨h1,h2⟩ => ⟨.inr h1,h2⟩
   · rintro ⟨e | e,h2⟩
     · cases e; rw [sub_spec.2 h2] at h; cases h
     · exact ⟨e,h2⟩
/-- Where nothing is ready any more, nothing is left. -/
theorem sim_done {K : Out U → St U → Option R} {r : R} {n : Nat} (h : Sim cx S w0 gB ops st g w a lcon L loads todo pend) (hk : evDrawn cx callR ops n todo L loads st K = some r) (hr : Region.ready .any ops lcon = []) :
 pend = [] ∧ K .normal st = some r := by
 have none : ∀ j,j ∉ Region.ready .any ops lcon := fun j hj => by rw [hr] at hj; cases hj
 have hp : pend = [] := by
  by_cases e : pend = []
  · exact e
  · obtain ⟨i,u,o,h1,h2,h3⟩ := h.ord.first e
    exact absurd ((ready_iff h.sz).2 ⟨h.ord.un i u h1,o,h2,h3⟩) (none i)
 subst hp
 refine ⟨rfl,?_⟩
 have hL : ∀ e,hasTok e L = true → lcon.getD e false = true := fun e he => ((h.lst e).1 he).resolve_right (fun ⟨u,hu⟩ => by cases hu)
 have no : ∀ i o,(i,o) ∈ todo → (∀ e ∈ predsOf o,hasTok e L = true) → False := by
  intro i o h1 h2
  obtain ⟨h3,h4⟩ := (h.td i o).1 h1
  refine none i ((ready_iff h.sz).2 ⟨?_,o,h3,fun e he => hL e (h2 e he)⟩)
  cases e : lcon.getD i false with
  | false => rfl
  | true => rw [(h.lst i).2 (.inl e)] at h4; cases h4
 cases todo with
 | nil => cases n <;> exact hk
 | cons x r' =>
  exfalso
  cases n with
  | zero => cases hk
  | succ n =>
   unfold evDrawn at hk
   dsimp only at hk
   split at hk
   · rename_i i o hf
     obtain ⟨h1,_,h2⟩ := firstRead_mem hf
     exact no i o h1 h2
   · split at hk
     · rename_i i o hf
       have : (i,o) ∈ readyOnes L (x :: r') := by rw [hf]; exact List.mem_cons_self ..
       obtain ⟨h1,h2⟩ := mem_readyOnes.1 this
       exact no i o h1 h2
     · cases hk
theorem hides_spec {preds : List Nat} {k b : Nat} : ∀ {loads : List (Nat × Nat)},(k,b) ∈ loads → k ∉ preds → hasTok b (hides preds loads) = true
 | (k',b') :: r,h,hn => by
  unfold hides
  rcases List.mem_cons.1 h with e | e
  · cases e
    cases q : hasTok b (hides preds r) with
    | true => simp [q]
    | false =>
     have : hasTok k preds = false := by
      cases z : hasTok k preds with
      | false => rfl
      | true => exact absurd (hasTok_mem.1 z) hn
     rw [this]
     exact hasTok_cons.2 (.inl rfl)
  · have := hides_spec e hn
    split
    · exact this
    · exact hasTok_cons.2 (.inr this)
variable {K : Out U → St U → Option R} {r : R} {Q : Exit → Act → World → Prop}
theorem stepE (ok : Ok P cx) (fits : Fits ops) {fuel n : Nat}
 (ih : ∀ (n : Nat) (st : St U) (g : Gh) (w : World) (a : Act) lcon L loads todo pend,Sim cx S w0 gB ops st g w a lcon L loads todo pend → todo.length + pend.length ≤ fuel → evDrawn cx callR ops n todo L loads st K = some r → wpAny P .any ops Q fuel lcon a w)
 (h : Sim cx S w0 gB ops st g w a lcon L loads todo pend) (hf : todo.length + pend.length ≤ fuel + 1) (hk : evDrawn cx callR ops n todo L loads st K = some r) {j : Nat} (hj : j ∈ Region.ready .any ops lcon) {u : AVal U} (hm : (j,u) ∈ pend) :
 wpOp P ops Q j (wpAny P .any ops Q fuel (lcon.setIfInBounds j true)) a w := by
 obtain ⟨j1,oj,j2,j3⟩ := (ready_iff h.sz).1 hj
 obtain ⟨o,envp,on,k⟩ := h.pd j u hm
 have : oj = o := by have := k.op; rw [j2] at this; exact Option.some.inj this
 subst this
 have hE : EnvRel cx.C g envp a.tmps := fun t x hx => by
  obtain ⟨_,_,h3⟩ := k.env t x hx
  rcases h3 with ⟨q,oq,k1,k2,k3,k4⟩ | ⟨_,k2⟩
  · have := j3 q k4
    rw [h.ord.un q x k1] at this; cases this
  · exact k2
 have hG : GdInv st.gs envp := ⟨fun t d want b v hx => by have := (k.env t _ hx).2.1; cases this⟩
 have hw : Region.wanted oj (yielded ops a.tmps) = on := k.gu.wanted (cx := cx) (g := g) fun _ _ d _ _ x hx => hE d x hx
 have hlen := drop1_lt hm
 unfold wpOp
 rw [j2]
 dsimp only
 cases on with
 | true =>
  rw [if_pos hw]
  obtain ⟨h1,q,h2,h3,h4⟩ := k.val rfl
  have hS1 : SRel (cxV cx).C S w0 { st with env := envp } g w := ⟨h.f.s.h,h.f.s.tb,h.f.s.tt,h.f.s.uniq,h.f.s.lt⟩
  refine .inl (op_wp (cxV_ok ok) cxV_calls (st := { st with env := envp }) hE hG hS1 h2 (fun v st' c g' w' hk' hs => ?_) (fun v st' c g' w' hk' hs => by cases hk'))
  obtain ⟨rfl,rfl⟩ := Prod.mk.inj (Option.some.inj hk')
  refine ih n st g' w' _ _ L loads todo (drop1 j pend) (simE fits h hm j2 j3 hs.le ⟨hs.s.h,hs.s.tb,hs.s.tt,hs.s.uniq,hs.s.lt⟩ ?_) (by omega) hk
  rw [h4]
  exact co_rel hs.v
 | false =>
  rw [if_neg (by rw [hw]; simp)]
  refine ih n st g w _ _ L loads todo (drop1 j pend) (simE fits h hm j2 j3 (Le.refl g) h.f.s ?_) (by omega) hk
  rw [k.off rfl]
  exact .und
/-- One operation that is ready. -/
theorem drawn_step (ok : Ok P cx) (cok : Calls.Ok P cx callR) (fits : Fits ops)
 (hQ : ∀ out st' g' w' a' e,K out st' = some r → CodeRel cx S w0 gB st' g' w' a' → (out.pans = false → st'.gs = []) → OutRel cx.C g' out e → Q e a' w') {fuel : Nat}
 (ih : ∀ (n : Nat) (st : St U) (g : Gh) (w : World) (a : Act) lcon L loads todo pend,Sim cx S w0 gB ops st g w a lcon L loads todo pend → todo.length + pend.length ≤ fuel → evDrawn cx callR ops n todo L loads st K = some r → wpAny P .any ops Q fuel lcon a w) :
 ∀ (n : Nat) (st : St U) (L : List Nat) loads todo pend,Sim cx S w0 gB ops st g w a lcon L loads todo pend → todo.length + pend.length ≤ fuel + 1 → evDrawn cx callR ops n todo L loads st K = some r → ∀ j ∈ Region.ready .any ops lcon,
  wpOp P ops Q j (wpAny P .any ops Q fuel (lcon.setIfInBounds j true)) a w := by
 intro n
 induction n with
 | zero =>
  intro st L loads todo pend h hf hk j hj
  by_cases hp : ∃ u,(j,u) ∈ pend
  · obtain ⟨u,hm⟩ := hp
    exact stepE ok fits ih h hf hk hj hm
  · exfalso
    obtain ⟨j1,oj,j2,j3⟩ := (ready_iff h.sz).1 hj
    have hin : (j,oj) ∈ todo := (h.td j oj).2 ⟨j2,by
     cases e : hasTok j L with
     | false => rfl
     | true =>
      rcases (h.lst j).1 e with q | q
      · rw [q] at j1; cases j1
      · exact absurd q hp⟩
    cases todo with
    | nil => cases hin
    | cons x xs => cases hk
 | succ n ihn =>
  intro st L loads todo pend h hf hk j hj
  by_cases hp : ∃ u,(j,u) ∈ pend
  · obtain ⟨u,hm⟩ := hp
    exact stepE ok fits ih h hf hk hj hm
  · obtain ⟨j1,oj,j2,j3⟩ := (ready_iff h.sz).1 hj
    have hin : (j,oj) ∈ todo := (h.td j oj).2 ⟨j2,by
     cases e : hasTok j L with
     | false => rfl
     | true =>
      rcases (h.lst j).1 e with q | q
      · rw [q] at j1; cases j1
      · exact absurd q hp⟩
    have hjL : ∀ e ∈ predsOf oj,hasTok e L = true := fun e he => (h.lst e).2 (.inl (j3 e he))
    unfold evDrawn at hk
    cases todo with
    | nil => cases hin
    | cons x xs =>
     dsimp only at hk
     split at hk
     · -- the evaluator goes ahead
       rename_i i o hfr
       obtain ⟨h1,h2,h3⟩ := firstRead_mem hfr
       obtain ⟨on,env',hk,he,hon⟩ := guardOn_rel hk
       have hs := h.lookups he
       have hdel := del_lt h1
       cases on with
       | true =>
        dsimp only at hk
        obtain ⟨v,hk,hk1⟩ := rd_V h2 hk
        cases hgd : isGd v with
        | true => rw [hgd] at hk; cases hk
        | false =>
         rw [hgd] at hk
         dsimp only at hk
         obtain ⟨st2,k1,k2⟩ := simR fits hs h1 h3 hon (u := co (cx.TT o.type).k v) (loads' := (match loadBox { st with env := env' } o with | some b => (i,b) :: loads | none => loads)) (by rw [isGd_co]; exact hgd)
          (fun _ => ⟨h2,v,hk1,hgd,rfl⟩) (fun q => by cases q) (fun y hy => by split <;> simp [hy]) (fun _ t x b off hx hb => by
           have hlb : loadBox { st with env := env' } o = some b := by
            unfold loadBox
            rw [hx]
            dsimp only
            have : Ev.val { st with env := env' } x = some (.ptr b off) := by
             cases x with
             | tmp tt =>
              have hb' : lookup tt (restrict (o.looksAt ops) env') = some (.ptr b off) := hb
              rw [lookup_restrict] at hb'
              split at hb'
              · exact hb'
              · cases hb'
             | const cc => exact hb
             | global _ => exact hb
             | func _ => exact hb
            rw [this]
           rw [hlb]
           exact List.mem_cons_self ..) hk
         exact ihn st2 _ _ _ _ k2 (by simp only [List.length_cons] at hf ⊢ hdel; omega) k1 j hj
       | false =>
        dsimp only at hk
        obtain ⟨st2,k1,k2⟩ := simR fits hs h1 h3 hon (u := .und) (loads' := loads) rfl (fun q => by cases q) (fun _ => rfl) (fun y hy => hy) (fun q => by cases q) hk
        exact ihn st2 _ _ _ _ k2 (by simp only [List.length_cons] at hf ⊢ hdel; omega) k1 j hj
     · split at hk
       · -- the one that acts
         rename_i i o hfr
         have hjm : (j,oj) ∈ readyOnes L (x :: xs) := mem_readyOnes.2 ⟨hin,hjL⟩
         rw [hfr,List.mem_singleton] at hjm
         obtain ⟨rfl,rfl⟩ := Prod.mk.inj hjm
         obtain ⟨on,env',hk,he,hon⟩ := guardOn_rel hk
         have hs := h.lookups he
         have hdel := del_lt hin
         -- what it looks at has been done
         have hE : EnvRel cx.C g (restrict (oj.looksAt ops) env') a.tmps := fun t y hy => by
          rw [lookup_restrict] at hy
          split at hy
          · rename_i ht
            obtain ⟨_,h2⟩ := hs.env t y hy
            rcases h2 with ⟨q,oq,k1,k2,k3⟩ | ⟨_,k2⟩
            · exfalso
              have hne : q ≠ j := fun z => hp ⟨y,z ▸ k1⟩
              rcases (fits.ap j q oj oq t j2 k2 hne k3).2 ht with z | z
              · have := j3 q z
                rw [h.ord.un q y k1] at this; cases this
              · have := h.ord.pre q y oq k1 k2 j z
                rw [j1] at this
                rcases this with z | ⟨u,hu⟩
                · cases z
                · exact hp ⟨u,hu⟩
            · exact k2
          · cases hy
         have hG : GdInv st.gs (restrict (oj.looksAt ops) env') := ⟨fun t d want b v hy => by
          rw [lookup_restrict] at hy
          split at hy
          · have := (hs.env t _ hy).1; cases this
          · cases hy⟩
         have hon' : OnOf ops oj (restrict (oj.looksAt ops) env') on := by
          rcases hon with z | ⟨jj,want,d,h1,h2,h3⟩
          · exact .inl z
          · exact .inr ⟨jj,want,d,h1,h2,by rw [lookup_restrict,if_pos (guard_looks h1 h2)]; exact h3⟩
         have hw : Region.wanted oj (yielded ops a.tmps) = on := hon'.wanted (cx := cx) (g := g) fun _ _ d _ _ y hy => hE d y hy
         unfold wpOp
         rw [j2]
         dsimp only
         cases on with
         | true =>
          rw [if_pos hw]
          dsimp only at hk
          have hS1 := SRel.hide (st := { st with env := env' }) hs.f.s (hides (predsOf oj) loads)
          have hS2 : SRel cx.C S w0 { st with env := restrict (oj.looksAt ops) env',box := hideBox (hides (predsOf oj) loads) st.box } (g.hide w (hides (predsOf oj) loads)) w := ⟨hS1.h,hS1.tb,hS1.tt,hS1.uniq,hS1.lt⟩
          refine .inl (op_wp ok cok (hE.mono (le_hide _)) hG hS2 hk (fun v st' c g' w' hk' hst => ?_) (fun v st' c g' w' hk' hst => ?_))
          · cases hgd : isGd v with
            | true => rw [hgd] at hk'; cases hk'
            | false =>
             rw [hgd] at hk'
             dsimp only at hk'
             obtain ⟨bx,hb,hk'⟩ := bind2 hk'
             obtain ⟨hl1,hl2⟩ := le_unhide (hides (predsOf oj) loads) hst.le
             have hS3 := SRel.unhide (st := { st with env := env' }) hs.f.s (hides (predsOf oj) loads) hst.s hst.le hb
             obtain ⟨s1,s2,s3⟩ := show_nth _ _ _ hb
             have hsm := hst.same
             obtain ⟨st2,k1,k2⟩ := simN fits hs (o := oj) hin j3 (st' := { st' with env := env',box := bx }) hl1 ⟨hS3.h,hS3.tb,hS3.tt,hS3.uniq,hS3.lt⟩ rfl hsm.n hsm.gs hsm.bb hsm.bt
              (by show st.box.length ≤ bx.length; rw [s3]; have := hsm.nb; simp only [hideBox_length] at this; exact this) hsm.nt (fun kk b hkb hnn => (s1 b (hides_spec hkb hnn)).1) (v := co (cx.TT oj.type).k v) (c := c) (co_rel (RelV.monoV hl2 hst.v)) (by rw [isGd_co]; exact hgd) hk'
             exact ih n st2 _ _ _ _ _ _ _ _ k2 (by simp only [List.length_cons] at hf ⊢ hdel; omega) k1
          · obtain ⟨bx,hb,hk'⟩ := bind2 hk'
            obtain ⟨hl1,hl2⟩ := le_unhide (hides (predsOf oj) loads) hst.le
            have hS3 := SRel.unhide (st := { st with env := env' }) hs.f.s (hides (predsOf oj) loads) hst.s hst.le hb
            obtain ⟨s1,s2,s3⟩ := show_nth _ _ _ hb
            have hsm := hst.same
            refine hQ _ _ _ w' a _ hk' ⟨fun t y hy => (by cases hy),⟨fun t d want b v hy => (by cases hy)⟩,⟨hS3.h,hS3.tb,hS3.tt,hS3.uniq,hS3.lt⟩,h.f.n.trans hsm.n.symm,h.f.df,h.f.le.trans hl1,⟨hsm.bb.trans h.f.bb.1,?_⟩,⟨hsm.bt.trans h.f.bt.1,Nat.le_trans h.f.bt.2 hsm.nt⟩,h.f.lβ,h.f.lτ⟩ (fun q => by cases q) (.pan (RelV.monoV hl2 hst.v))
            show gB.bb ≤ bx.length
            rw [s3]
            have := hsm.nb
            simp only [hideBox_length] at this
            exact Nat.le_trans h.f.bb.2 this
         | false =>
          rw [if_neg (by rw [hw]; simp)]
          dsimp only at hk
          obtain ⟨st2,k1,k2⟩ := simN fits hs (o := oj) hin j3 (st' := { st with env := env' }) (Le.refl g) hs.f.s rfl rfl rfl rfl rfl (Nat.le_refl _) (Nat.le_refl _) (fun _ _ _ _ => rfl) (v := .und) (c := undef) .und rfl hk
          exact ih n st2 _ _ _ _ _ _ _ _ k2 (by simp only [List.length_cons] at hf ⊢ hdel; omega) k1
       · cases hk
theorem drawn_wp (ok : Ok P cx) (cok : Calls.Ok P cx callR) (fits : Fits ops)
 (hQ : ∀ out st' g' w' a' e,K out st' = some r → CodeRel cx S w0 gB st' g' w' a' → (out.pans = false → st'.gs = []) → OutRel cx.C g' out e → Q e a' w') :
 ∀ (fuel n : Nat) (st : St U) (g : Gh) (w : World) (a : Act) lcon L loads todo pend,Sim cx S w0 gB ops st g w a lcon L loads todo pend → todo.length + pend.length ≤ fuel → evDrawn cx callR ops n todo L loads st K = some r → wpAny P .any ops Q fuel lcon a w := by
 have fin : ∀ (n : Nat) (st : St U) (g : Gh) (w : World) (a : Act) lcon L loads todo pend,Sim cx S w0 gB ops st g w a lcon L loads todo pend → evDrawn cx callR ops n todo L loads st K = some r → Region.ready .any ops lcon = [] → Q .normal a w := by
  intro n st g w a lcon L loads todo pend h hk hr
  obtain ⟨rfl,hk'⟩ := sim_done h hk hr
  exact hQ _ st g w a _ hk' h.code (fun _ => h.f.gs) .normal
 intro fuel
 induction fuel with
 | zero =>
  intro n st g w a lcon L loads todo pend h hf hk
  have hr : Region.ready .any ops lcon = [] := by
   cases e : Region.ready .any ops lcon with
   | nil => rfl
   | cons j js =>
    exfalso
    have hj : j ∈ Region.ready .any ops lcon := by rw [e]; exact List.mem_cons_self ..
    obtain ⟨j1,oj,j2,j3⟩ := (ready_iff h.sz).1 hj
    have h1 : todo = [] := List.eq_nil_of_length_eq_zero (by omega)
    have h2 : pend = [] := List.eq_nil_of_length_eq_zero (by omega)
    subst h1 h2
    have : (j,oj) ∈ ([] : List (Nat × Oper)) := (h.td j oj).2 ⟨j2,by
     cases e : hasTok j L with
     | false => rfl
     | true =>
      rcases (h.lst j).1 e with q | ⟨u,q⟩
      · rw [q] at j1; cases j1
      · cases q⟩
    cases this
  exact ⟨hr,fin n st g w a lcon L loads todo pend h hk hr⟩
 | succ fuel ih =>
  intro n st g w a lcon L loads todo pend h hf hk
  exact ⟨fun hr => fin n st g w a lcon L loads todo pend h hk hr,drawn_step ok cok fits hQ ih n st L loads todo pend h hf hk⟩
theorem numbered_len : ∀ (l : List Oper) (k : Nat),(numberedOps k l).length = l.length
 | [],_ => rfl
 | x :: r,k => by unfold numberedOps; rw [List.length_cons,List.length_cons,numbered_len r]
theorem region_wp (ok : Ok P cx) (cok : Calls.Ok P cx callR) {id : Nat} (hm : P.follows .mixedOrders = true)
 (hQ : ∀ out st' g' w' a' e,K out st' = some r → CodeRel cx S w0 gB st' g' w' a' → (out.pans = false → st'.gs = []) → OutRel cx.C g' out e → Q e a' w')
 (h : CodeRel cx S w0 gB st g w a) (hk : evRegion cx callR ops st K = some r) : (Code.region id ops true).wp P Q a w := by
 unfold evRegion at hk
 split at hk
 · rename_i hgs
   split at hk
   · rename_i hap
     have hS := SRel.draw (w' := { w with drawn := w.drawn + 1 }) h.s rfl rfl rfl rfl
     refine wp_region_any hm (drawn_wp ok cok (fits_of hap) hQ ops.size _ st g _ a _ [] [] _ [] ⟨⟨hS,h.n,h.df,h.le,h.bb,h.bt,h.lβ,h.lτ,hgs⟩,fun t x hx => ⟨?_,.inr ⟨fun q y oq hq => (by cases hq),h.env t x hx⟩⟩,fun i => ?_,fun i o => ?_,fun i u hu => (by cases hu),.nil,by simp⟩ (by rw [numbered_len]; simp) hk)
     · cases e : isGd x with
       | false => rfl
       | true =>
        cases x <;> simp [isGd] at e
        rename_i d want b v
        have := (h.gd.of t d want b v hx).1
        rw [hgs] at this; cases this
     · constructor
       · intro q; cases q
       · rintro (q | ⟨u,q⟩)
         · exfalso
           simp only [Array.getD_eq_getD_getElem?,Array.getElem?_replicate] at q
           split at q <;> simp at q
         · cases q
     · rw [mem_numbered]
       simp [hasTok]
   · cases hk
 · cases hk
end
end Go.Proofs.YtccfmfifnbnlmaaGreatDoor.Ev
end
section
/- Code: sequences, branches, blocks, loops. -/
set_option linter.unusedVariables false
set_option linter.unusedSimpArgs false
namespace Go.Proofs.YtccfmfifnbnlmaaGreatDoor.Ev
open Go
section
variable {U : Nat → Type} {P : Program} {w0 : World} {R : Type} {S : Nat → Nat → Bool} {cx : Cx U R} {callR : CallR U R} {loopR : Nat → List (Nat × Bool) → Code → (Out U → St U → Option R) → St U → Option R}
/-! ### code that only computes -/
theorem calmOps_out : ∀ (os : List Oper) (all : Array Oper) (st : St U) (K : Out U → St U → Option R) (r : R),calmOps os = true → st.gs = [] → evOps cx callR all os st K = some r →
 ∃ env',K .normal { st with env := env' } = some r ∧ ∀ x,hasTok x (dsts os) = false → lookup x env' = lookup x st.env
 | [],all,st,K,r,_,hg,h => by
  unfold evOps at h
  rw [hg] at h
  exact ⟨st.env,h,fun _ _ => rfl⟩
 | o :: os,all,st,K,r,hc,hg,h => by
  simp only [calmOps,Bool.and_eq_true] at hc
  obtain ⟨hc1,hc2⟩ := hc
  unfold evOps at h
  cases hgd : o.guard with
  | some _ => rw [hgd] at hc1; cases hc1
  | none =>
   rw [hgd] at h hc1
   dsimp only at h hc1
   obtain ⟨v,h⟩ := calmOp_out hc1 h
   cases hq : isGd v with
   | true => rw [hq] at h; cases h
   | false =>
    rw [hq] at h
    unfold putR at h
    cases hd : o.dst with
    | none =>
     rw [hd] at h
     obtain ⟨env',h1,h2⟩ := calmOps_out os all st K r hc2 hg h
     refine ⟨env',h1,fun x hx => h2 x ?_⟩
     unfold dsts at hx; rw [hd] at hx; exact hx
    | some d =>
     rw [hd] at h
     dsimp only at h
     cases hb : (hasTok d st.gs || !Nat.blt d st.n) with
     | true => rw [hb] at h; cases h
     | false =>
      rw [hb] at h
      obtain ⟨env',h1,h2⟩ := calmOps_out os all { st with env := (d,co (cx.TT o.type).k v) :: st.env } K r hc2 hg h
      refine ⟨env',h1,fun x hx => ?_⟩
      unfold dsts at hx; rw [hd] at hx; dsimp only at hx
      have hx2 : hasTok x (dsts os) = false := by
       cases e : hasTok x (dsts os) with
       | false => rfl
       | true => rw [hasTok_cons.2 (.inr e)] at hx; cases hx
      rw [h2 x hx2,lookup_cons,if_neg (fun q => by rw [hasTok_cons.2 (.inl q.symm)] at hx; cases hx)]
theorem hasTok_append {i : Nat} : ∀ {a b : List Nat},hasTok i (a ++ b) = (hasTok i a || hasTok i b)
 | [],_ => rfl
 | x :: r,b => by
  rw [List.cons_append,show hasTok i (x :: (r ++ b)) = (match Nat.beq x i with | true => true | false => hasTok i (r ++ b)) from rfl,show hasTok i (x :: r) = (match Nat.beq x i with | true => true | false => hasTok i r) from rfl,hasTok_append]
  cases Nat.beq x i <;> rfl
theorem lookup_junkEnv (x : Nat) : ∀ (l : List Nat) (env : List (Nat × AVal U)),lookup x (junkEnv l env) = if hasTok x l = true then some .junk else lookup x env
 | [],env => rfl
 | a :: r,env => by
  unfold junkEnv
  rw [lookup_cons,lookup_junkEnv x r env]
  by_cases e : a = x
  · rw [if_pos e,if_pos (hasTok_cons.2 (.inl e.symm))]
  · rw [if_neg e]
    by_cases e2 : hasTok x r = true
    · rw [if_pos e2,if_pos (hasTok_cons.2 (.inr e2))]
    · rw [if_neg e2,if_neg (fun q => by rcases hasTok_cons.1 q with q | q
                                        · exact e q.symm
                                        · exact e2 q)]
theorem calmTo_calm {d : Nat} {c : Code} (h : calmTo d c = true) : calm c = true := by
 unfold calmTo at h
 rw [Bool.and_eq_true] at h
 exact h.1
theorem calm_out : ∀ (c : Code) (st : St U) (K : Out U → St U → Option R) (r : R),calm c = true → st.gs = [] → evCode cx callR loopR c st K = some r →
 ∃ env',K .normal { st with env := env' } = some r ∧ ∀ x,hasTok x (puts c) = false → lookup x env' = lookup x st.env := by
 intro c
 induction c with
 | skip => intro st K r _ hg h; exact ⟨st.env,h,fun _ _ => rfl⟩
 | region id ops draw =>
  intro st K r hc hg h
  unfold calm at hc
  cases draw with
  | true => cases hc
  | false => exact calmOps_out ops.toList ops st K r hc hg h
 | seq a b iha ihb =>
  intro st K r hc hg h
  simp only [calm,Bool.and_eq_true] at hc
  unfold evCode at h
  obtain ⟨env1,h1,h2⟩ := iha st _ r hc.1 hg h
  obtain ⟨env2,h3,h4⟩ := ihb { st with env := env1 } K r hc.2 hg h1
  refine ⟨env2,h3,fun x hx => ?_⟩
  rw [show puts (.seq a b) = puts a ++ puts b from rfl,hasTok_append,Bool.or_eq_false_iff] at hx
  rw [h4 x hx.2]; exact h2 x hx.1
 | cond c a b iha ihb =>
  intro st K r hc hg h
  simp only [calm,Bool.and_eq_true] at hc
  unfold evCode at h
  obtain ⟨v,h1,h⟩ := bind2 h
  cases v <;> dsimp only at h <;> try (cases h; done)
  rename_i t
  have plain : ∀ {st1 : St U},st1.gs = [] → (if t = true then evCode cx callR loopR a { st1 with env := st1.env } K else evCode cx callR loopR b { st1 with env := st1.env } K) = some r →
   ∃ env',K .normal { st1 with env := env' } = some r ∧ ∀ x,hasTok x (puts a ++ puts b) = false → lookup x env' = lookup x st1.env := by
   intro st1 hg1 h
   by_cases q : t = true
   · rw [if_pos q] at h
     obtain ⟨env',h2,h3⟩ := iha st1 K r hc.1 hg1 h
     exact ⟨env',h2,fun x hx => h3 x (by rw [hasTok_append,Bool.or_eq_false_iff] at hx; exact hx.1)⟩
   · rw [if_neg q] at h
     obtain ⟨env',h2,h3⟩ := ihb st1 K r hc.2 hg1 h
     exact ⟨env',h2,fun x hx => h3 x (by rw [hasTok_append,Bool.or_eq_false_iff] at hx; exact hx.2)⟩
  cases c with
  | tmp d =>
   dsimp only at h
   have hp : ∀ x,hasTok x (puts (.cond (.tmp d) a b)) = false → x ≠ d ∧ hasTok x (puts a) = false ∧ hasTok x (puts b) = false := by
    intro x hx
    have hx' : hasTok x (d :: (puts a ++ puts b)) = false := hx
    have h1 : ¬ (x = d ∨ hasTok x (puts a ++ puts b) = true) := fun q => by rw [hasTok_cons.2 q] at hx'; cases hx'
    refine ⟨fun q => h1 (.inl q),?_⟩
    have h2 : hasTok x (puts a ++ puts b) = false := by
     cases e : hasTok x (puts a ++ puts b) with
     | false => rfl
     | true => exact absurd (.inr e) h1
    rw [hasTok_append,Bool.or_eq_false_iff] at h2
    exact h2
   -- one side is put together with the other
   have merge : ∀ {code : Code} {f : Bool → Bool},(∀ (st : St U) (K : Out U → St U → Option R) (r : R),calm code = true → st.gs = [] → evCode cx callR loopR code st K = some r →
    ∃ env',K .normal { st with env := env' } = some r ∧ ∀ x,hasTok x (puts code) = false → lookup x env' = lookup x st.env) → calm code = true →
    (evCode cx callR loopR code st fun o st' => match o with
     | .normal => (lookup d st'.env).bind fun v => match v with
      | .bool t' => K .normal { st' with env := (d,.bool (f t')) :: junkEnv (puts code) st'.env }
      | _ => none
     | _ => none) = some r →
    ∃ env',K .normal { st with env := env' } = some r ∧ ∀ x,x ≠ d → hasTok x (puts code) = false → lookup x env' = lookup x st.env := by
    intro code f ih hcalm h
    obtain ⟨env1,h2,h3⟩ := ih st _ r hcalm hg h
    dsimp only at h2
    obtain ⟨v,h4,h5⟩ := bind2 h2
    cases v <;> dsimp only at h5 <;> try (cases h5; done)
    refine ⟨_,h5,fun x hx hx2 => ?_⟩
    rw [lookup_cons,if_neg (fun q => hx q.symm),lookup_junkEnv,if_neg (by rw [hx2]; simp)]
    exact h3 x hx2
   cases hm : (isSkip a && calmTo d b) with
   | true =>
    rw [hm] at h
    obtain ⟨env',h2,h3⟩ := merge (f := fun t' => if t = true then true else t') ihb hc.2 h
    exact ⟨env',h2,fun x hx => h3 x (hp x hx).1 (hp x hx).2.2⟩
   | false =>
    rw [hm] at h
    dsimp only at h
    cases hm2 : (calmTo d a && isSkip b) with
    | true =>
     rw [hm2] at h
     obtain ⟨env',h2,h3⟩ := merge (f := fun t' => if t = true then t' else false) iha hc.1 h
     exact ⟨env',h2,fun x hx => h3 x (hp x hx).1 (hp x hx).2.1⟩
    | false =>
     rw [hm2] at h
     dsimp only at h
     by_cases q : t = true
     · rw [if_pos q] at h
       obtain ⟨env',h2,h3⟩ := iha { st with env := (d,.bool true) :: st.env } K r hc.1 hg h
       refine ⟨env',h2,fun x hx => ?_⟩
       rw [h3 x (hp x hx).2.1,lookup_cons,if_neg (fun q => (hp x hx).1 q.symm)]
     · rw [if_neg q] at h
       obtain ⟨env',h2,h3⟩ := ihb { st with env := (d,.bool false) :: st.env } K r hc.2 hg h
       refine ⟨env',h2,fun x hx => ?_⟩
       rw [h3 x (hp x hx).2.2,lookup_cons,if_neg (fun q => (hp x hx).1 q.symm)]
  | const _ => exact plain hg h
  | global _ => exact plain hg h
  | func _ => exact plain hg h
 | _ => intro st K r hc hg h; cases hc
end
end Go.Proofs.YtccfmfifnbnlmaaGreatDoor.Ev
end
section
/- Code: sequences, branches, blocks, loops. -/
set_option linter.unusedVariables false
set_option linter.unusedSimpArgs false
namespace Go.Proofs.YtccfmfifnbnlmaaGreatDoor.Ev
open Go
section
variable {U : Nat → Type} {P : Program} {w0 : World} {R : Type} {S : Nat → Nat → Bool} {cx : Cx U R} {callR : CallR U R} {loopR : Nat → List (Nat × Bool) → Code → (Out U → St U → Option R) → St U → Option R} {gB : Base}
/-- What is said behind code, of the way that it is left. -/
def Goes (cx : Cx U R) (S : Nat → Nat → Bool) (w0 : World) (gB : Base) (K : Out U → St U → Option R) (r : R) (Q : Exit → Act → World → Prop) : Prop :=
 ∀ out st' g' w' a' e,K out st' = some r → CodeRel cx S w0 gB st' g' w' a' → (out.pans = false → st'.gs = []) → OutRel cx.C g' out e → Q e a' w'
def LoopOk (P : Program) (cx : Cx U R) (loopR : Nat → List (Nat × Bool) → Code → (Out U → St U → Option R) → St U → Option R) : Prop :=
 ∀ (nb : Nat) (lv : List (Nat × Bool)) (b : Code) (K : Out U → St U → Option R) (st : St U) (r : R),loopR nb lv b K st = some r → ∀ (S : Nat → Nat → Bool) (w0 : World) (gB : Base) (g : Gh) (w : World) (a : Act) (Q : Exit → Act → World → Prop),
  CodeRel cx S w0 gB st g w a → st.gs = [] → Goes cx S w0 gB K r Q → (Code.loop b).wp P Q a w
def NormOk (cx : Cx U R) : Prop :=
 ∀ (nb : Nat) (lv : List (Nat × Bool)) (st st' : St U),norm lv nb st = some st' → ∀ (S : Nat → Nat → Bool) (w0 : World) (gB : Base) (g : Gh) (w : World) (a : Act),CodeRel cx S w0 gB st g w a → st.gs = [] →
  st'.gs = [] ∧ ∃ g',CodeRel cx S w0 gB st' g' w a
theorem CodeRel.bool {st : St U} {g : Gh} {w : World} {a : Act} (hr : CodeRel cx S w0 gB st g w a) (hg : st.gs = []) {d : Nat} {t : Bool} (ht : a.tmps.getD d undef = .bool t) : CodeRel cx S w0 gB { st with env := (d,.bool t) :: st.env } g w a := by
 refine hr.withEnv (fun x v hv => ?_) ⟨fun x d2 w2 b2 v2 hv => ?_⟩
 · rw [lookup_cons] at hv
   by_cases q : d = x
   · rw [if_pos q] at hv
     obtain rfl := Option.some.inj hv
     rw [← q,ht]; exact .bool _
   · rw [if_neg q] at hv; exact hr.env x v hv
 · rw [lookup_cons] at hv
   by_cases q : d = x
   · rw [if_pos q] at hv; cases hv
   · rw [if_neg q] at hv
     have := (hr.gd.of x d2 w2 b2 v2 hv).1
     rw [hg] at this; cases this
theorem CodeRel.noGd {st : St U} {g : Gh} {w : World} {a : Act} (hr : CodeRel cx S w0 gB st g w a) (hg : st.gs = []) {env' : List (Nat × AVal U)} (hE : EnvRel cx.C g env' a.tmps) (hn : ∀ x v,lookup x env' = some v → isGd v = true → ∃ y,lookup y st.env = some v) :
 CodeRel cx S w0 gB { st with env := env' } g w a := by
 refine hr.withEnv hE ⟨fun x d2 w2 b2 v2 hv => ?_⟩
 obtain ⟨y,hy⟩ := hn x _ hv rfl
 have := (hr.gd.of y d2 w2 b2 v2 hy).1
 rw [hg] at this; cases this
theorem code_wp (ok : Ok P cx) (cok : Calls.Ok P cx callR) (lok : LoopOk P cx loopR) (nok : NormOk cx) : ∀ (c : Code) (st : St U) (K : Out U → St U → Option R) (r : R) (g : Gh) (w : World) (a : Act) (Q : Exit → Act → World → Prop),
 evCode cx callR loopR c st K = some r → CodeRel cx S w0 gB st g w a → st.gs = [] → Goes cx S w0 gB K r Q → c.wp P Q a w := by
 intro c
 induction c with
 | skip => intro st K r g w a Q h hr hg hQ; exact wp_skip (hQ _ _ g w a _ h hr (fun _ => hg) .normal)
 | region id ops draw =>
  intro st K r g w a Q h hr hg hQ
  unfold evCode at h
  cases draw with
  | true => exact region_wp ok cok ok.mixed hQ hr h
  | false =>
   have := ops_wp ok cok (ops := ops) hQ ops.toList 0 st g w a h (fun j => by simp) hr
   refine wp_region ?_
   rw [List.range_eq_range']
   simpa using this
 | seq x y ihx ihy =>
  intro st K r g w a Q h hr hg hQ
  unfold evCode at h
  refine wp_seq (ihx st _ r g w a _ h hr hg ?_)
  intro out st' g' w' a' e hk hr' hn ho
  cases ho with
  | normal => exact ihy st' K r g' w' a' Q hk hr' (hn rfl) hQ
  | exit i => exact hQ _ st' g' w' a' _ hk hr' (fun _ => hn rfl) (.exit i)
  | ret => exact hQ _ st' g' w' a' _ hk hr' (fun _ => hn rfl) .ret
  | pan hv => exact hQ _ st' g' w' a' _ hk hr' (fun q => by cases q) (.pan hv)
 | cond c x y ihx ihy =>
  intro st K r g w a Q h hr hg hQ
  unfold evCode at h
  obtain ⟨v,h1,h⟩ := bind2 h
  have hv := val_rel hr.env h1
  cases v <;> dsimp only at h <;> try (cases h; done)
  rename_i t
  have hc : a.eval c = .bool t := by generalize a.eval c = z at hv; cases hv; rfl
  have plain : (if t = true then evCode cx callR loopR x st K else evCode cx callR loopR y st K) = some r → (Code.cond c x y).wp P Q a w := by
   intro h
   refine wp_cond hc ?_
   by_cases q : t = true
   · rw [if_pos q] at h
     rw [q]; exact ihx st K r g w a Q h hr hg hQ
   · rw [if_neg q] at h
     have q' : t = false := by simpa using q
     rw [q']; exact ihy st K r g w a Q h hr hg hQ
  cases c with
  | tmp d =>
   dsimp only at h
   have hd : a.tmps.getD d undef = .bool t := hc
   cases hm : (isSkip x && calmTo d y) with
   | true =>
    rw [hm] at h
    dsimp only at h
    simp only [Bool.and_eq_true] at hm
    have hx : x = .skip := by cases x <;> first | rfl | cases hm.1
    subst hx
    refine wp_cond hc ?_
    by_cases q : t = true
    · -- the code is not run
      subst q
      obtain ⟨env',h2,h3⟩ := calm_out y st _ r (calmTo_calm hm.2) hg h
      dsimp only at h2
      obtain ⟨v,h4,h5⟩ := bind2 h2
      cases v <;> dsimp only at h5 <;> try (cases h5; done)
      refine wp_skip (hQ _ _ g w a _ h5 (hr.noGd hg (fun z u hu => ?_) (fun z u hu hgd => ?_)) (fun _ => hg) .normal)
      · rw [lookup_cons] at hu
        by_cases e : d = z
        · rw [if_pos e] at hu
          obtain rfl := Option.some.inj hu
          rw [← e,hd]; exact .bool _
        · rw [if_neg e,lookup_junkEnv] at hu
          by_cases e2 : hasTok z (puts y) = true
          · rw [if_pos e2] at hu
            obtain rfl := Option.some.inj hu
            exact .junk _
          · rw [if_neg e2] at hu
            have : lookup z env' = some u := hu
            rw [h3 z (by simpa using e2)] at this
            exact hr.env z u this
      · rw [lookup_cons] at hu
        by_cases e : d = z
        · rw [if_pos e] at hu; obtain rfl := Option.some.inj hu; cases hgd
        · rw [if_neg e,lookup_junkEnv] at hu
          by_cases e2 : hasTok z (puts y) = true
          · rw [if_pos e2] at hu; obtain rfl := Option.some.inj hu; cases hgd
          · rw [if_neg e2] at hu
            have : lookup z env' = some u := hu
            rw [h3 z (by simpa using e2)] at this
            exact ⟨z,this⟩
    · have q' : t = false := by simpa using q
      subst q'
      refine ihy st _ r g w a Q h hr hg ?_
      intro out st' g' w' a' e hk hr' hn ho
      cases ho with
      | normal =>
       dsimp only at hk
       obtain ⟨v,h4,h5⟩ := bind2 hk
       cases v <;> dsimp only at h5 <;> try (cases h5; done)
       rename_i t'
       have ht' : a'.tmps.getD d undef = .bool t' := by
        have := hr'.env d _ h4
        generalize a'.tmps.getD d undef = z at this
        cases this; rfl
       refine hQ _ _ g' w' a' _ h5 (hr'.noGd (hn rfl) (fun z u hu => ?_) (fun z u hu hgd => ?_)) (fun _ => hn rfl) .normal
       · rw [lookup_cons] at hu
         by_cases e : d = z
         · rw [if_pos e] at hu
           obtain rfl := Option.some.inj hu
           rw [← e,ht']; exact .bool _
         · rw [if_neg e,lookup_junkEnv] at hu
           by_cases e2 : hasTok z (puts y) = true
           · rw [if_pos e2] at hu
             obtain rfl := Option.some.inj hu
             exact .junk _
           · rw [if_neg e2] at hu; exact hr'.env z u hu
       · rw [lookup_cons] at hu
         by_cases e : d = z
         · rw [if_pos e] at hu; obtain rfl := Option.some.inj hu; cases hgd
         · rw [if_neg e,lookup_junkEnv] at hu
           by_cases e2 : hasTok z (puts y) = true
           · rw [if_pos e2] at hu; obtain rfl := Option.some.inj hu; cases hgd
           · rw [if_neg e2] at hu; exact ⟨z,hu⟩
      | exit i => cases hk
      | ret => cases hk
      | pan hv => cases hk
   | false =>
    rw [hm] at h
    dsimp only at h
    cases hm2 : (calmTo d x && isSkip y) with
    | true =>
     rw [hm2] at h
     dsimp only at h
     simp only [Bool.and_eq_true] at hm2
     have hy : y = .skip := by cases y <;> first | rfl | cases hm2.2
     subst hy
     refine wp_cond hc ?_
     by_cases q : t = true
     · subst q
       refine ihx st _ r g w a Q h hr hg ?_
       intro out st' g' w' a' e hk hr' hn ho
       cases ho with
       | normal =>
        dsimp only at hk
        obtain ⟨v,h4,h5⟩ := bind2 hk
        cases v <;> dsimp only at h5 <;> try (cases h5; done)
        rename_i t'
        have ht' : a'.tmps.getD d undef = .bool t' := by
         have := hr'.env d _ h4
         generalize a'.tmps.getD d undef = z at this
         cases this; rfl
        refine hQ _ _ g' w' a' _ h5 (hr'.noGd (hn rfl) (fun z u hu => ?_) (fun z u hu hgd => ?_)) (fun _ => hn rfl) .normal
        · rw [lookup_cons] at hu
          by_cases e : d = z
          · rw [if_pos e] at hu
            obtain rfl := Option.some.inj hu
            rw [← e,ht']; exact .bool _
          · rw [if_neg e,lookup_junkEnv] at hu
            by_cases e2 : hasTok z (puts x) = true
            · rw [if_pos e2] at hu
              obtain rfl := Option.some.inj hu
              exact .junk _
            · rw [if_neg e2] at hu; exact hr'.env z u hu
        · rw [lookup_cons] at hu
          by_cases e : d = z
          · rw [if_pos e] at hu; obtain rfl := Option.some.inj hu; cases hgd
          · rw [if_neg e,lookup_junkEnv] at hu
            by_cases e2 : hasTok z (puts x) = true
            · rw [if_pos e2] at hu; obtain rfl := Option.some.inj hu; cases hgd
            · rw [if_neg e2] at hu; exact ⟨z,hu⟩
       | exit i => cases hk
       | ret => cases hk
       | pan hv => cases hk
     · have q' : t = false := by simpa using q
       subst q'
       obtain ⟨env',h2,h3⟩ := calm_out x st _ r (calmTo_calm hm2.1) hg h
       dsimp only at h2
       obtain ⟨v,h4,h5⟩ := bind2 h2
       cases v <;> dsimp only at h5 <;> try (cases h5; done)
       refine wp_skip (hQ _ _ g w a _ h5 (hr.noGd hg (fun z u hu => ?_) (fun z u hu hgd => ?_)) (fun _ => hg) .normal)
       · rw [lookup_cons] at hu
         by_cases e : d = z
         · rw [if_pos e] at hu
           obtain rfl := Option.some.inj hu
           rw [← e,hd]; exact .bool _
         · rw [if_neg e,lookup_junkEnv] at hu
           by_cases e2 : hasTok z (puts x) = true
           · rw [if_pos e2] at hu
             obtain rfl := Option.some.inj hu
             exact .junk _
           · rw [if_neg e2] at hu
             have : lookup z env' = some u := hu
             rw [h3 z (by simpa using e2)] at this
             exact hr.env z u this
       · rw [lookup_cons] at hu
         by_cases e : d = z
         · rw [if_pos e] at hu; obtain rfl := Option.some.inj hu; cases hgd
         · rw [if_neg e,lookup_junkEnv] at hu
           by_cases e2 : hasTok z (puts x) = true
           · rw [if_pos e2] at hu; obtain rfl := Option.some.inj hu; cases hgd
           · rw [if_neg e2] at hu
             have : lookup z env' = some u := hu
             rw [h3 z (by simpa using e2)] at this
             exact ⟨z,this⟩
    | false =>
     rw [hm2] at h
     dsimp only at h
     refine wp_cond hc ?_
     by_cases q : t = true
     · rw [if_pos q] at h
       subst q
       exact ihx _ K r g w a Q h (hr.bool hg hd) hg hQ
     · rw [if_neg q] at h
       have q' : t = false := by simpa using q
       subst q'
       exact ihy _ K r g w a Q h (hr.bool hg hd) hg hQ
  | const _ => exact plain h
  | global _ => exact plain h
  | func _ => exact plain h
 | block id b ih =>
  intro st K r g w a Q h hr hg hQ
  unfold evCode at h
  refine wp_block (ih st _ r g w a _ h hr hg ?_)
  intro out st' g' w' a' e hk hr' hn ho
  cases ho with
  | normal => exact hQ _ st' g' w' a' _ hk hr' (fun _ => hn rfl) .normal
  | exit i =>
   dsimp only at hk
   cases hb : Nat.beq i id with
   | true =>
    rw [hb] at hk
    have := Nat.eq_of_beq_eq_true hb
    show (if i = id then Q .normal a' w' else Q (.exit i) a' w')
    rw [if_pos this]
    exact hQ _ st' g' w' a' _ hk hr' (fun _ => hn rfl) .normal
   | false =>
    rw [hb] at hk
    have : i ≠ id := fun q => by rw [q,Nat.beq_refl] at hb; cases hb
    show (if i = id then Q .normal a' w' else Q (.exit i) a' w')
    rw [if_neg this]
    exact hQ _ st' g' w' a' _ hk hr' (fun _ => hn rfl) (.exit i)
  | ret => exact hQ _ st' g' w' a' _ hk hr' (fun _ => hn rfl) .ret
  | pan hv => exact hQ _ st' g' w' a' _ hk hr' (fun q => by cases q) (.pan hv)
 | loop b ih =>
  intro st K r g w a Q h hr hg hQ
  unfold evCode at h
  dsimp only at h
  obtain ⟨st',h1,h2⟩ := bind2 h
  obtain ⟨hg',g',hr'⟩ := nok _ _ _ _ h1 S w0 gB g w a hr hg
  exact lok _ _ b K st' r h2 S w0 gB g' w a Q hr' hg' hQ
 | exit id => intro st K r g w a Q h hr hg hQ; exact wp_exit (hQ _ _ g w a _ h hr (fun _ => hg) (.exit id))
 | ret => intro st K r g w a Q h hr hg hQ; exact wp_ret (hQ _ _ g w a _ h hr (fun _ => hg) .ret)
 | _ => intro st K r g w a Q h; cases h
end
end Go.Proofs.YtccfmfifnbnlmaaGreatDoor.Ev
end
