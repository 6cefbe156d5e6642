/- Several texts in one, in their order. -/
import Derived.Test.YtccfmfifnbnlmaaGreatDoorBXmllexBack1
import Derived.Orders
section
/- One operation that is no call of a function. -/
set_option linter.unusedVariables false
set_option linter.unusedSimpArgs false
namespace Go.Proofs.YtccfmfifnbnlmaaGreatDoor.Ev
open Go
section
variable {U : Nat → Type} {P : Program} {g g' : Gh} {w w' w0 : World} {R : Type} {S : Nat → Nat → Bool} {st : St U} {cx : Cx U R}
/-- Guarded values say of their guard what it is. -/
structure GdInv (gs : List Nat) (env : List (Nat × AVal U)) : Prop where
 of : ∀ a d want b v,lookup a env = some (.gd d want b v) → hasTok d gs = true ∧ isGd v = false ∧ ∃ gv,lookup d env = some gv ∧ gOf want gv = some b
theorem ungd_gd (d : Nat) (want : Bool) (d' : Nat) (want' b : Bool) (u : AVal U) : ungd d want (.gd d' want' b u) = if d' = d ∧ want' = want then u else .gd d' want' b u := by
 unfold ungd
 cases hb : Nat.beq d' d with
 | true =>
  have := Nat.eq_of_beq_eq_true hb
  cases want' <;> cases want <;> simp [this,hb]
 | false =>
  have : d' ≠ d := fun q => by rw [q,Nat.beq_refl] at hb; cases hb
  simp [this,hb]
theorem ungd_other {d : Nat} {want : Bool} {v : AVal U} (h : isGd v = false) : ungd d want v = v := by
 cases v <;> first | rfl | cases h
theorem ungdBy_rel {C : Codec U} {a : Act} {c0 x : Operand} {t want : Bool} {v : AVal U} (hE : EnvRel C g st.env a.tmps) (hG : GdInv st.gs st.env) (hc : val st c0 = some (.bool t)) (hv : val st x = some v) (ht : t = want) :
 RelV C g (ungdBy c0 want v) (a.eval x) := by
 have h0 := val_rel hE hv
 cases c0 with
 | tmp d =>
  show RelV C g (ungd d want v) (a.eval x)
  cases v with
  | gd d' want' b u =>
   rw [ungd_gd]
   by_cases hq : d' = d ∧ want' = want
   · rw [if_pos hq]
     obtain ⟨rfl,rfl⟩ := hq
     cases x with
     | tmp tx =>
      obtain ⟨_,_,gv,h1,h2⟩ := hG.of tx d' want' b u hv
      have h1' : lookup d' st.env = some (.bool t) := hc
      rw [h1'] at h1
      obtain rfl := Option.some.inj h1
      subst ht
      cases h0 with
      | gd hr _ =>
       refine hr ?_
       cases t <;> simp only [gOf] at h2 <;> exact (Option.some.inj h2).symm
     | const c =>
      exfalso
      have : ofConst c = some (.gd d' want' b u) := hv
      unfold ofConst at this
      split at this <;> cases this
     | global _ => cases hv
     | func _ => cases hv
   · rw [if_neg hq]; exact h0
  | _ => exact h0
 | _ => exact h0
theorem optVal {C : Codec U} {a : Act} {x : Option Operand} {v : AVal U} (hE : EnvRel C g st.env a.tmps) (h : x.map (val st) = some (some v)) : ∃ v' c,(some v : Option (AVal U)) = some v' ∧ x.map a.eval = some c ∧ RelV C g v' c := by
 cases x with
 | none => cases h
 | some x => exact ⟨v,a.eval x,rfl,rfl,val_rel hE (Option.some.inj h)⟩
theorem op_rel (ok : Ok P cx) {o : Oper} {a : Act} {callR : FuncId → List (AVal U) → St U → (Res U → St U → Option R) → Option R} {K KP : AVal U → St U → Option R} {r : R}
 (hE : EnvRel cx.C g st.env a.tmps) (hG : GdInv st.gs st.env) (hS : SRel cx.C S w0 st g w) (hnc : ∀ c,o.op = .call c → ∃ b,c.callee = .builtin b) (h : exOp cx callR o st K KP = some r) :
 (∃ v st' c g' w',K v st' = some r ∧ Ran P a o w c w' ∧ Step cx.C S w0 st st' g g' w' v c) ∨
 (∃ v c,KP v st = some r ∧ RelV cx.C g v c ∧ (execOp a.eval o).run P w = .halt (.panic c) w) := by
 obtain ⟨dst,op,type,pos,after,guard⟩ := o
 cases op <;> simp only [exOp] at h <;> try (cases h; done)
 case move x =>
  obtain ⟨v,h1,h⟩ := bind2 h
  exact .inl ⟨v,st,a.eval x,g,w,h,.inl rfl,step_same hS (val_rel hE h1)⟩
 case assign x =>
  obtain ⟨v,h1,h⟩ := bind2 h
  exact .inl ⟨v,st,a.eval x,g,w,h,.inl rfl,step_same hS (val_rel hE h1)⟩
 case pick c x y =>
  obtain ⟨vc,h1,h⟩ := bind2 h
  obtain ⟨vx,h2,h⟩ := bind2 h
  obtain ⟨vy,h3,h⟩ := bind2 h
  cases vc with
  | bool t =>
   dsimp only at h
   obtain ⟨v,h4,h5⟩ := pick_rel (C := cx.C) (g := g) (a := a.eval x) (b := a.eval y) (fun e => ungdBy_rel hE hG h1 h2 e) (fun e => ungdBy_rel hE hG h1 h3 e) h
   have hc := val_rel hE h1
   have hc' : a.eval c = .bool t := by generalize a.eval c = z at hc; cases hc; rfl
   refine .inl ⟨v,st,if t then a.eval x else a.eval y,g,w,h4,.inl ?_,step_same hS h5⟩
   simp [execOp,asBool,hc']
  | _ => cases h
 case alloc t =>
  cases hk : (cx.TT t).k.known with
  | false => rw [hk] at h; cases h
  | true =>
   rw [hk] at h
   obtain ⟨z,hz⟩ := (ok.tt t).known hk
   obtain ⟨g',hs⟩ := hS.box (hz.zero g) t
   refine .inl ⟨_,_,_,g',_,h,ran_of (s := Instr.alloc t true (.tuple #[])) ?_ rfl,hs⟩
   simp [Instr.alloc,run_zero hz,newVar,newRow]
 case box t x =>
  obtain ⟨v,h1,h⟩ := bind2 h
  obtain ⟨l,h2,h⟩ := bind2 h
  obtain ⟨h3,h4⟩ := cellsOf_rel (co_rel (k := (cx.TT t).k) (val_rel hE h1)) h2
  obtain ⟨g',hs⟩ := hS.box h3 t
  refine .inl ⟨_,_,_,g',_,h,ran_of (s := Instr.box t (a.eval x)) ?_ rfl,hs⟩
  simp [Instr.box,newVar,newRow]
 case build t parts =>
  cases hk : canBuild cx t with
  | false => rw [hk] at h; cases h
  | true =>
   rw [hk] at h
   obtain ⟨ps,h1,h⟩ := bind2 h
   obtain ⟨cs,h2,h⟩ := bind2 h
   have hp := partVals_rel hE h1
   obtain ⟨c,h3,h4⟩ := build_rel (w := w) (qs := parts.map fun (i,x) => (i,a.eval x)) ok (by simpa using hp) h2 hk
   exact .inl ⟨_,st,c,g,w,h,ran_of h3 rfl,step_same hS h4⟩
 case buildSlice t len parts =>
  obtain ⟨ps,h1,h⟩ := bind2 h
  have hp := partVals_rel hE h1
  cases hk : (cx.TT t).k with
  | sl e ty =>
   rw [hk] at h
   dsimp only at h
   cases hb : (Nat.ble len 1000 && Nat.ble (len * (cx.TT e).size) 16777216) with
   | false => rw [hb] at h; cases h
   | true =>
    rw [hb] at h
    simp only [Bool.and_eq_true] at hb
    obtain ⟨cs,h2,h⟩ := bind2 h
    obtain ⟨l,h3,h⟩ := bind2 h
    obtain ⟨c,g',w',h4,h5⟩ := buildSlice_rel (qs := parts.map fun (i,x) => (i,a.eval x)) ok hS hk (by simpa using hp) h2 h3 (Nat.le_of_ble_eq_true hb.1) (Nat.le_of_ble_eq_true hb.2)
    exact .inl ⟨_,st,c,g',w',h,ran_of h4 rfl,h5⟩
  | _ => rw [hk] at h; dsimp only at h; cases h
 case load t x =>
  obtain ⟨p,h1,h⟩ := bind2 h
  obtain ⟨cs,h2,h⟩ := bind2 h
  obtain ⟨v,h3,h⟩ := bind2 h
  obtain ⟨blk,off,vs,hp,hr,hat⟩ := at?_rel hS.h (val_rel hE h1) h2
  obtain ⟨c,h4,h5⟩ := loadAt_rel (ok.tt t) hr hat h3
  refine .inl ⟨v,st,c,g,w,h,ran_of (s := Instr.loadAt t (a.eval x)) ?_ rfl,step_same hS h5⟩
  simp [Instr.loadAt,Instr.sureAddr,hp,h4]
 case store t x y =>
  obtain ⟨p,h1,h⟩ := bind2 h
  obtain ⟨v,h2,h⟩ := bind2 h
  have hp := val_rel hE h1
  cases p with
  | ptr b off =>
   dsimp only at h
   cases hb : Nat.ble st.wb b with
   | false => rw [hb] at h; cases h
   | true =>
    rw [hb] at h
    obtain ⟨cs,h3,h⟩ := bind2 h
    obtain ⟨l,h4,h⟩ := bind2 h
    cases hc : (Nat.beq l.length (cx.TT t).size && Nat.ble (off + l.length) cs.length && (cx.TT t).k.known) with
    | false => rw [hc] at h; cases h
    | true =>
     rw [hc] at h
     obtain ⟨w',h5,h6⟩ := store_rel ok hS hp (co_rel (k := (cx.TT t).k) (val_rel hE h2)) h3 h4 hc
     refine .inl ⟨_,_,undef,g,w',h,.inr ⟨?_,rfl⟩,⟨h6,Le.refl g,.junk _,⟨rfl,rfl,rfl,rfl,rfl,rfl,rfl,rfl,by simp,Nat.le_refl _⟩⟩⟩
     simp [execOp,h5]
  | _ => cases h
 case nilCheck x =>
  obtain ⟨v,h1,h⟩ := bind2 h
  have hv := val_rel hE h1
  refine .inl ?_
  cases v <;> dsimp only at h <;> try (cases h; done)
  all_goals
   refine ⟨_,st,a.eval x,g,w,h,.inl ?_,step_same hS hv⟩
   generalize hev : a.eval x = c at hv
   cases hv
   simp [execOp,hev]
 case binOp op t x y yt =>
  obtain ⟨u,h1,h⟩ := bind2 h
  obtain ⟨v,h2,h⟩ := bind2 h
  obtain ⟨v',e,h3,h4,h5⟩ := binOp_rel (w := w) ok (val_rel hE h1) (val_rel hE h2) h
  exact .inl ⟨v',st,e,g,w,h3,ran_of h4 rfl,step_same hS h5⟩
 case unOp op t x =>
  obtain ⟨u,h1,h⟩ := bind2 h
  obtain ⟨v,h2,h⟩ := bind2 h
  obtain ⟨d,h3,h4⟩ := unOp_rel (P := P) (w := w) (val_rel hE h1) h2
  exact .inl ⟨v,st,d,g,w,h,ran_of h3 rfl,step_same hS h4⟩
 case convert s d x =>
  obtain ⟨u,h1,h⟩ := bind2 h
  obtain ⟨v,st',e,g',w',h2,h3,h4⟩ := convert_rel ok hS (val_rel hE h1) h
  exact .inl ⟨v,st',e,g',w',h2,ran_of h3 rfl,h4⟩
 case makeInterface t x =>
  obtain ⟨v,h1,h⟩ := bind2 h
  have hgo : (cx.TT t).k.known = true ∧ (∀ z,(cx.TT t).k = z → z ≠ .ifc) ∧ K (.iface t (co (cx.TT t).k v)) st = some r := by
   cases hk : (cx.TT t).k <;> rw [hk] at h <;> first | (cases h; done) | (exact ⟨rfl,fun z hz => by rw [← hz]; simp,h⟩)
  obtain ⟨hkn,hni,h⟩ := hgo
  have hrun : (Instr.makeInterface t (a.eval x)).run P w = .ok (.iface t (a.eval x)) w := by
   have h2 := (ok.tt t).2
   cases hk : (cx.TT t).k <;> rw [hk] at h2 <;> first | (exact absurd rfl (hni _ hk)) | skip
   case bool => simp [Instr.makeInterface,run_underlying h2]
   case int k => simp [Instr.makeInterface,run_underlying h2]
   case str => simp [Instr.makeInterface,run_underlying h2]
   case st fs => obtain ⟨F,hu,_⟩ := h2; simp [Instr.makeInterface,run_underlying hu]
   case sl e ty => simp [Instr.makeInterface,run_underlying h2.1]
   case ptr e => simp [Instr.makeInterface,run_underlying h2]
   case arr n e ty => simp [Instr.makeInterface,run_underlying h2.1]
   case fn => obtain ⟨p,q,s,hu⟩ := h2; simp [Instr.makeInterface,run_underlying hu]
   case tup => rw [hk] at hkn; cases hkn
   case other => rw [hk] at hkn; cases hkn
  exact .inl ⟨_,st,_,g,w,h,ran_of hrun rfl,step_same hS (.iface (co_rel (val_rel hE h1)))⟩
 case makeFunc f first caps =>
  split at h
  · rename_i f' g0 hf
    obtain ⟨l,h1,h⟩ := bind2 h
    have hfirst : first = #[] := by apply Array.ext'; simpa using hf
    subst hfirst
    have hv := vals_rel hE h1
    refine .inl ⟨_,st,.func (.func g0) #[] (caps.map a.eval),g,w,h,ran_of (s := Instr.makeFunc (.func g0) (#[].map a.eval) (caps.map a.eval)) ?_ rfl,step_same hS ?_⟩
    · simp [Instr.makeFunc]
    · have := RelV.fn (f := g0) hv
      have e1 : (caps.map a.eval) = (caps.toList.map a.eval).toArray := by apply Array.ext'; simp
      rw [e1]; exact this
  · cases h
 case makeSlice t x y =>
  obtain ⟨u,h1,h⟩ := bind2 h
  obtain ⟨v,h2,h⟩ := bind2 h
  obtain ⟨v',st',e,g',w',h3,h4,h5⟩ := makeSlice_rel ok hS (val_rel hE h1) (val_rel hE h2) h
  exact .inl ⟨v',st',e,g',w',h3,ran_of h4 rfl,h5⟩
 case slice t x lo hi mx =>
  obtain ⟨u,h1,h⟩ := bind2 h
  have hu := val_rel hE h1
  have hmx : mx.map (val st) = none → mx = none := fun q => by cases mx with
   | none => rfl
   | some _ => cases q
  have hn : ∀ {z : Option Operand},z.map (val st) = none → ((none : Option (AVal U)) = none ∧ z.map a.eval = none) := fun {z} q => by cases z with
   | none => exact ⟨rfl,rfl⟩
   | some _ => cases q
  have fin : ∀ {l hh : Option (AVal U)},((l = none ∧ lo.map a.eval = none) ∨ ∃ v c,l = some v ∧ lo.map a.eval = some c ∧ RelV cx.C g v c) → ((hh = none ∧ hi.map a.eval = none) ∨ ∃ v c,hh = some v ∧ hi.map a.eval = some c ∧ RelV cx.C g v c) →
   mx = none → sliceOp cx t u l hh none st K = some r → (∃ v st' c g' w',K v st' = some r ∧ Ran P a ⟨dst,.slice t x lo hi mx,type,pos,after,guard⟩ w c w' ∧ Step cx.C S w0 st st' g g' w' v c) := by
   intro l hh h2 h3 h4 h5
   obtain ⟨v,st',e,g',w',h6,h7,h8⟩ := sliceOp_rel ok hS hu h2 h3 h5
   refine ⟨v,st',e,g',w',h6,ran_of (s := Instr.sliceAt t (a.eval x) (lo.map a.eval) (hi.map a.eval) (mx.map a.eval)) ?_ rfl,h8⟩
   rw [h4]; exact h7
  refine .inl ?_
  cases e1 : lo.map (val st) with
  | none => cases e2 : hi.map (val st) with
   | none => cases e3 : mx.map (val st) with
    | none => rw [e1,e2,e3] at h; exact fin (.inl (hn e1)) (.inl (hn e2)) (hmx e3) h
    | some _ => rw [e1,e2,e3] at h; cases h
   | some hv => cases e3 : mx.map (val st) with
    | none => cases hv with
     | none => rw [e1,e2,e3] at h; cases h
     | some hv => rw [e1,e2,e3] at h; exact fin (.inl (hn e1)) (.inr (optVal hE e2)) (hmx e3) h
    | some _ => rw [e1,e2,e3] at h; cases hv <;> cases h
  | some lv => cases lv with
   | none => cases e2 : hi.map (val st) with
    | none => cases e3 : mx.map (val st) with
     | none => rw [e1,e2,e3] at h; cases h
     | some _ => rw [e1,e2,e3] at h; cases h
    | some hv => cases e3 : mx.map (val st) with
     | none => rw [e1,e2,e3] at h; cases hv <;> cases h
     | some _ => rw [e1,e2,e3] at h; cases hv <;> cases h
   | some lv => cases e2 : hi.map (val st) with
    | none => cases e3 : mx.map (val st) with
     | none => rw [e1,e2,e3] at h; exact fin (.inr (optVal hE e1)) (.inl (hn e2)) (hmx e3) h
     | some _ => rw [e1,e2,e3] at h; cases h
    | some hv => cases e3 : mx.map (val st) with
     | none => cases hv with
      | none => rw [e1,e2,e3] at h; cases h
      | some hv => rw [e1,e2,e3] at h; exact fin (.inr (optVal hE e1)) (.inr (optVal hE e2)) (hmx e3) h
     | some _ => rw [e1,e2,e3] at h; cases hv <;> cases h
 case fieldAddr t x f =>
  obtain ⟨p,h1,h⟩ := bind2 h
  have hp := val_rel hE h1
  cases hk : (cx.TT t).k with
  | st fs =>
   rw [hk] at h
   dsimp only at h
   obtain ⟨fo,h2,h⟩ := bind2 h
   cases hc : ((cx.TT fo.2).k.known && !Nat.beq (cx.TT fo.2).size 0) with
   | false => rw [hc] at h; cases h
   | true =>
    rw [hc] at h
    simp only [Bool.and_eq_true,Bool.not_eq_true'] at hc
    have hsz : (cx.TT fo.2).size ≠ 0 := fun q => by rw [q] at hc; exact absurd hc.2 (by decide)
    refine .inl ?_
    cases p <;> dsimp only at h <;> try (cases h; done)
    · rename_i b off
      generalize hev : a.eval x = c at hp
      cases hp with
      | ptr hβ =>
       refine ⟨_,st,_,g,w,h,ran_of (s := Instr.fieldAt t (a.eval x) f) (by rw [hev]; exact fieldAddr_rel ok.tt hk h2 hc.1 hsz) rfl,step_same hS (by rw [Nat.add_assoc]; exact .ptr hβ)⟩
    · rename_i cs
      generalize hev : a.eval x = c at hp
      cases hp with
      | rp hs hi =>
       exact ⟨_,st,_,g,w,h,ran_of (s := Instr.fieldAt t (a.eval x) f) (by rw [hev]; exact fieldAddr_rel ok.tt hk h2 hc.1 hsz) rfl,step_same hS (.rp (RelVs.drop _ hs) (hi.drop _))⟩
  | _ => rw [hk] at h; dsimp only at h; cases h
 case field t x f =>
  obtain ⟨v,h1,h⟩ := bind2 h
  have hv := val_rel hE h1
  cases hk : (cx.TT t).k with
  | st fs =>
   rw [hk] at h
   cases v <;> dsimp only at h <;> try (cases h; done)
   rename_i cs
   obtain ⟨fo,h2,h⟩ := bind2 h
   obtain ⟨u,h3,h⟩ := bind2 h
   generalize hev : a.eval x = c at hv
   cases hv with
   | agg hs =>
    rename_i vs
    obtain ⟨c,h4,h5⟩ := part_rel (P := P) (w := w) ok.tt hs h3
    have hT := (ok.tt t).2
    rw [hk] at hT
    obtain ⟨F,hu,hF,_⟩ := hT
    obtain ⟨fld,h6,h7,h8⟩ := field_get hF h2
    refine .inl ⟨u,st,c,g,w,h,ran_of (s := Instr.field t (a.eval x) f) ?_ rfl,step_same hS h5⟩
    simp [Instr.field,run_underlying hu,h6,hev,asAgg,h7,h8,h4]
  | _ => rw [hk] at h; cases v <;> dsimp only at h <;> cases h
 case indexAddr t x i =>
  obtain ⟨u,h1,h⟩ := bind2 h
  obtain ⟨v,h2,h⟩ := bind2 h
  obtain ⟨v',e,h3,h4,h5⟩ := indexAddr_rel (w := w) ok hS (val_rel hE h1) (val_rel hE h2) h
  exact .inl ⟨v',st,e,g,w,h3,ran_of h4 rfl,step_same hS h5⟩
 case index t x i =>
  obtain ⟨u,h1,h⟩ := bind2 h
  obtain ⟨v,h2,h⟩ := bind2 h
  obtain ⟨v',e,h3,h4,h5⟩ := index_rel (w := w) ok (val_rel hE h1) (val_rel hE h2) h
  exact .inl ⟨v',st,e,g,w,h3,ran_of h4 rfl,step_same hS h5⟩
 case extract x i =>
  obtain ⟨v,h1,h⟩ := bind2 h
  have hv := val_rel hE h1
  cases v <;> dsimp only at h <;> try (cases h; done)
  rename_i l
  obtain ⟨u,h2,h⟩ := bind2 h
  generalize hev : a.eval x = c at hv
  cases hv with
  | tup hs =>
   rename_i vs
   obtain ⟨c,h3,h4⟩ := RelVs.nth hs h2
   refine .inl ⟨u,st,c,g,w,h,ran_of (s := Instr.extract (a.eval x) i) ?_ rfl,step_same hS h4⟩
   simp [Instr.extract,hev,h3]
 case typeAssert x xt t cok =>
  obtain ⟨v,h1,h⟩ := bind2 h
  have hv := val_rel hE h1
  have hgo : (cx.TT t).k.known = true ∧ (∀ z,(cx.TT t).k = z → z ≠ .ifc) ∧ assertTo cx t cok v st K = some r := by
   cases hk : (cx.TT t).k <;> rw [hk] at h <;> first | (cases h; done) | (exact ⟨rfl,fun z hz => by rw [← hz]; simp,h⟩)
  obtain ⟨hkn,hni,h⟩ := hgo
  obtain ⟨z,hz⟩ := (ok.tt t).known hkn
  have h2 := (ok.tt t).2
  have hz' : (zeroValue t).run P w = .ok z w := run_zero hz
  have hdd : ∃ d,P.underlying t = some d ∧ ∀ ms,d ≠ .interface ms := by
   cases hk : (cx.TT t).k <;> rw [hk] at h2 <;> first | (exact absurd rfl (hni _ hk)) | skip
   case bool => exact ⟨_,h2,fun ms q => by cases q⟩
   case int k => exact ⟨_,h2,fun ms q => by cases q⟩
   case str => exact ⟨_,h2,fun ms q => by cases q⟩
   case st fs => obtain ⟨F,hu,_⟩ := h2; exact ⟨_,hu,fun ms q => by cases q⟩
   case sl e ty => exact ⟨_,h2.1,fun ms q => by cases q⟩
   case ptr e => exact ⟨_,h2,fun ms q => by cases q⟩
   case arr n e ty => exact ⟨_,h2.1,fun ms q => by cases q⟩
   case fn => obtain ⟨p,q,s,hu⟩ := h2; exact ⟨_,hu,fun ms q => by cases q⟩
   case tup => rw [hk] at hkn; cases hkn
   case other => rw [hk] at hkn; cases hkn
  obtain ⟨d,hd,hnd⟩ := hdd
  have run1 : ∀ u,(Instr.typeAssert (.iface t u) xt t cok).run P w = .ok (if cok = true then .tuple #[u,.bool true] else u) w := by
   intro u
   cases d <;> first | (exact absurd rfl (hnd _)) | (cases cok <;> simp [Instr.typeAssert,run_underlying hd])
  have run2 : ∀ t' u,t' ≠ t → (Instr.typeAssert (.iface t' u) xt t true).run P w = .ok (.tuple #[z,.bool false]) w := by
   intro t' u e
   cases d <;> first | (exact absurd rfl (hnd _)) | (simp [Instr.typeAssert,run_underlying hd,hz',e])
  have run3 : (Instr.typeAssert .nilIface xt t true).run P w = .ok (.tuple #[z,.bool false]) w := by
   cases d <;> first | (exact absurd rfl (hnd _)) | (simp [Instr.typeAssert,run_underlying hd,hz'])
  have hzv : ∀ zv,zeroV cx t = some zv → RelV cx.C g zv z := by
   intro zv hh
   have h3 := hz.zero g
   have h4 := hz.ag
   unfold zeroV at hh
   cases hag : (cx.TT t).k.agg with
   | true =>
    rw [hag] at hh h4
    obtain rfl := Option.some.inj hh
    cases z <;> first | (cases h4; done) | skip
    rename_i vs
    have : RelVs cx.C g (cx.TT t).zero vs.toList := h3
    have e := RelV.agg this
    simpa using e
   | false =>
    rw [hag] at hh h4
    dsimp only at hh
    split at hh
    · rename_i v0 hl
      obtain rfl := Option.some.inj hh
      rw [hl] at h3
      cases z <;> first | (cases h4; done) | skip
      all_goals (obtain ⟨c,h5,h6⟩ := RelVs.one h3; simp [Value.cells] at h5; rw [h5]; exact h6)
    · cases hh
  refine .inl ?_
  cases v with
  | iface t' u =>
   unfold assertTo at h
   dsimp only at h
   generalize hev : a.eval x = c at hv
   cases hv with
   | iface hu =>
    rename_i cu
    cases e : Nat.beq t' t with
    | true =>
     rw [e] at h
     obtain rfl := Nat.eq_of_beq_eq_true e
     cases cok with
     | false => exact ⟨_,st,_,g,w,h,ran_of (s := Instr.typeAssert (a.eval x) xt t' false) (by rw [hev,run1]; rfl) rfl,step_same hS hu⟩
     | true => exact ⟨_,st,_,g,w,h,ran_of (s := Instr.typeAssert (a.eval x) xt t' true) (by rw [hev,run1]; rfl) rfl,step_same hS (.tup (.cons hu (.cons (.bool _) .nil)))⟩
    | false =>
     rw [e] at h
     have e' : t' ≠ t := fun q => by rw [q,Nat.beq_refl] at e; cases e
     cases cok with
     | false => cases h
     | true =>
      obtain ⟨zv,h3,h⟩ := bind2 h
      exact ⟨_,st,_,g,w,h,ran_of (s := Instr.typeAssert (a.eval x) xt t true) (by rw [hev]; exact run2 t' _ e') rfl,step_same hS (.tup (.cons (hzv zv h3) (.cons (.bool _) .nil)))⟩
  | nili =>
   unfold assertTo at h
   dsimp only at h
   generalize hev : a.eval x = c at hv
   cases hv
   cases cok with
   | false => cases h
   | true =>
    obtain ⟨zv,h3,h⟩ := bind2 h
    exact ⟨_,st,_,g,w,h,ran_of (s := Instr.typeAssert (a.eval x) xt t true) (by rw [hev]; exact run3) rfl,step_same hS (.tup (.cons (hzv zv h3) (.cons (.bool _) .nil)))⟩
  | _ => cases h
 case call c =>
  obtain ⟨b,hb⟩ := hnc c rfl
  obtain ⟨args,h1,h⟩ := bind2 h
  rw [hb] at h
  dsimp only at h
  obtain ⟨v,st',e,g',w',h2,h3,h4⟩ := builtin_rel (ty := type) (consts := c.args.map fun | .const _ => true | _ => false) ok hS (vals_rel hE h1) h
  refine .inl ⟨v,st',e,g',w',h2,.inl ?_,h4⟩
  obtain ⟨callee,cargs,cats⟩ := c
  dsimp only at hb h3
  subst hb
  have e1 : (cargs.map a.eval) = (cargs.toList.map a.eval).toArray := by apply Array.ext'; simp
  simp only [execOp,resolve,Sem.run_bind,Sem.run_pure,Result.andThen,invoke]
  rw [e1]
  exact h3
 case panic x =>
  obtain ⟨v,h1,h⟩ := bind2 h
  have hv := val_rel hE h1
  cases v <;> dsimp only at h <;> try (cases h; done)
  generalize hev : a.eval x = c at hv
  cases hv with
  | iface hv' =>
   refine .inr ⟨_,_,h,.iface hv',?_⟩
   simp [execOp,Instr.panic,hev,goPanic]
end
end Go.Proofs.YtccfmfifnbnlmaaGreatDoor.Ev
end
section
/- A region's operations in their order: guards, puts, calls. -/
set_option linter.unusedVariables false
set_option linter.unusedSimpArgs false
namespace Go.Proofs.YtccfmfifnbnlmaaGreatDoor.Ev
open Go

section
variable {U : Nat → Type} {P : Program} {g g' : Gh} {w w' w0 : World} {R : Type} {S : Nat → Nat → Bool} {st : St U} {cx : Cx U R}

abbrev CallR (U : Nat → Type) (R : Type) := FuncId → List (AVal U) → St U → (Res U → St U → Option R) → Option R

inductive ResRel (C : Codec U) (g : Gh) : Res U → Ending → Prop
  | ret {v : AVal U} {c : Value} : RelV C g v c → ResRel C g (.ret v) (.returned c)
  | pan {v : AVal U} {c : Value} : RelV C g v c → ResRel C g (.pan v) (.panicked [{ v := c, recovered := false }])

/-- What a call does: the spec's word for the whole state. -/
def CallOk (P : Program) (C : Codec U) (f : FuncId) (spec : List (AVal U) → St U → (Res U → St U → Option R) → Option R) : Prop :=
  ∀ (args : List (AVal U)) (st : St U) (K : Res U → St U → Option R) (r : R), spec args st K = some r → ∀ (S : Nat → Nat → Bool) (w0 : World) (g : Gh) (w : World) (cs : List Value), RelVs C g args cs → SRel C S w0 st g w →
    Calls P f cs.toArray w fun e w' => ∃ res st' g', K res st' = some r ∧ Le g g' ∧ SRel C S w0 st' g' w' ∧ Same st st' ∧ ResRel C g' res e

/-- A function's word on states of its own. -/
def CallOkL (P : Program) (C : Codec U) (f : FuncId) (spec : List (AVal U) → St U → (Res U → St U → Option R) → Option R) : Prop :=
  ∀ (args : List (AVal U)) (cs : List (List (AVal U))) (n : Nat) (K : Res U → St U → Option R) (r : R), spec args (lcSt cs n) K = some r → ∀ (S : Nat → Nat → Bool) (w0 : World) (g : Gh) (w : World) (vs : List Value), RelVs C g args vs → SRel C S w0 (lcSt cs n) g w →
    Calls P f vs.toArray w fun e w' => ∃ res st' g', K res st' = some r ∧ Le g g' ∧ SRel C S w0 st' g' w' ∧ Same (lcSt cs n) st' ∧ ResRel C g' res e

def FnOk (P : Program) (f : FuncId) : Prop := ∃ fn, P.funcs[f]? = some fn ∧ (fn.name == "runtime.NumGoroutine") = false ∧ fn.body.isSome = true

structure Calls.Ok (P : Program) (cx : Cx U R) (callR : CallR U R) : Prop where
  ext : ∀ f s, cx.ext f = some s → FnOk P f ∧ CallOkL P cx.C f s.2
  recur : ∀ f, CallOkL P cx.C f (callR f)
  fn : ∀ f args st K r, callR f args st K = some r → FnOk P f

/-! ### guards -/
def Yields (tmps : Array Value) (d : Nat) (want : Bool) : Prop := tmps.getD d undef = .bool want

theorem gOf_yields {C : Codec U} {gv : AVal U} {c : Value} {want b : Bool} (h : RelV C g gv c) (hb : gOf want gv = some b) : b = true ↔ c = .bool want := by
  unfold gOf at hb
  split at hb
  · rename_i x
    cases h
    cases want <;> cases x <;> simp_all
  · rename_i d' w' b' x
    cases h with
    | gd h1 h2 =>
      cases b' with
      | true =>
        have := h1 rfl
        cases this
        cases want <;> cases x <;> simp_all
      | false =>
        have := h2 rfl
        subst this
        cases want <;> simp_all [undef]
  · cases h
    obtain rfl := Option.some.inj hb
    cases want <;> simp [undef]
  · cases hb

theorem lookup_ungdEnv (d : Nat) (want : Bool) (a : Nat) : ∀ env : List (Nat × AVal U), lookup a (ungdEnv d want env) = (lookup a env).map (ungd d want)
  | [] => rfl
  | (x, v) :: r => by
    unfold ungdEnv lookup
    cases Nat.beq x a with
    | true => rfl
    | false => exact lookup_ungdEnv d want a r

theorem EnvRel.free {C : Codec U} {gs : List Nat} {env : List (Nat × AVal U)} {tmps : Array Value} {d : Nat} {want : Bool} (hE : EnvRel C g env tmps) (hG : GdInv gs env) (hy : Yields tmps d want) :
    EnvRel C g (ungdEnv d want env) tmps ∧ GdInv gs (ungdEnv d want env) := by
  -- what is guarded so is what it says
  have key : ∀ a b v, lookup a env = some (.gd d want b v) → b = true := by
    intro a b v h
    obtain ⟨_, _, gv, h1, h2⟩ := hG.of a d want b v h
    exact (gOf_yields (hE d gv h1) h2).2 hy
  refine ⟨fun a v hv => ?_, ⟨fun a d2 w2 b2 v2 hv => ?_⟩⟩
  · rw [lookup_ungdEnv] at hv
    obtain ⟨u, h1, h2⟩ := Option.map_eq_some_iff.1 hv
    have h3 := hE a u h1
    cases u with
    | gd d' want' b x =>
      rw [ungd_gd] at h2
      by_cases q : d' = d ∧ want' = want
      · rw [if_pos q] at h2
        obtain ⟨rfl, rfl⟩ := q
        subst h2
        have := key a b x h1
        cases h3 with
        | gd h4 _ => exact h4 this
      · rw [if_neg q] at h2
        subst h2
        exact h3
    | _ => rw [ungd_other rfl] at h2; subst h2; exact h3
  · rw [lookup_ungdEnv] at hv
    obtain ⟨u, h1, h2⟩ := Option.map_eq_some_iff.1 hv
    have hu : u = .gd d2 w2 b2 v2 := by
      cases u with
      | gd d' want' b x =>
        rw [ungd_gd] at h2
        by_cases q : d' = d ∧ want' = want
        · rw [if_pos q] at h2
          obtain ⟨_, h4, _⟩ := hG.of a d' want' b x h1
          rw [h2] at h4
          cases h4
        · rw [if_neg q] at h2; exact h2
      | _ => rw [ungd_other rfl] at h2; exact h2
    subst hu
    obtain ⟨h3, h4, gv, h5, h6⟩ := hG.of a d2 w2 b2 v2 h1
    refine ⟨h3, h4, ungd d want gv, by rw [lookup_ungdEnv, h5]; rfl, ?_⟩
    cases gv with
    | gd d' want' b x =>
      rw [ungd_gd]
      by_cases q : d' = d ∧ want' = want
      · rw [if_pos q]
        obtain ⟨rfl, rfl⟩ := q
        have := key d2 b x h5
        subst this
        cases x <;> simp [gOf] at h6 <;> cases w2 <;> simp_all [gOf]
      · rw [if_neg q]; exact h6
    | _ => rw [ungd_other rfl]; exact h6

theorem EnvRel.chain {C : Codec U} {gs : List Nat} {env : List (Nat × AVal U)} {tmps : Array Value} (hE : EnvRel C g env tmps) (hG : GdInv gs env) : ∀ (n d : Nat) (want : Bool), Yields tmps d want →
    EnvRel C g (ungdChain n d want env) tmps ∧ GdInv gs (ungdChain n d want env)
  | 0, _, _, _ => ⟨hE, hG⟩
  | n + 1, d, want, hy => by
    unfold ungdChain
    split
    · rename_i d' want' b v h
      obtain ⟨_, _, gv, h1, h2⟩ := hG.of d d' want' b v h
      have h3 := hE d _ h
      have hb : b = true := by
        cases b with
        | true => rfl
        | false =>
          cases h3 with
          | gd _ h4 => have := h4 rfl; rw [hy] at this; cases this
      have hy' : Yields tmps d' want' := (gOf_yields (hE d' gv h1) h2).1 hb
      obtain ⟨h4, h5⟩ := EnvRel.chain hE hG n d' want' hy'
      exact h4.free h5 hy
    · exact hE.free hG hy

theorem lookup_cons (d a : Nat) (v : AVal U) (env : List (Nat × AVal U)) : lookup a ((d, v) :: env) = if d = a then some v else lookup a env := by
  rw [show lookup a ((d, v) :: env) = (match Nat.beq d a with | true => some v | false => lookup a env) from rfl]
  cases h : Nat.beq d a with
  | true => rw [if_pos (Nat.eq_of_beq_eq_true h)]
  | false => rw [if_neg (fun q => by rw [q, Nat.beq_refl] at h; cases h)]

/-- A guard's own value, once it is known. -/
theorem EnvRel.know {C : Codec U} {gs : List Nat} {env : List (Nat × AVal U)} {tmps : Array Value} {d : Nat} {x : Bool} (hE : EnvRel C g env tmps) (hG : GdInv gs env) (hy : Yields tmps d x) (hd : lookup d env = some (.bool x)) :
    EnvRel C g ((d, .bool x) :: ungdEnv d x env) tmps ∧ GdInv gs ((d, .bool x) :: ungdEnv d x env) := by
  obtain ⟨h1, h2⟩ := hE.free hG hy
  refine ⟨fun a v hv => ?_, ⟨fun a d2 w2 b2 v2 hv => ?_⟩⟩
  · rw [lookup_cons] at hv
    by_cases q : d = a
    · rw [if_pos q] at hv
      obtain rfl := Option.some.inj hv
      rw [← q, hy]
      exact .bool _
    · rw [if_neg q] at hv; exact h1 a v hv
  · rw [lookup_cons] at hv
    by_cases q : d = a
    · rw [if_pos q] at hv; cases hv
    · rw [if_neg q] at hv
      obtain ⟨h3, h4, gv, h5, h6⟩ := h2.of a d2 w2 b2 v2 hv
      refine ⟨h3, h4, ?_⟩
      rw [lookup_cons]
      by_cases q2 : d = d2
      · rw [if_pos q2]
        refine ⟨_, rfl, ?_⟩
        subst q2
        rw [lookup_ungdEnv, hd] at h5
        obtain rfl := Option.some.inj h5
        exact h6
      · rw [if_neg q2]; exact ⟨gv, h5, h6⟩

structure SameEnv (st st' : St U) : Prop where
  eq : st' = { st with env := st'.env }

theorem GdInv.more {gs : List Nat} {env : List (Nat × AVal U)} {k : Nat} (h : GdInv gs env) : GdInv (k :: gs) env :=
  ⟨fun a d want b v hv => by
    obtain ⟨h1, h2⟩ := h.of a d want b v hv
    refine ⟨?_, h2⟩
    unfold hasTok
    cases Nat.beq k d with
    | true => rfl
    | false => exact h1⟩

theorem force_rel {C : Codec U} {tmps : Array Value} : ∀ (n d : Nat) (want : Bool) (st : St U) (K : Bool → St U → Option R) (r : R), force n d want st K = some r → EnvRel C g st.env tmps → GdInv st.gs st.env →
    ∃ on env' gs', K on { st with env := env', gs := gs' } = some r ∧ EnvRel C g env' tmps ∧ GdInv gs' env' ∧ (on = true ↔ Yields tmps d want)
  | 0, _, _, _, _, _, h, _, _ => by cases h
  | n + 1, d, want, st, K, r, h, hE, hG => by
    unfold force at h
    obtain ⟨v, h1, h⟩ := Option.bind_eq_some_iff.1 h
    have hv := hE d v h1
    split at h
    · rename_i b
      have hy : Yields tmps d b := by
        unfold Yields
        generalize tmps.getD d undef = c at hv
        cases hv; rfl
      by_cases q : b = true
      · subst q
        rw [if_pos rfl] at h
        obtain ⟨h2, h3⟩ := hE.know hG hy h1
        refine ⟨want, _, _, h, h2, h3.more, ?_⟩
        unfold Yields at hy ⊢
        rw [hy]
        cases want <;> simp
      · have q' : b = false := by simpa using q
        subst q'
        rw [if_neg q] at h
        obtain ⟨h2, h3⟩ := hE.know hG hy h1
        refine ⟨!want, _, _, h, h2, h3.more, ?_⟩
        unfold Yields at hy ⊢
        rw [hy]
        cases want <;> simp
    · rename_i d' want' b x
      obtain ⟨_, _, gv, h2, h3⟩ := hG.of d d' want' b _ h1
      have hg := gOf_yields (hE d' gv h2) h3
      obtain ⟨on, env', gs', h4, h5, h6, h7⟩ := force_rel n d' want' st _ r h hE hG
      cases on with
      | true =>
        obtain ⟨on2, env2, gs2, h8, h9, h10, h11⟩ := force_rel n d want { st with env := env', gs := gs' } K r h4 h5 h6
        exact ⟨on2, env2, gs2, h8, h9, h10, h11⟩
      | false =>
        refine ⟨false, env', gs', h4, h5, h6, ?_⟩
        have hb : b = false := by
          cases b with
          | false => rfl
          | true => have := h7.2 (hg.1 rfl); cases this
        cases hv with
        | gd _ h8 =>
          have := h8 hb
          unfold Yields
          rw [this]
          simp [undef]
    · refine ⟨false, st.env, st.gs, h, hE, hG, ?_⟩
      unfold Yields
      generalize tmps.getD d undef = c at hv
      cases hv
      simp [undef]
    · cases h
end
end Go.Proofs.YtccfmfifnbnlmaaGreatDoor.Ev
end
section
/- A call is run on what its arguments reach; what it does not reach stays as it is. -/
set_option linter.unusedVariables false
set_option linter.unusedSimpArgs false
namespace Go.Proofs.YtccfmfifnbnlmaaGreatDoor.Ev
open Go
section
variable {U : Nat → Type} {P : Program} {w0 : World} {R : Type} {S : Nat → Nat → Bool} {cx : Cx U R} {C : Codec U} {g g' g2 : Gh} {w w' : World} {st st' : St U}
theorem plains_append : ∀ {a b : List (AVal U)},plains a = true → plains b = true → plains (a ++ b) = true
 | [],b,_,hb => hb
 | v :: r,b,ha,hb => by
  simp only [plains,Bool.and_eq_true] at ha
  simp only [List.cons_append,plains,ha.1,plains_append ha.2 hb,Bool.and_self]
theorem flat_plain (hC : CodecOk2 C) : ∀ (t : Ty) (x : t.den U),plains (flat C t x) = true
 | .unit,_ => rfl
 | .int _,_ => rfl
 | .bool,_ => rfl
 | .str,_ => rfl
 | .pair a b,x => plains_append (flat_plain hC a x.1) (flat_plain hC b x.2)
 | .sl _,_ => rfl
 | .user i,x => hC.pl i x
theorem cellsAll_plain (hC : CodecOk2 C) (t : Ty) : ∀ l : List (t.den U),plains (cellsAll C t l) = true
 | [] => rfl
 | x :: r => plains_append (flat_plain hC t x) (cellsAll_plain hC t r)
mutual
theorem RelV.plain (hC : CodecOk2 C) (hi : ∀ b o v,g.own b o = .imm v → g'.own b o = .imm v) : ∀ {v : AVal U} {c : Value},RelV C g v c → plain v = true → RelV C g' v c
 | _,_,.junk _,h => by cases h
 | _,_,.bool b,_ => .bool b
 | _,_,.int k n,_ => .int k n
 | _,_,.str s,_ => .str s
 | _,_,.nilp,_ => .nilp
 | _,_,.nili,_ => .nili
 | _,_,.nilf,_ => .nilf
 | _,_,.nils,_ => .nils
 | _,_,.ptr _,h => by cases h
 | _,_,.rp _ _,h => by cases h
 | _,_,.sl0 hz,_ => .sl0 hz
 | _,_,.sle hz,_ => .sle hz
 | _,_,.sl (p := p) hs hm hl hp,h => .sl (RelVs.plain hC hi hs (cellsAll_plain hC _ _)) (fun j v hv => hi _ _ _ (hm j v hv)) hl (by cases p <;> first | trivial | cases h)
 | _,_,.agg _,h => by cases h
 | _,_,.tup _,h => by cases h
 | _,_,.iface _,h => by cases h
 | _,_,.fn _,h => by cases h
 | _,_,.gd _ _,h => by cases h
theorem RelVs.plain (hC : CodecOk2 C) (hi : ∀ b o v,g.own b o = .imm v → g'.own b o = .imm v) : ∀ {vs : List (AVal U)} {cs : List Value},RelVs C g vs cs → plains vs = true → RelVs C g' vs cs
 | _,_,.nil,_ => .nil
 | _,_,.cons hv hs,h => by
  simp only [plains,Bool.and_eq_true] at h
  exact .cons (RelV.plain hC hi hv h.1) (RelVs.plain hC hi hs h.2)
end
theorem coArgs_rel {C : Codec U} {g : Gh} : ∀ {ts : List TypeId} {args : List (AVal U)} {cs : List Value},RelVs C g args cs → RelVs C g (coArgs cx ts args) cs
 | [],_,_,h => by cases h <;> first | exact .nil | exact .cons ‹_› ‹_›
 | t :: ts,_,_,.nil => .nil
 | t :: ts,_,_,.cons hv hs => .cons (co_rel hv) (coArgs_rel hs)
/-! ### numbers -/
theorem idx_nth {b : Nat} : ∀ {l : List Nat} {i : Nat},idx b l = some i → nth l i = some b
 | [],i,h => by cases h
 | a :: r,i,h => by
  unfold idx at h
  cases e : Nat.beq a b with
  | true =>
   rw [e] at h
   obtain rfl := Option.some.inj h
   rw [Nat.eq_of_beq_eq_true e]; rfl
  | false =>
   rw [e] at h
   dsimp only at h
   cases e2 : idx b r with
   | none => rw [e2] at h; cases h
   | some j =>
    rw [e2] at h
    obtain rfl := Option.some.inj h
    show nth r j = some b
    exact idx_nth e2
theorem nth_hasTok {b : Nat} : ∀ {l : List Nat} {i : Nat},nth l i = some b → hasTok b l = true
 | [],i,h => by cases h
 | a :: r,0,h => by
  obtain rfl := Option.some.inj h
  exact hasTok_cons.2 (.inl rfl)
 | a :: r,i + 1,h => hasTok_cons.2 (.inr (nth_hasTok h))
theorem idx_none {b : Nat} : ∀ {l : List Nat},idx b l = none ↔ hasTok b l = false
 | [] => ⟨fun _ => rfl,fun _ => rfl⟩
 | a :: r => by
  have ih := idx_none (b := b) (l := r)
  rw [show idx b (a :: r) = (match Nat.beq a b with | true => some 0 | false => match idx b r with | some i => some (i + 1) | none => none) from rfl,show hasTok b (a :: r) = (match Nat.beq a b with | true => true | false => hasTok b r) from rfl]
  cases e : Nat.beq a b with
  | true => simp
  | false =>
   dsimp only
   rw [← ih]
   cases idx b r with
   | none => simp
   | some j => simp
theorem nth_idx {b : Nat} : ∀ {l : List Nat} {i : Nat},uniqB l = true → nth l i = some b → idx b l = some i
 | [],i,_,h => by cases h
 | a :: r,0,_,h => by
  obtain rfl := Option.some.inj h
  unfold idx
  rw [Nat.beq_refl]
 | a :: r,i + 1,hu,h => by
  simp only [uniqB,Bool.and_eq_true,Bool.not_eq_true'] at hu
  have h' : nth r i = some b := h
  unfold idx
  cases e : Nat.beq a b with
  | true =>
   have := Nat.eq_of_beq_eq_true e
   rw [this,nth_hasTok h'] at hu
   cases hu.1
  | false => rw [nth_idx hu.2 h']
theorem nthLen {α : Type} {l : List α} {i : Nat} {x : α} (h : nth l i = some x) : i < l.length := by
 rw [nth_get] at h
 exact (List.getElem?_eq_some_iff.1 h).1
theorem nthNone {α : Type} {l : List α} {i : Nat} (h : l.length ≤ i) : nth l i = none := by
 rw [nth_get]; exact List.getElem?_eq_none h
theorem nthSome {α : Type} {l : List α} {i : Nat} (h : i < l.length) : ∃ x,nth l i = some x := ⟨l[i],by rw [nth_get]; exact List.getElem?_eq_getElem h⟩
theorem allIn_nth {live : List Nat} : ∀ {l : List Nat} {i t : Nat},allIn live l = true → nth l i = some t → hasTok t live = true
 | [],i,t,_,h => by cases h
 | a :: r,0,t,ha,h => by
  obtain rfl := Option.some.inj h
  simp only [allIn,Bool.and_eq_true] at ha; exact ha.1
 | a :: r,i + 1,t,ha,h => by
  simp only [allIn,Bool.and_eq_true] at ha; exact allIn_nth ha.2 h
theorem boxesAt_nth {bx : List (List (AVal U))} : ∀ {l : List Nat} {cs : List (List (AVal U))},boxesAt bx l = some cs → cs.length = l.length ∧ ∀ i b,nth l i = some b → ∃ c,nth cs i = some c ∧ nth bx b = some c
 | [],cs,h => by
  obtain rfl := Option.some.inj h
  exact ⟨rfl,fun i b hb => by cases hb⟩
 | a :: r,cs,h => by
  unfold boxesAt at h
  obtain ⟨c,h1,h⟩ := bind2 h
  obtain ⟨l,h2,h⟩ := bind2 h
  obtain rfl := Option.some.inj h
  obtain ⟨h3,h4⟩ := boxesAt_nth h2
  refine ⟨by simp [h3],fun i b hb => ?_⟩
  cases i with
  | zero =>
   obtain rfl := Option.some.inj hb
   exact ⟨c,rfl,h1⟩
  | succ i => exact h4 i b hb
/-! ### the ghost of the call -/
def seen (w : World) (b o : Nat) : Option Value :=
 match w.cell? ⟨b,o,none⟩,w.frozen? ⟨b,o,none⟩ with
 | some v,false => some v
 | _,_ => none
theorem seen_some {b o : Nat} {v : Value} : seen w b o = some v ↔ w.cell? ⟨b,o,none⟩ = some v ∧ w.frozen? ⟨b,o,none⟩ = false := by
 unfold seen
 cases h1 : w.cell? ⟨b,o,none⟩ <;> cases h2 : w.frozen? ⟨b,o,none⟩ <;> simp
/-- Cells that the call does not reach: what they hold. -/
def away (g : Gh) (w : World) (bs ts : List Nat) (b o : Nat) : Option Value :=
 match g.own b o with
 | .box k => match idx k bs with
  | some _ => none
  | none => seen w b o
 | .spare t => match idx t ts with
  | some _ => none
  | none => seen w b o
 | _ => none
def Gh.lc (g : Gh) (w : World) (bs ts : List Nat) : Gh :=
 { own := fun b o => match away g w bs ts b o with
    | some v => .hid v
    | none => match g.own b o with
     | .box k => match idx k bs with
      | some i => .box i
      | none => .out
     | .spare t => match idx t ts with
      | some j => .spare j
      | none => .out
     | x => x
   β := fun i => (nth bs i).bind g.β
   τ := fun j => (nth ts j).bind g.τ
   lo := g.lo }
theorem away_some {bs ts : List Nat} {b o : Nat} {v : Value} (h : away g w bs ts b o = some v) :
 seen w b o = some v ∧ ((∃ k,g.own b o = .box k ∧ idx k bs = none) ∨ (∃ t,g.own b o = .spare t ∧ idx t ts = none)) := by
 unfold away at h
 split at h
 · rename_i k hk
   split at h
   · cases h
   · rename_i hi; exact ⟨h,.inl ⟨k,hk,hi⟩⟩
 · rename_i t hk
   split at h
   · cases h
   · rename_i hi; exact ⟨h,.inr ⟨t,hk,hi⟩⟩
 · cases h
theorem lc_away {bs ts : List Nat} {b o : Nat} {v : Value} (h : away g w bs ts b o = some v) : (g.lc w bs ts).own b o = .hid v := by
 show (match away g w bs ts b o with | some v => Own.hid v | none => _) = _
 rw [h]
theorem lc_imm {bs ts : List Nat} {b o : Nat} {v : Value} (h : g.own b o = .imm v) : away g w bs ts b o = none ∧ (g.lc w bs ts).own b o = .imm v := by
 have h1 : away g w bs ts b o = none := by unfold away; rw [h]
 refine ⟨h1,?_⟩
 show (match away g w bs ts b o with | some v => Own.hid v | none => _) = _
 rw [h1]; dsimp only; rw [h]
theorem lc_hid {bs ts : List Nat} {b o : Nat} {v : Value} (h : g.own b o = .hid v) : away g w bs ts b o = none ∧ (g.lc w bs ts).own b o = .hid v := by
 have h1 : away g w bs ts b o = none := by unfold away; rw [h]
 refine ⟨h1,?_⟩
 show (match away g w bs ts b o with | some v => Own.hid v | none => _) = _
 rw [h1]; dsimp only; rw [h]
theorem lc_box {bs ts : List Nat} {b o k i : Nat} (h : g.own b o = .box k) (hi : idx k bs = some i) : away g w bs ts b o = none ∧ (g.lc w bs ts).own b o = .box i := by
 have h1 : away g w bs ts b o = none := by unfold away; rw [h]; dsimp only; rw [hi]
 refine ⟨h1,?_⟩
 show (match away g w bs ts b o with | some v => Own.hid v | none => _) = _
 rw [h1]; dsimp only; rw [h]; dsimp only; rw [hi]
theorem lc_spare {bs ts : List Nat} {b o t j : Nat} (h : g.own b o = .spare t) (hi : idx t ts = some j) : away g w bs ts b o = none ∧ (g.lc w bs ts).own b o = .spare j := by
 have h1 : away g w bs ts b o = none := by unfold away; rw [h]; dsimp only; rw [hi]
 refine ⟨h1,?_⟩
 show (match away g w bs ts b o with | some v => Own.hid v | none => _) = _
 rw [h1]; dsimp only; rw [h]; dsimp only; rw [hi]
/-- What the call's ghost says of a cell comes from what the caller's says. -/
theorem lc_of {bs ts : List Nat} {b o : Nat} {x : Own} (h : (g.lc w bs ts).own b o = x) :
 (∃ v,x = .hid v ∧ away g w bs ts b o = some v) ∨ (away g w bs ts b o = none ∧ ((∃ k i,x = .box i ∧ g.own b o = .box k ∧ idx k bs = some i) ∨ (∃ t j,x = .spare j ∧ g.own b o = .spare t ∧ idx t ts = some j) ∨
  (∃ v,x = .imm v ∧ g.own b o = .imm v) ∨ (∃ v,x = .hid v ∧ g.own b o = .hid v) ∨ x = .out)) := by
 have h' : (match away g w bs ts b o with
  | some v => Own.hid v
  | none => match g.own b o with
   | .box k => match idx k bs with
    | some i => .box i
    | none => .out
   | .spare t => match idx t ts with
    | some j => .spare j
    | none => .out
   | x => x) = x := h
 cases e : away g w bs ts b o with
 | some v => rw [e] at h'; exact .inl ⟨v,h'.symm,rfl⟩
 | none =>
  rw [e] at h'
  dsimp only at h'
  refine .inr ⟨rfl,?_⟩
  cases e2 : g.own b o with
  | out => rw [e2] at h'; exact .inr (.inr (.inr (.inr h'.symm)))
  | imm v => rw [e2] at h'; exact .inr (.inr (.inl ⟨v,h'.symm,rfl⟩))
  | hid v => rw [e2] at h'; exact .inr (.inr (.inr (.inl ⟨v,h'.symm,rfl⟩)))
  | box k =>
   rw [e2] at h'
   dsimp only at h'
   cases e3 : idx k bs with
   | none => rw [e3] at h'; exact .inr (.inr (.inr (.inr h'.symm)))
   | some i => rw [e3] at h'; exact .inl ⟨k,i,h'.symm,rfl,e3⟩
  | spare t =>
   rw [e2] at h'
   dsimp only at h'
   cases e3 : idx t ts with
   | none => rw [e3] at h'; exact .inr (.inr (.inr (.inr h'.symm)))
   | some j => rw [e3] at h'; exact .inr (.inl ⟨t,j,h'.symm,rfl,e3⟩)
theorem renP_zer {kp : Bool} {ts : List Nat} {p : Perm} (h : p.zer = true) : (renP kp ts p).zer = true := by
 cases p with
 | nn => cases h
 | em => rfl
 | no => rfl
 | nil => rfl
 | exact => cases kp <;> rfl
 | tok i =>
  show Perm.zer (match idx i ts with | some j => .tok j | none => .no) = true
  cases idx i ts <;> rfl
theorem renP_som {kp : Bool} {ts : List Nat} {p : Perm} (h : p.som = true) : (renP kp ts p).som = true := by
 cases p with
 | nil => cases h
 | em => cases h
 | no => rfl
 | nn => rfl
 | exact => cases kp <;> rfl
 | tok i =>
  show Perm.som (match idx i ts with | some j => .tok j | none => .no) = true
  cases idx i ts <;> rfl
theorem renP_ok {kp : Bool} {bs ts : List Nat} {s : Option (Nat × Nat × Nat)} {len cap : Nat} (hu : uniqB ts = true) : ∀ {p : Perm},PermOK g s len cap p → PermOK (g.lc w bs ts) s len cap (renP kp ts p)
 | .no,_ => trivial
 | .exact,h => by cases kp <;> first | exact h | exact trivial
 | .nil,h => h
 | .nn,_ => trivial
 | .em,_ => trivial
 | .tok i,h => by
  show PermOK _ s len cap (match idx i ts with | some j => .tok j | none => .no)
  cases e : idx i ts with
  | none => exact trivial
  | some j =>
   refine h.imp (fun h => ?_) id
   show (nth ts j).bind g.τ = _
   rw [idx_nth e]; exact h
mutual
theorem ren_rel (hC : CodecOk2 C) {kp : Bool} {bs ts : List Nat} (hb : uniqB bs = true) (ht : uniqB ts = true) : ∀ {v v' : AVal U} {c : Value},ren kp bs ts v = some v' → RelV C g v c → RelV C (g.lc w bs ts) v' c
 | .junk,_,_,h,r => by obtain rfl := Option.some.inj h; cases r; exact .junk _
 | .und,_,_,h,r => by obtain rfl := Option.some.inj h; cases r; exact .und
 | .bool _,_,_,h,r => by obtain rfl := Option.some.inj h; cases r; exact .bool _
 | .int _ _,_,_,h,r => by obtain rfl := Option.some.inj h; cases r; exact .int _ _
 | .str _,_,_,h,r => by obtain rfl := Option.some.inj h; cases r; exact .str _
 | .nilp,_,_,h,r => by obtain rfl := Option.some.inj h; cases r; exact .nilp
 | .nili,_,_,h,r => by obtain rfl := Option.some.inj h; cases r; exact .nili
 | .nilf,_,_,h,r => by obtain rfl := Option.some.inj h; cases r; exact .nilf
 | .nils,_,_,h,r => by obtain rfl := Option.some.inj h; cases r; exact .nils
 | .ptr b off,_,_,h,r => by
  unfold ren at h
  cases e : idx b bs with
  | none => rw [e] at h; cases h
  | some i =>
   rw [e] at h
   obtain rfl := Option.some.inj h
   cases r with
   | ptr hβ =>
    refine .ptr ?_
    show (nth bs i).bind g.β = _
    rw [idx_nth e]; exact hβ
 | .rp cs,_,_,h,r => by
  unfold ren at h
  obtain ⟨l,h1,h⟩ := bind2 h
  obtain rfl := Option.some.inj h
  cases r with
  | rp hs hi => exact .rp (rens_rel hC hb ht h1 hs) (fun j v hv => (lc_imm (hi j v hv)).2)
 | .sl t l p,_,_,h,r => by
  unfold ren at h
  obtain rfl := Option.some.inj h
  cases r with
  | sl0 hz => exact .sl0 (renP_zer hz)
  | sle hz => exact .sle (renP_som hz)
  | sl hs hi hl hp => exact .sl (RelVs.plain hC (fun b o v hv => (lc_imm hv).2) hs (cellsAll_plain hC _ _)) (fun j v hv => (lc_imm (hi j v hv)).2) hl (renP_ok ht hp)
 | .agg cs,_,_,h,r => by
  unfold ren at h
  obtain ⟨l,h1,h⟩ := bind2 h
  obtain rfl := Option.some.inj h
  cases r with
  | agg hs => exact .agg (rens_rel hC hb ht h1 hs)
 | .tup cs,_,_,h,r => by
  unfold ren at h
  obtain ⟨l,h1,h⟩ := bind2 h
  obtain rfl := Option.some.inj h
  cases r with
  | tup hs => exact .tup (rens_rel hC hb ht h1 hs)
 | .iface t v,_,_,h,r => by
  unfold ren at h
  obtain ⟨u,h1,h⟩ := bind2 h
  obtain rfl := Option.some.inj h
  cases r with
  | iface hv => exact .iface (ren_rel hC hb ht h1 hv)
 | .fn f cs,_,_,h,r => by
  unfold ren at h
  obtain ⟨l,h1,h⟩ := bind2 h
  obtain rfl := Option.some.inj h
  cases r with
  | fn hs => exact .fn (rens_rel hC hb ht h1 hs)
 | .gd _ _ _ _,_,_,h,_ => by unfold ren at h; cases h
theorem rens_rel (hC : CodecOk2 C) {kp : Bool} {bs ts : List Nat} (hb : uniqB bs = true) (ht : uniqB ts = true) : ∀ {vs vs' : List (AVal U)} {cs : List Value},rens kp bs ts vs = some vs' → RelVs C g vs cs → RelVs C (g.lc w bs ts) vs' cs
 | [],_,_,h,r => by obtain rfl := Option.some.inj h; cases r; exact .nil
 | v :: vs,_,_,h,r => by
  unfold rens at h
  obtain ⟨u,h1,h⟩ := bind2 h
  obtain ⟨l,h2,h⟩ := bind2 h
  obtain rfl := Option.some.inj h
  cases r with
  | cons hv hs => exact .cons (ren_rel hC hb ht h1 hv) (rens_rel hC hb ht h2 hs)
end
theorem renBoxes_nth {kp : Bool} {bs ts : List Nat} : ∀ {cs cs' : List (List (AVal U))},renBoxes kp bs ts cs = some cs' → cs'.length = cs.length ∧ ∀ i c',nth cs' i = some c' → ∃ c,nth cs i = some c ∧ rens kp bs ts c = some c'
 | [],_,h => by obtain rfl := Option.some.inj h; exact ⟨rfl,fun i c h => by cases h⟩
 | c :: cs,_,h => by
  unfold renBoxes at h
  obtain ⟨u,h1,h⟩ := bind2 h
  obtain ⟨l,h2,h⟩ := bind2 h
  obtain rfl := Option.some.inj h
  obtain ⟨h3,h4⟩ := renBoxes_nth h2
  refine ⟨by simp [h3],fun i c' hc => ?_⟩
  cases i with
  | zero =>
   obtain rfl := Option.some.inj hc
   exact ⟨c,rfl,h1⟩
  | succ i => exact h4 i c' hc
theorem hasTok_up {a i : Nat} : ∀ {n : Nat},hasTok i (upto a n) = true ↔ a ≤ i ∧ i < a + n
 | 0 => by simp [upto,hasTok]
 | n + 1 => by
  unfold upto
  rw [hasTok_cons,hasTok_up]
  omega
theorem uniq_up (a : Nat) : ∀ n : Nat,Uniq (upto a n)
 | 0 => trivial
 | n + 1 => by
  refine ⟨?_,uniq_up a n⟩
  cases e : hasTok (a + n) (upto a n) with
  | false => rfl
  | true => have := hasTok_up.1 e; omega
theorem srel_lc (hC : CodecOk2 C) {kp : Bool} (hS : SRel C S w0 st g w) {bs ts : List Nat} (hb : uniqB bs = true) (ht : uniqB ts = true) (ha : allIn st.live ts = true) {cs cs' : List (List (AVal U))} (hcs : boxesAt st.box bs = some cs) (hcs' : renBoxes kp bs ts cs = some cs') :
 SRel C S w0 (lcSt cs' ts.length) (g.lc w bs ts) w := by
 obtain ⟨c1,c2⟩ := boxesAt_nth hcs
 obtain ⟨c3,c4⟩ := renBoxes_nth hcs'
 have hH := hS.h
 refine ⟨⟨fun b o v h => ?_,fun i c blk base h1 h2 => ?_,fun j hj blk e c hτ o h1 h2 => ?_,fun b o h => ?_,hH.size,hH.os,hH.tape,hH.output,hH.old,fun b o i h hlt => ?_,fun b o i h hlt => ?_,fun b o v h1 h2 h3 => ?_,fun b o v h => ?_,hH.lo,fun b o hr => hH.fz b o (by
  rcases lc_of (g := g) (w := w) (bs := bs) (ts := ts) (b := b) (o := o) rfl with ⟨v',h1,h2⟩ | ⟨_,⟨k,i,h1,h2,_⟩ | ⟨t,j,h1,h2,_⟩ | ⟨v',h1,h2⟩ | ⟨v',h1,h2⟩ | h1⟩
  · obtain ⟨_,⟨k',h3,_⟩ | ⟨t,h3,_⟩⟩ := away_some h2 <;> rw [h3] <;> rfl
  · rw [h2]; rfl
  · rw [h2]; rfl
  · rw [h1] at hr; cases hr
  · rw [h2]; rfl
  · rw [h1] at hr; cases hr)⟩,
  fun i => ?_,fun j h => ?_,uniq_up 0 _,fun j h => by have := hasTok_up.1 h; show j < ts.length; omega⟩
 · rcases lc_of h with ⟨v',h1,_⟩ | ⟨_,⟨k,i,h1,_⟩ | ⟨t,j,h1,_⟩ | ⟨v',h1,h2⟩ | ⟨v',h1,_⟩ | h1⟩
   all_goals first | (cases h1; done) | skip
   cases h1; exact hH.imm b o v h2
 · obtain ⟨c0,h3,h4⟩ := c4 i c h1
   have hlt : i < bs.length := by rw [← c1]; exact nthLen h3
   obtain ⟨k,hk⟩ := nthSome hlt
   obtain ⟨c0',h5,h6⟩ := c2 i k hk
   rw [h3] at h5
   obtain rfl := Option.some.inj h5
   have h2' : (nth bs i).bind g.β = some (blk,base) := h2
   rw [hk] at h2'
   obtain ⟨vs,h7,h8⟩ := hH.box k c0 blk base h6 h2'
   refine ⟨vs,rens_rel hC hb ht h4 h7,fun j v hv => ?_⟩
   obtain ⟨h9,h10⟩ := h8 j v hv
   exact ⟨(lc_box h9 (nth_idx hb hk)).2,h10⟩
 · have hlt : j < ts.length := by have := hasTok_up.1 hj; omega
   obtain ⟨t,hk⟩ := nthSome hlt
   have hτ' : (nth ts j).bind g.τ = some (some (blk,e,c)) := hτ
   rw [hk] at hτ'
   obtain ⟨h3,h4⟩ := hH.live t (allIn_nth ha hk) blk e c hτ' o h1 h2
   exact ⟨(lc_spare h3 (nth_idx ht hk)).2,h4⟩
 · have h0 := hH.fresh b o h
   have h1 : away g w bs ts b o = none := by unfold away; rw [h0]
   show (match away g w bs ts b o with | some v => Own.hid v | none => _) = _
   rw [h1]; dsimp only; rw [h0]
 · rcases lc_of h with ⟨v',h1,_⟩ | ⟨_,⟨k,i,h1,h2,_⟩ | ⟨t,j,h1,_⟩ | ⟨v',h1,h2⟩ | ⟨v',h1,_⟩ | h1⟩
   all_goals first | (cases h1; done) | skip
   exact hH.wbox b o k h2 hlt
 · rcases lc_of h with ⟨v',h1,_⟩ | ⟨_,⟨k,i,h1,h2,_⟩ | ⟨t,j,h1,h2,_⟩ | ⟨v',h1,h2⟩ | ⟨v',h1,_⟩ | h1⟩
   all_goals first | (cases h1; done) | skip
   exact hH.wspare b o t h2 hlt
 · exact (lc_imm (hH.snap b o v h1 h2 h3)).2
 · rcases lc_of h with ⟨v',h1,h2⟩ | ⟨_,⟨k,i,h1,_⟩ | ⟨t,j,h1,_⟩ | ⟨v',h1,h2⟩ | ⟨v',h1,h2⟩ | h1⟩
   all_goals first | (cases h1; done) | skip
   · cases h1; exact seen_some.1 (away_some h2).1
   · cases h1; exact hH.hid b o v h2
 · show (nth bs i).bind g.β = none ↔ cs'.length ≤ i
   rw [c3,c1]
   rcases Nat.lt_or_ge i bs.length with q | q
   · obtain ⟨k,hk⟩ := nthSome q
     obtain ⟨c0,_,h6⟩ := c2 i k hk
     rw [hk]
     show g.β k = none ↔ _
     rw [hS.tb k]
     have := nthLen h6
     omega
   · rw [nthNone q]
     exact ⟨fun _ => q,fun _ => rfl⟩
 · show (nth ts j).bind g.τ = none
   rw [nthNone h]; rfl
/-! ### and back -/
def Gh.gl (g2 g : Gh) (w : World) (k : Back) : Gh :=
 { own := fun b o => match away g w k.bs k.ts b o with
    | some _ => g.own b o
    | none => match g2.own b o with
     | .box i => match glb k i with
      | some b => .box b
      | none => .out
     | .spare j => match glt k j with
      | some t => .spare t
      | none => .out
     | x => x
   β := fun b => match idx b k.bs with
    | some i => g2.β i
    | none => if b < k.nb then g.β b else (nth k.bn (b - k.nb)).bind g2.β
   τ := fun t => match idx t k.ts with
    | some j => g2.τ j
    | none => if t < k.nt then g.τ t else (nth k.tn (t - k.nt)).bind g2.τ
   lo := g2.lo }
structure BackOk (k : Back) (st st' : St U) : Prop where
 ub : uniqB k.bs = true
 ut : uniqB k.ts = true
 al : allIn st.live k.ts = true
 nb : k.nb = st.box.length
 nt : k.nt = st.nt
 un : uniqB k.bn = true
 utn : uniqB k.tn = true
 aln : allIn st'.live k.tn = true
 bnge : ∀ m i,nth k.bn m = some i → k.bs.length ≤ i ∧ i < st'.box.length
 tnge : ∀ m j,nth k.tn m = some j → k.ts.length ≤ j
theorem gl_imm {k : Back} (hle : Le (g.lc w k.bs k.ts) g2) {b o : Nat} {v : Value} (h : g2.own b o = .imm v) : (g2.gl g w k).own b o = .imm v := by
 show (match away g w k.bs k.ts b o with | some _ => g.own b o | none => _) = _
 cases e : away g w k.bs k.ts b o with
 | some v' => have := hle.hid b o v' (lc_away e); rw [h] at this; cases this
 | none => dsimp only; rw [h]
theorem gl_hid {k : Back} {b o : Nat} {v : Value} (e : away g w k.bs k.ts b o = none) (h : g2.own b o = .hid v) : (g2.gl g w k).own b o = .hid v := by
 show (match away g w k.bs k.ts b o with | some _ => g.own b o | none => _) = _
 rw [e]; dsimp only; rw [h]
theorem gl_box {k : Back} (hle : Le (g.lc w k.bs k.ts) g2) {b o i b' : Nat} (h : g2.own b o = .box i) (hi : glb k i = some b') : (g2.gl g w k).own b o = .box b' := by
 show (match away g w k.bs k.ts b o with | some _ => g.own b o | none => _) = _
 cases e : away g w k.bs k.ts b o with
 | some v' => have := hle.hid b o v' (lc_away e); rw [h] at this; cases this
 | none => dsimp only; rw [h]; dsimp only; rw [hi]
theorem gl_spare {k : Back} (hle : Le (g.lc w k.bs k.ts) g2) {b o j t : Nat} (h : g2.own b o = .spare j) (hj : glt k j = some t) : (g2.gl g w k).own b o = .spare t := by
 show (match away g w k.bs k.ts b o with | some _ => g.own b o | none => _) = _
 cases e : away g w k.bs k.ts b o with
 | some v' => have := hle.hid b o v' (lc_away e); rw [h] at this; cases this
 | none => dsimp only; rw [h]; dsimp only; rw [hj]
theorem gl_away {k : Back} {b o : Nat} {v : Value} (e : away g w k.bs k.ts b o = some v) : (g2.gl g w k).own b o = g.own b o := by
 show (match away g w k.bs k.ts b o with | some _ => g.own b o | none => _) = _
 rw [e]
theorem gl_of {k : Back} {b o : Nat} {x : Own} (h : (g2.gl g w k).own b o = x) :
 (∃ v,away g w k.bs k.ts b o = some v ∧ x = g.own b o) ∨ (away g w k.bs k.ts b o = none ∧ ((∃ i b',g2.own b o = .box i ∧ x = .box b') ∨ (∃ j t,g2.own b o = .spare j ∧ x = .spare t) ∨
  (∃ v,g2.own b o = .imm v ∧ x = .imm v) ∨ (∃ v,g2.own b o = .hid v ∧ x = .hid v) ∨ x = .out)) := by
 have h' : (match away g w k.bs k.ts b o with
  | some _ => g.own b o
  | none => match g2.own b o with
   | .box i => match glb k i with
    | some b => .box b
    | none => .out
   | .spare j => match glt k j with
    | some t => .spare t
    | none => .out
   | x => x) = x := h
 cases e : away g w k.bs k.ts b o with
 | some v => rw [e] at h'; exact .inl ⟨v,rfl,h'.symm⟩
 | none =>
  rw [e] at h'
  dsimp only at h'
  refine .inr ⟨rfl,?_⟩
  cases e2 : g2.own b o with
  | out => rw [e2] at h'; exact .inr (.inr (.inr (.inr h'.symm)))
  | imm v => rw [e2] at h'; exact .inr (.inr (.inl ⟨v,rfl,h'.symm⟩))
  | hid v => rw [e2] at h'; exact .inr (.inr (.inr (.inl ⟨v,rfl,h'.symm⟩)))
  | spare j =>
   rw [e2] at h'
   dsimp only at h'
   cases e3 : glt k j with
   | none => rw [e3] at h'; exact .inr (.inr (.inr (.inr h'.symm)))
   | some t => rw [e3] at h'; exact .inr (.inl ⟨j,t,rfl,h'.symm⟩)
  | box i =>
   rw [e2] at h'
   dsimp only at h'
   cases e3 : glb k i with
   | none => rw [e3] at h'; exact .inr (.inr (.inr (.inr h'.symm)))
   | some b' => rw [e3] at h'; exact .inl ⟨i,b',rfl,h'.symm⟩
/-- A token of the call is one of the caller: an old one, or a new one. -/
theorem glt_of {k : Back} {j t : Nat} (h : glt k j = some t) : nth k.ts j = some t ∨ (k.ts.length ≤ j ∧ ∃ m,idx j k.tn = some m ∧ t = k.nt + m) := by
 unfold glt at h
 cases e : nth k.ts j with
 | some t' => rw [e] at h; exact .inl h
 | none =>
  rw [e] at h
  dsimp only at h
  refine .inr ⟨?_,?_⟩
  · rcases Nat.lt_or_ge j k.ts.length with q | q
    · obtain ⟨x,hx⟩ := nthSome q; rw [hx] at e; cases e
    · exact q
  · cases e2 : idx j k.tn with
    | none => rw [e2] at h; cases h
    | some m => rw [e2] at h; exact ⟨m,rfl,(Option.some.inj h).symm⟩
theorem glt_old {k : Back} {j t : Nat} (h : nth k.ts j = some t) : glt k j = some t := by unfold glt; rw [h]
theorem glt_new {k : Back} {j m : Nat} (h : k.ts.length ≤ j) (hm : idx j k.tn = some m) : glt k j = some (k.nt + m) := by
 unfold glt; rw [nthNone h]; dsimp only; rw [hm]
theorem gl_τ {k : Back} (hk : BackOk k st st') (hlt : ∀ i,hasTok i st.live = true → i < st.nt) {j t : Nat} (h : glt k j = some t) : (g2.gl g w k).τ t = g2.τ j := by
 show (match idx t k.ts with | some j => g2.τ j | none => if t < k.nt then g.τ t else (nth k.tn (t - k.nt)).bind g2.τ) = _
 rcases glt_of h with h1 | ⟨h1,m,h2,rfl⟩
 · rw [nth_idx hk.ut h1]
 · have h0 : idx (k.nt + m) k.ts = none := by
    cases e : idx (k.nt + m) k.ts with
    | none => rfl
    | some i =>
     have := hlt _ (allIn_nth hk.al (idx_nth e))
     rw [← hk.nt] at this; omega
   rw [h0]
   dsimp only
   rw [if_neg (by omega),show k.nt + m - k.nt = m by omega,idx_nth h2]
   rfl
theorem gl_β {k : Back} (hk : BackOk k st st') (hin : ∀ i b,nth k.bs i = some b → b < k.nb) {i b : Nat} (h : glb k i = some b) : (g2.gl g w k).β b = g2.β i := by
 show (match idx b k.bs with | some i => g2.β i | none => if b < k.nb then g.β b else (nth k.bn (b - k.nb)).bind g2.β) = _
 unfold glb at h
 cases e : nth k.bs i with
 | some b' =>
  rw [e] at h
  obtain rfl := Option.some.inj h
  rw [nth_idx hk.ub e]
 | none =>
  rw [e] at h
  dsimp only at h
  cases e2 : idx i k.bn with
  | none => rw [e2] at h; cases h
  | some m =>
   rw [e2] at h
   obtain rfl := Option.some.inj h
   have h0 : idx (k.nb + m) k.bs = none := by
    cases e3 : idx (k.nb + m) k.bs with
    | none => rfl
    | some i' => have := hin i' _ (idx_nth e3); omega
   rw [h0]
   dsimp only
   rw [if_neg (by omega),show k.nb + m - k.nb = m by omega,idx_nth e2]
   rfl
theorem gorP_zer {k : Back} {p : Perm} (h : p.zer = true) : (gorP k p).zer = true := by
 cases p with
 | nn => cases h
 | em => rfl
 | no => rfl
 | nil => rfl
 | exact =>
  show Perm.zer (match k.kp with | true => .exact | false => .no) = true
  cases k.kp <;> rfl
 | tok i =>
  show Perm.zer (match glt k i with | some t => .tok t | none => .no) = true
  cases glt k i <;> rfl
theorem gorP_som {k : Back} {p : Perm} (h : p.som = true) : (gorP k p).som = true := by
 cases p with
 | nil => cases h
 | em => cases h
 | no => rfl
 | nn => rfl
 | exact =>
  show Perm.som (match k.kp with | true => .exact | false => .no) = true
  cases k.kp <;> rfl
 | tok i =>
  show Perm.som (match glt k i with | some t => .tok t | none => .no) = true
  cases glt k i <;> rfl
theorem gorP_ok {k : Back} (hk : BackOk k st st') (hlt : ∀ i,hasTok i st.live = true → i < st.nt) {s : Option (Nat × Nat × Nat)} {len cap : Nat} : ∀ {p : Perm},PermOK g2 s len cap p → PermOK (g2.gl g w k) s len cap (gorP k p)
 | .no,_ => trivial
 | .exact,h => by
  show PermOK _ s len cap (match k.kp with | true => .exact | false => .no)
  cases k.kp with
  | true => exact h
  | false => exact trivial
 | .nil,h => h
 | .nn,_ => trivial
 | .em,h => h
 | .tok j,h => by
  show PermOK _ s len cap (match glt k j with | some t => .tok t | none => .no)
  cases e : glt k j with
  | none => exact trivial
  | some t => exact h.imp (fun h => by rw [gl_τ hk hlt e]; exact h) id
mutual
theorem gor_rel (hC : CodecOk2 C) {k : Back} (hk : BackOk k st st') (hlt : ∀ i,hasTok i st.live = true → i < st.nt) (hin : ∀ i b,nth k.bs i = some b → b < k.nb) (hle : Le (g.lc w k.bs k.ts) g2) : ∀ {v v' : AVal U} {c : Value},gor k v = some v' → RelV C g2 v c → RelV C (g2.gl g w k) v' c
 | .junk,_,_,h,r => by obtain rfl := Option.some.inj h; cases r; exact .junk _
 | .und,_,_,h,r => by obtain rfl := Option.some.inj h; cases r; exact .und
 | .bool _,_,_,h,r => by obtain rfl := Option.some.inj h; cases r; exact .bool _
 | .int _ _,_,_,h,r => by obtain rfl := Option.some.inj h; cases r; exact .int _ _
 | .str _,_,_,h,r => by obtain rfl := Option.some.inj h; cases r; exact .str _
 | .nilp,_,_,h,r => by obtain rfl := Option.some.inj h; cases r; exact .nilp
 | .nili,_,_,h,r => by obtain rfl := Option.some.inj h; cases r; exact .nili
 | .nilf,_,_,h,r => by obtain rfl := Option.some.inj h; cases r; exact .nilf
 | .nils,_,_,h,r => by obtain rfl := Option.some.inj h; cases r; exact .nils
 | .ptr b off,_,_,h,r => by
  unfold gor at h
  obtain ⟨b',h1,h⟩ := bind2 h
  obtain rfl := Option.some.inj h
  cases r with
  | ptr hβ => exact .ptr (by rw [gl_β hk hin h1]; exact hβ)
 | .rp cs,_,_,h,r => by
  unfold gor at h
  obtain ⟨l,h1,h⟩ := bind2 h
  obtain rfl := Option.some.inj h
  cases r with
  | rp hs hi => exact .rp (gors_rel hC hk hlt hin hle h1 hs) (fun j v hv => gl_imm hle (hi j v hv))
 | .sl t l p,_,_,h,r => by
  unfold gor at h
  obtain rfl := Option.some.inj h
  cases r with
  | sl0 hz => exact .sl0 (gorP_zer hz)
  | sle hz => exact .sle (gorP_som hz)
  | sl hs hi hl hp => exact .sl (RelVs.plain hC (fun b o v hv => gl_imm hle hv) hs (cellsAll_plain hC _ _)) (fun j v hv => gl_imm hle (hi j v hv)) hl (gorP_ok hk hlt hp)
 | .agg cs,_,_,h,r => by
  unfold gor at h
  obtain ⟨l,h1,h⟩ := bind2 h
  obtain rfl := Option.some.inj h
  cases r with
  | agg hs => exact .agg (gors_rel hC hk hlt hin hle h1 hs)
 | .tup cs,_,_,h,r => by
  unfold gor at h
  obtain ⟨l,h1,h⟩ := bind2 h
  obtain rfl := Option.some.inj h
  cases r with
  | tup hs => exact .tup (gors_rel hC hk hlt hin hle h1 hs)
 | .iface t v,_,_,h,r => by
  unfold gor at h
  obtain ⟨u,h1,h⟩ := bind2 h
  obtain rfl := Option.some.inj h
  cases r with
  | iface hv => exact .iface (gor_rel hC hk hlt hin hle h1 hv)
 | .fn f cs,_,_,h,r => by
  unfold gor at h
  obtain ⟨l,h1,h⟩ := bind2 h
  obtain rfl := Option.some.inj h
  cases r with
  | fn hs => exact .fn (gors_rel hC hk hlt hin hle h1 hs)
 | .gd _ _ _ _,_,_,h,_ => by unfold gor at h; cases h
theorem gors_rel (hC : CodecOk2 C) {k : Back} (hk : BackOk k st st') (hlt : ∀ i,hasTok i st.live = true → i < st.nt) (hin : ∀ i b,nth k.bs i = some b → b < k.nb) (hle : Le (g.lc w k.bs k.ts) g2) : ∀ {vs vs' : List (AVal U)} {cs : List Value},gors k vs = some vs' → RelVs C g2 vs cs → RelVs C (g2.gl g w k) vs' cs
 | [],_,_,h,r => by obtain rfl := Option.some.inj h; cases r; exact .nil
 | v :: vs,_,_,h,r => by
  unfold gors at h
  obtain ⟨u,h1,h⟩ := bind2 h
  obtain ⟨l,h2,h⟩ := bind2 h
  obtain rfl := Option.some.inj h
  cases r with
  | cons hv hs => exact .cons (gor_rel hC hk hlt hin hle h1 hv) (gors_rel hC hk hlt hin hle h2 hs)
end
theorem gorBoxes_nth {k : Back} : ∀ {cs cs' : List (List (AVal U))},gorBoxes k cs = some cs' → cs'.length = cs.length ∧ ∀ i c',nth cs' i = some c' → ∃ c,nth cs i = some c ∧ gors k c = some c'
 | [],_,h => by obtain rfl := Option.some.inj h; exact ⟨rfl,fun i c h => by cases h⟩
 | c :: cs,_,h => by
  unfold gorBoxes at h
  obtain ⟨u,h1,h⟩ := bind2 h
  obtain ⟨l,h2,h⟩ := bind2 h
  obtain rfl := Option.some.inj h
  obtain ⟨h3,h4⟩ := gorBoxes_nth h2
  refine ⟨by simp [h3],fun i c' hc => ?_⟩
  cases i with
  | zero =>
   obtain rfl := Option.some.inj hc
   exact ⟨c,rfl,h1⟩
  | succ i => exact h4 i c' hc
theorem setAll_len : ∀ (bs : List Nat) (cs bx : List (List (AVal U))),(setAll bx bs cs).length = bx.length
 | [],cs,bx => by unfold setAll; cases cs <;> rfl
 | b :: bs,[],bx => rfl
 | b :: bs,c :: cs,bx => by unfold setAll; rw [setAll_len bs cs]; simp
theorem setAll_out : ∀ (bs : List Nat) (cs bx : List (List (AVal U))) (b : Nat),idx b bs = none → nth (setAll bx bs cs) b = nth bx b
 | [],cs,bx,b,_ => by unfold setAll; cases cs <;> rfl
 | a :: bs,[],bx,b,_ => rfl
 | a :: bs,c :: cs,bx,b,h => by
  rw [idx_none] at h
  have h1 : a ≠ b := fun q => by rw [hasTok_cons.2 (.inl q.symm)] at h; cases h
  have h2 : hasTok b bs = false := by
   cases e : hasTok b bs with
   | false => rfl
   | true => rw [hasTok_cons.2 (.inr e)] at h; cases h
  unfold setAll
  rw [setAll_out bs cs _ b (idx_none.2 h2),nth_set,if_neg h1]
theorem setAll_in : ∀ (bs : List Nat) (cs bx : List (List (AVal U))) (i b : Nat),uniqB bs = true → nth bs i = some b → cs.length = bs.length → b < bx.length → nth (setAll bx bs cs) b = nth cs i
 | [],cs,bx,i,b,_,h,_,_ => by cases h
 | a :: bs,[],bx,i,b,_,h,hl,_ => by cases hl
 | a :: bs,c :: cs,bx,i,b,hu,h,hl,hlt => by
  simp only [uniqB,Bool.and_eq_true,Bool.not_eq_true'] at hu
  unfold setAll
  cases i with
  | zero =>
   obtain rfl := Option.some.inj h
   rw [setAll_out bs cs _ a (idx_none.2 hu.1),nth_set,if_pos rfl]
   obtain ⟨x,hx⟩ := nthSome hlt
   rw [hx]; rfl
  | succ i => exact setAll_in bs cs _ i b hu.2 h (by simpa using hl) (by simpa using hlt)
theorem nth_app {α : Type} : ∀ (l m : List α) (i : Nat),nth (l ++ m) i = if i < l.length then nth l i else nth m (i - l.length)
 | [],m,i => by simp
 | a :: l,m,0 => by simp [nth]
 | a :: l,m,i + 1 => by
  show nth (l ++ m) i = _
  rw [nth_app l m i]
  by_cases e : i < l.length
  · rw [if_pos e,if_pos (by simp; omega)]; rfl
  · rw [if_neg e,if_neg (by simp; omega)]
    congr 1
    simp
theorem nth_takeE {α : Type} : ∀ (l : List α) (n i : Nat),i < n → nth (l.take n) i = nth l i
 | [],n,i,_ => by simp [nth]
 | a :: l,0,i,h => by omega
 | a :: l,n + 1,0,_ => rfl
 | a :: l,n + 1,i + 1,h => nth_takeE l n i (by omega)
theorem minus_has {ts : List Nat} {t : Nat} : ∀ {l : List Nat},hasTok t (minus ts l) = true ↔ hasTok t l = true ∧ hasTok t ts = false
 | [] => by simp [minus,hasTok]
 | a :: r => by
  have ih := minus_has (ts := ts) (t := t) (l := r)
  unfold minus
  cases e : hasTok a ts with
  | true =>
   dsimp only
   rw [ih,hasTok_cons]
   exact ⟨fun h => ⟨.inr h.1,h.2⟩,fun ⟨h,q⟩ => ⟨h.resolve_left (fun z => by rw [z,e] at q; cases q),q⟩⟩
  | false =>
   dsimp only
   rw [hasTok_cons,hasTok_cons,ih]
   exact ⟨fun h => h.elim (fun z => ⟨.inl z,by rw [z]; exact e⟩) (fun z => ⟨.inr z.1,z.2⟩),fun ⟨h,q⟩ => h.elim .inl (fun z => .inr ⟨z,q⟩)⟩
theorem uniq_minus {ts : List Nat} : ∀ {l : List Nat},Uniq l → Uniq (minus ts l)
 | [],h => h
 | a :: r,h => by
  unfold minus
  cases hasTok a ts with
  | true => exact uniq_minus h.2
  | false =>
   refine ⟨?_,uniq_minus h.2⟩
   cases e : hasTok a (minus ts r) with
   | false => rfl
   | true => have := (minus_has.1 e).1; rw [h.1] at this; cases this
theorem hasTok_appd {i : Nat} : ∀ {a b : List Nat},hasTok i (a ++ b) = (hasTok i a || hasTok i b)
 | [],_ => rfl
 | x :: r,b => by
  rw [List.cons_append,show hasTok i (x :: (r ++ b)) = (match Nat.beq x i with | true => true | false => hasTok i (r ++ b)) from rfl,show hasTok i (x :: r) = (match Nat.beq x i with | true => true | false => hasTok i r) from rfl,hasTok_appd]
  cases Nat.beq x i <;> rfl
theorem uniq_appd : ∀ {a b : List Nat},Uniq a → Uniq b → (∀ i,hasTok i a = true → hasTok i b = false) → Uniq (a ++ b)
 | [],b,_,hb,_ => hb
 | x :: r,b,ha,hb,hd => by
  refine ⟨?_,uniq_appd ha.2 hb fun i hi => hd i (hasTok_cons.2 (.inr hi))⟩
  show hasTok x (r ++ b) = false
  rw [hasTok_appd,ha.1,hd x (hasTok_cons.2 (.inl rfl))]
  rfl
theorem above_nth {n : Nat} : ∀ {l : List Nat} {i x : Nat},nth (above n l) i = some x → n ≤ x ∧ hasTok x l = true
 | [],i,x,h => by cases h
 | a :: r,i,x,h => by
  unfold above at h
  cases e : Nat.ble n a with
  | true =>
   rw [e] at h
   cases i with
   | zero =>
    obtain rfl := Option.some.inj h
    exact ⟨Nat.le_of_ble_eq_true e,hasTok_cons.2 (.inl rfl)⟩
   | succ i =>
    obtain ⟨h1,h2⟩ := above_nth (l := r) h
    exact ⟨h1,hasTok_cons.2 (.inr h2)⟩
  | false =>
   rw [e] at h
   obtain ⟨h1,h2⟩ := above_nth (l := r) h
   exact ⟨h1,hasTok_cons.2 (.inr h2)⟩
theorem stay_has {live : List Nat} {t : Nat} : ∀ {l : List Nat} {j : Nat},hasTok t (stay live j l) = true ↔ ∃ i,nth l i = some t ∧ hasTok (j + i) live = true
 | [],j => by simp [stay,hasTok,nth]
 | a :: r,j => by
  have ih := stay_has (live := live) (t := t) (l := r) (j := j + 1)
  have key : (∃ i,nth (a :: r) i = some t ∧ hasTok (j + i) live = true) ↔ (a = t ∧ hasTok j live = true) ∨ ∃ i,nth r i = some t ∧ hasTok (j + 1 + i) live = true := by
   constructor
   · rintro ⟨i,h1,h2⟩
     cases i with
     | zero => exact .inl ⟨Option.some.inj h1,h2⟩
     | succ i => exact .inr ⟨i,h1,by rwa [show j + 1 + i = j + (i + 1) by omega]⟩
   · rintro (⟨rfl,h2⟩ | ⟨i,h1,h2⟩)
     · exact ⟨0,rfl,h2⟩
     · exact ⟨i + 1,h1,by rwa [show j + (i + 1) = j + 1 + i by omega]⟩
  rw [key,← ih,show stay live j (a :: r) = (match hasTok j live with | true => a :: stay live (j + 1) r | false => stay live (j + 1) r) from rfl]
  cases e : hasTok j live with
  | true =>
   dsimp only
   rw [hasTok_cons]
   exact ⟨fun h => h.elim (fun z => .inl ⟨z.symm,rfl⟩) .inr,fun h => h.elim (fun z => .inl z.1.symm) .inr⟩
  | false =>
   dsimp only
   exact ⟨.inr,fun h => h.elim (fun z => absurd z.2 (by decide)) id⟩
theorem uniq_stay {live : List Nat} : ∀ {l : List Nat} {j : Nat},uniqB l = true → Uniq (stay live j l)
 | [],_,_ => trivial
 | a :: r,j,h => by
  simp only [uniqB,Bool.and_eq_true,Bool.not_eq_true'] at h
  unfold stay
  cases hasTok j live with
  | true =>
   refine ⟨?_,uniq_stay h.2⟩
   cases e : hasTok a (stay live (j + 1) r) with
   | false => rfl
   | true =>
    obtain ⟨i,h1,_⟩ := stay_has.1 e
    rw [nth_hasTok h1] at h; cases h.1
  | false => exact uniq_stay h.2
theorem le_gl {k : Back} (hk : BackOk k st st') (hS : SRel C S w0 st g w) (hin : ∀ i b,nth k.bs i = some b → b < k.nb) (hle : Le (g.lc w k.bs k.ts) g2) : Le g (g2.gl g w k) := by
 refine ⟨fun b o v h => gl_imm hle (hle.imm b o v (lc_imm h).2),fun b x h => ?_,fun t s h => ?_,fun b o v h => gl_hid (lc_hid h).1 (hle.hid b o v (lc_hid h).2),hle.lo⟩
 · show (match idx b k.bs with | some i => g2.β i | none => if b < k.nb then g.β b else (nth k.bn (b - k.nb)).bind g2.β) = _
   cases e : idx b k.bs with
   | some i =>
    refine hle.β i x ?_
    show (nth k.bs i).bind g.β = _
    rw [idx_nth e]; exact h
   | none =>
    dsimp only
    have : b < st.box.length := by
     rcases Nat.lt_or_ge b st.box.length with q | q
     · exact q
     · rw [(hS.tb b).2 q] at h; cases h
    rw [if_pos (by rw [hk.nb]; exact this)]; exact h
 · show (match idx t k.ts with | some j => g2.τ j | none => if t < k.nt then g.τ t else (nth k.tn (t - k.nt)).bind g2.τ) = _
   cases e : idx t k.ts with
   | some j =>
    refine hle.τ j s ?_
    show (nth k.ts j).bind g.τ = _
    rw [idx_nth e]; exact h
   | none =>
    dsimp only
    have : t < st.nt := by
     rcases Nat.lt_or_ge t st.nt with q | q
     · exact q
     · rw [hS.tt t q] at h; cases h
    rw [if_pos (by rw [hk.nt]; exact this)]; exact h
theorem srel_gl (hC : CodecOk2 C) {k : Back} (hk : BackOk k st st') (hS : SRel C S w0 st g w) (hin : ∀ i b,nth k.bs i = some b → b < k.nb) (hle : Le (g.lc w k.bs k.ts) g2) (hS2 : SRel C S w0 st' g2 w') (hnb : k.bs.length ≤ st'.box.length)
 {cs ns ns0 : List (List (AVal U))} (hcs : gorBoxes k (st'.box.take k.bs.length) = some cs) (hns0 : boxesAt st'.box k.bn = some ns0) (hns : gorBoxes k ns0 = some ns) :
 SRel C S w0 { st with box := setAll st.box k.bs cs ++ ns,live := upto st.nt k.tn.length ++ (stay st'.live 0 k.ts ++ minus k.ts st.live),nt := st.nt + k.tn.length } (g2.gl g w k) w' := by
 have hlt := hS.lt
 have hH := hS.h
 have hH2 := hS2.h
 have hknb := hk.nb
 have hknt := hk.nt
 have hLe := le_gl hk hS hin hle
 obtain ⟨c1,c2⟩ := gorBoxes_nth hcs
 have c1' : cs.length = k.bs.length := by rw [c1,List.length_take]; omega
 have hlen : (setAll st.box k.bs cs).length = st.box.length := setAll_len _ _ _
 obtain ⟨n1,n2⟩ := boxesAt_nth hns0
 obtain ⟨n3,n4⟩ := gorBoxes_nth hns
 -- what is away is as it was
 have stays : ∀ b o v,away g w k.bs k.ts b o = some v → w'.cell? ⟨b,o,none⟩ = some v ∧ w'.frozen? ⟨b,o,none⟩ = false :=
  fun b o v e => hH2.hid b o v (hle.hid b o v (lc_away e))
 -- the tokens
 have hnew : ∀ t,hasTok t (upto st.nt k.tn.length) = true → ∃ j,glt k j = some t ∧ hasTok j st'.live = true := by
  intro t h
  have h1 := hasTok_up.1 h
  obtain ⟨j,hj⟩ := nthSome (l := k.tn) (i := t - st.nt) (by omega)
  refine ⟨j,?_,allIn_nth hk.aln hj⟩
  rw [glt_new (hk.tnge _ _ hj) (nth_idx hk.utn hj),hknt]
  congr 1
  omega
 have hold : ∀ t,hasTok t (stay st'.live 0 k.ts) = true → ∃ j,glt k j = some t ∧ hasTok j st'.live = true := by
  intro t h
  obtain ⟨j,h1,h2⟩ := stay_has.1 h
  exact ⟨j,glt_old h1,by simpa using h2⟩
 refine ⟨⟨fun b o v h => ?_,fun b c blk base hb hβ => ?_,fun t ht blk e c hτ o h1 h2 => ?_,fun b o h => ?_,hH2.size,hH2.os,hH2.tape,hH2.output,hH2.old,fun b o i h hltb => ?_,fun b o i h hltb => ?_,fun b o v h1 h2 h3 => ?_,fun b o v h => ?_,hH2.lo,fun b o hr => hH2.fz b o (by
  rcases gl_of (g := g) (g2 := g2) (w := w) (k := k) (b := b) (o := o) rfl with ⟨v',e,hx⟩ | ⟨e,⟨i,b',h1,h2⟩ | ⟨j,t,h1,h2⟩ | ⟨v',h1,h2⟩ | ⟨v',h1,h2⟩ | h2⟩
  · rw [hle.hid b o v' (lc_away e)]; rfl
  · rw [h1]; rfl
  · rw [h1]; rfl
  · rw [h2] at hr; cases hr
  · rw [h1]; rfl
  · rw [h2] at hr; cases hr)⟩,
  fun b => ?_,fun t h => ?_,?_,fun t h => ?_⟩
 · rcases gl_of h with ⟨v',e,hx⟩ | ⟨e,⟨i,b',h1,h2⟩ | ⟨j,t,h1,h2⟩ | ⟨v',h1,h2⟩ | ⟨v',h1,h2⟩ | h2⟩
   · obtain ⟨_,⟨k',h1,_⟩ | ⟨t,h1,_⟩⟩ := away_some e <;> rw [h1] at hx <;> cases hx
   · cases h2
   · cases h2
   · cases h2; exact hH2.imm b o v h1
   · cases h2
   · cases h2
 · -- the boxes
   have hβ' : (match idx b k.bs with | some i => g2.β i | none => if b < k.nb then g.β b else (nth k.bn (b - k.nb)).bind g2.β) = some (blk,base) := hβ
   rw [nth_app,hlen] at hb
   -- a box that the call has
   have one : ∀ i c0,nth st'.box i = some c0 → gors k c0 = some c → glb k i = some b → g2.β i = some (blk,base) → ∃ vs,RelVs C (g2.gl g w k) c vs ∧ ∀ (j : Nat) (v : Value),vs[j]? = some v →
    (g2.gl g w k).own blk (base + j) = .box b ∧ w'.cell? ⟨blk,base + j,none⟩ = some v ∧ w'.frozen? ⟨blk,base + j,none⟩ = false := by
    intro i c0 h1 h2 h3 h4
    obtain ⟨vs,h5,h6⟩ := hH2.box i c0 blk base h1 h4
    refine ⟨vs,gors_rel hC hk hlt hin hle h2 h5,fun j v hv => ?_⟩
    obtain ⟨h7,h8⟩ := h6 j v hv
    exact ⟨gl_box hle h7 h3,h8⟩
   cases e : idx b k.bs with
   | some i =>
    rw [e] at hβ'
    dsimp only at hβ'
    have hi := idx_nth e
    have hbl := hin i b hi
    rw [if_pos (by omega),setAll_in k.bs cs st.box i b hk.ub hi c1' (by omega)] at hb
    obtain ⟨c0,h1,h2⟩ := c2 i c hb
    have hib := nthLen hi
    rw [nth_takeE _ _ _ (by omega)] at h1
    exact one i c0 h1 h2 (by unfold glb; rw [hi]) hβ'
   | none =>
    rw [e] at hβ'
    dsimp only at hβ'
    by_cases hlb : b < st.box.length
    · rw [if_pos hlb,setAll_out _ _ _ _ e] at hb
      rw [if_pos (by omega)] at hβ'
      obtain ⟨vs,h1,h2⟩ := hH.box b c blk base hb hβ'
      refine ⟨vs,RelVs.mono hLe h1,fun j v hv => ?_⟩
      obtain ⟨h3,h4,h5⟩ := h2 j v hv
      have ha : away g w k.bs k.ts blk (base + j) = some v := by
       unfold away; rw [h3]; dsimp only; rw [e]; exact seen_some.2 ⟨h4,h5⟩
      exact ⟨(gl_away ha).trans h3,stays _ _ _ ha⟩
    · rw [if_neg hlb] at hb
      rw [if_neg (by omega)] at hβ'
      obtain ⟨i,hi,hβ2⟩ := bind2 hβ'
      obtain ⟨c0,h1,h2⟩ := n4 _ c hb
      obtain ⟨c0',h3,h4⟩ := n2 _ i hi
      rw [hknb] at h3
      rw [h1] at h3
      obtain rfl := Option.some.inj h3
      have hge := (hk.bnge _ _ hi).1
      refine one i c0 h4 h2 ?_ hβ2
      unfold glb
      rw [nthNone hge]
      dsimp only
      rw [nth_idx hk.un hi]
      dsimp only
      congr 1
      omega
 · -- the spare room
   have ht' : hasTok t (upto st.nt k.tn.length ++ (stay st'.live 0 k.ts ++ minus k.ts st.live)) = true := ht
   rw [hasTok_appd,hasTok_appd,Bool.or_eq_true,Bool.or_eq_true] at ht'
   have one : (∃ j,glt k j = some t ∧ hasTok j st'.live = true) → (g2.gl g w k).own blk o = .spare t ∧ (w'.cell? ⟨blk,o,none⟩).isSome = true ∧ w'.frozen? ⟨blk,o,none⟩ = false := by
    rintro ⟨j,hj,hl⟩
    rw [gl_τ hk hlt hj] at hτ
    obtain ⟨h3,h4⟩ := hH2.live j hl blk e c hτ o h1 h2
    exact ⟨gl_spare hle h3 hj,h4⟩
   rcases ht' with ht' | ht' | ht'
   · exact one (hnew t ht')
   · exact one (hold t ht')
   · obtain ⟨h3,h4⟩ := minus_has.1 ht'
     have e0 := idx_none.2 h4
     have hτ' : (match idx t k.ts with | some j => g2.τ j | none => if t < k.nt then g.τ t else (nth k.tn (t - k.nt)).bind g2.τ) = some (some (blk,e,c)) := hτ
     rw [e0] at hτ'
     dsimp only at hτ'
     rw [if_pos (by rw [hknt]; exact hlt t h3)] at hτ'
     obtain ⟨h5,h6,h7⟩ := hH.live t h3 blk e c hτ' o h1 h2
     obtain ⟨v,hv⟩ := Option.isSome_iff_exists.1 h6
     have ha : away g w k.bs k.ts blk o = some v := by
      unfold away; rw [h5]; dsimp only; rw [e0]; exact seen_some.2 ⟨hv,h7⟩
     obtain ⟨q1,q2⟩ := stays _ _ _ ha
     exact ⟨(gl_away ha).trans h5,by rw [q1]; rfl,q2⟩
 · cases e : away g w k.bs k.ts b o with
   | some v =>
    have := lt_of_cell (w := w') (a := ⟨b,o,none⟩) (by rw [(stays _ _ _ e).1]; rfl)
    dsimp only at this
    omega
   | none =>
    show (match away g w k.bs k.ts b o with | some _ => g.own b o | none => _) = _
    rw [e]; dsimp only; rw [hH2.fresh b o h]
 · rcases gl_of h with ⟨v',e,hx⟩ | ⟨e,⟨i',b',h1,h2⟩ | ⟨j,t,h1,h2⟩ | ⟨v',h1,h2⟩ | ⟨v',h1,h2⟩ | h2⟩
   · exact hH.wbox b o i hx.symm hltb
   · exact hH2.wbox b o i' h1 hltb
   all_goals cases h2
 · rcases gl_of h with ⟨v',e,hx⟩ | ⟨e,⟨i',b',h1,h2⟩ | ⟨j,t,h1,h2⟩ | ⟨v',h1,h2⟩ | ⟨v',h1,h2⟩ | h2⟩
   · exact hH.wspare b o i hx.symm hltb
   · cases h2
   · exact hH2.wspare b o j h1 hltb
   all_goals cases h2
 · exact gl_imm hle (hH2.snap b o v h1 h2 h3)
 · rcases gl_of h with ⟨v',e,hx⟩ | ⟨e,⟨i,b',h1,h2⟩ | ⟨j,t,h1,h2⟩ | ⟨v',h1,h2⟩ | ⟨v',h1,h2⟩ | h2⟩
   · obtain ⟨_,⟨k',h1,_⟩ | ⟨t,h1,_⟩⟩ := away_some e <;> rw [h1] at hx <;> cases hx
   · cases h2
   · cases h2
   · cases h2
   · cases h2; exact hH2.hid b o v h1
   · cases h2
 · show (match idx b k.bs with | some i => g2.β i | none => if b < k.nb then g.β b else (nth k.bn (b - k.nb)).bind g2.β) = none ↔ (setAll st.box k.bs cs ++ ns).length ≤ b
   rw [List.length_append,hlen,n3,n1]
   cases e : idx b k.bs with
   | some i =>
    have hi := idx_nth e
    have := hin i b hi
    have hib := nthLen hi
    dsimp only
    rw [hS2.tb i]
    omega
   | none =>
    dsimp only
    by_cases q : b < k.nb
    · rw [if_pos q,hS.tb b]; omega
    · rw [if_neg q]
      rcases Nat.lt_or_ge (b - k.nb) k.bn.length with q2 | q2
      · obtain ⟨i,hi⟩ := nthSome q2
        have := (hk.bnge _ _ hi).2
        rw [hi]
        show g2.β i = none ↔ _
        rw [hS2.tb i]
        omega
      · rw [nthNone q2]
        simp
        omega
 · show (match idx t k.ts with | some j => g2.τ j | none => if t < k.nt then g.τ t else (nth k.tn (t - k.nt)).bind g2.τ) = none
   have h' : st.nt + k.tn.length ≤ t := h
   cases e : idx t k.ts with
   | some j => have := hlt t (allIn_nth hk.al (idx_nth e)); omega
   | none =>
    dsimp only
    rw [if_neg (by omega),nthNone (by omega)]
    rfl
 · have hold2 : ∀ t,hasTok t (stay st'.live 0 k.ts) = true → hasTok t k.ts = true ∧ t < st.nt := by
    intro t h
    obtain ⟨j,h1,_⟩ := stay_has.1 h
    exact ⟨nth_hasTok h1,hlt t (allIn_nth hk.al h1)⟩
   refine uniq_appd (uniq_up _ _) (uniq_appd (uniq_stay hk.ut) (uniq_minus hS.uniq) fun t ht => ?_) fun t ht => ?_
   · cases e : hasTok t (minus k.ts st.live) with
     | false => rfl
     | true => have := (minus_has.1 e).2; rw [(hold2 t ht).1] at this; cases this
   · have h1 := hasTok_up.1 ht
     rw [hasTok_appd,Bool.or_eq_false_iff]
     constructor
     · cases e : hasTok t (stay st'.live 0 k.ts) with
       | false => rfl
       | true => have := (hold2 t e).2; omega
     · cases e : hasTok t (minus k.ts st.live) with
       | false => rfl
       | true => have := hlt t (minus_has.1 e).1; omega
 · show t < st.nt + k.tn.length
   have h' : hasTok t (upto st.nt k.tn.length ++ (stay st'.live 0 k.ts ++ minus k.ts st.live)) = true := h
   rw [hasTok_appd,hasTok_appd,Bool.or_eq_true,Bool.or_eq_true] at h'
   rcases h' with h' | h' | h'
   · have := hasTok_up.1 h'; omega
   · obtain ⟨j,h1,_⟩ := stay_has.1 h'
     have := hlt t (allIn_nth hk.al h1); omega
   · have := hlt t (minus_has.1 h').1; omega
theorem callX_some {kp : Bool} {spec : List (AVal U) → St U → (Res U → St U → Option R) → Option R} {args : List (AVal U)} {K : Res U → St U → Option R} {r : R} (h : callX kp spec args st K = some r) : ∃ a s k q,spec a s k = some q := by
 unfold callX at h
 dsimp only at h
 split at h
 · unfold callAt at h
   split at h
   · obtain ⟨_,_,h⟩ := bind2 h
     obtain ⟨_,_,h⟩ := bind2 h
     obtain ⟨_,_,h⟩ := bind2 h
     exact ⟨_,_,_,_,h⟩
   · cases h
 · cases h
theorem CallOk.l {f : FuncId} {spec : List (AVal U) → St U → (Res U → St U → Option R) → Option R} (h : CallOk P C f spec) : CallOkL P C f spec :=
 fun args cs n K r h1 => h args (lcSt cs n) K r h1
theorem local_calls (hC : CodecOk2 C) {kp : Bool} {f : FuncId} {spec : List (AVal U) → St U → (Res U → St U → Option R) → Option R} (hs : CallOkL P C f spec) {args : List (AVal U)} {K : Res U → St U → Option R} {r : R}
 (h : callX kp spec args st K = some r) {cs : List Value} (ha : RelVs C g args cs) (hS : SRel C S w0 st g w) :
 Calls P f cs.toArray w fun e w' => ∃ res st' g',K res st' = some r ∧ Le g g' ∧ SRel C S w0 st' g' w' ∧ Same st st' ∧ ResRel C g' res e := by
 unfold callX at h
 dsimp only at h
 generalize reach st.box 3 (ptrsOfs args []) = bs at h
 cases hbx : boxesAt st.box bs with
 | none => rw [hbx] at h; cases h
 | some cs0 =>
  rw [hbx] at h
  dsimp only at h
  generalize toksIn kp st.live cs0 args = ts at h
  unfold callAt at h
  cases hu : (uniqB bs && (uniqB ts && allIn st.live ts)) with
  | false => rw [hu] at h; cases h
  | true =>
   rw [hu,hbx] at h
   simp only [Bool.and_eq_true] at hu
   obtain ⟨hu1,hu2,hu3⟩ := hu
   replace h : ((rens kp bs ts args).bind fun args' => (renBoxes kp bs ts cs0).bind fun cs' => spec args' (lcSt cs' ts.length) fun res st' => (returnTo kp bs ts st st' res).bind fun x => K x.1 x.2) = some r := h
   obtain ⟨args',h1,h⟩ := bind2 h
   obtain ⟨cs',h2,h⟩ := bind2 h
   have hS1 := srel_lc hC hS hu1 hu2 hu3 hbx h2
   have hin : ∀ i b,nth bs i = some b → b < st.box.length := fun i b hb => by
    obtain ⟨c,_,h4⟩ := (boxesAt_nth hbx).2 i b hb
    exact nthLen h4
   refine (hs _ _ _ _ _ h S w0 _ w cs (rens_rel hC hu1 hu2 h1 ha) hS1).mono fun e w' ⟨res,st',g2,k1,k2,k3,k4,k5⟩ => ?_
   have hlen : cs'.length = bs.length := by rw [(renBoxes_nth h2).1,(boxesAt_nth hbx).1]
   have hnb : bs.length ≤ st'.box.length := by rw [← hlen]; exact k4.nb
   obtain ⟨x,k6,k7⟩ := bind2 k1
   unfold returnTo at k6
   dsimp only at k6
   generalize hbn : reach st'.box 3 (ptrsOfBoxes (st'.box.take bs.length) (ptrsOf (resVal res) [])) = rb at k6
   obtain ⟨ns0,k8,k6⟩ := bind2 k6
   have htn : ∀ m j,nth (toksOut kp ts.length st'.live ns0 (st'.box.take bs.length) (resVal res)) m = some j → ts.length ≤ j := by
    intro m j hm
    unfold toksOut at hm
    cases kp with
    | true => exact (above_nth hm).1
    | false => cases hm
   generalize toksOut kp ts.length st'.live ns0 (st'.box.take bs.length) (resVal res) = tn at k6 htn
   unfold globalize at k6
   dsimp only at k6
   cases hu' : (uniqB (above bs.length rb) && (uniqB tn && allIn st'.live tn)) with
   | false => rw [hu'] at k6; cases k6
   | true =>
    rw [hu'] at k6
    simp only [Bool.and_eq_true] at hu'
    obtain ⟨hu4,hu5,hu6⟩ := hu'
    dsimp only at k6
    obtain ⟨v,k9,k6⟩ := bind2 k6
    obtain ⟨cs1,k10,k6⟩ := bind2 k6
    obtain ⟨ns,k11,k6⟩ := bind2 k6
    obtain rfl := Option.some.inj k6
    have hk : BackOk ⟨bs,ts,above bs.length rb,tn,st.box.length,st.nt,kp⟩ st st' := ⟨hu1,hu2,hu3,rfl,rfl,hu4,hu5,hu6,fun m i hm => by
     obtain ⟨c,_,h4⟩ := (boxesAt_nth k8).2 m i hm
     exact ⟨(above_nth hm).1,nthLen h4⟩,htn⟩
    have hS3 := srel_gl hC hk hS hin k2 k3 hnb k10 k8 k11
    refine ⟨resWith res v,_,_,k7,le_gl hk hS hin k2,hS3,⟨rfl,rfl,rfl,rfl,rfl,rfl,rfl,rfl,?_,?_⟩,?_⟩
    · show st.box.length ≤ (setAll st.box bs cs1 ++ ns).length
      rw [List.length_append,setAll_len]; omega
    · show st.nt ≤ st.nt + _
      omega
    · cases k5 with
      | ret hv => exact .ret (gor_rel hC hk hS.lt hin k2 k9 hv)
      | pan hv => exact .pan (gor_rel hC hk hS.lt hin k2 k9 hv)
end
end Go.Proofs.YtccfmfifnbnlmaaGreatDoor.Ev
end
section
/- A region's operations in their order. -/
set_option linter.unusedVariables false
set_option linter.unusedSimpArgs false
namespace Go.Proofs.YtccfmfifnbnlmaaGreatDoor.Ev
open Go

/-- What a frame began with. -/
structure Base where
  g : Gh
  bb : Nat
  bt : Nat
  df : List Deferred

section
variable {U : Nat → Type} {P : Program} {g g' : Gh} {gB : Base} {w w' w0 : World} {R : Type} {S : Nat → Nat → Bool} {st : St U} {cx : Cx U R} {callR : CallR U R}

def chainOf (c : Value) : List PanicEntry := [{ v := c, recovered := false }]

theorem op_wp (ok : Ok P cx) (cok : Calls.Ok P cx callR) {o : Oper} {a : Act} {K KP : AVal U → St U → Option R} {r : R}
    (hE : EnvRel cx.C g st.env a.tmps) (hG : GdInv st.gs st.env) (hS : SRel cx.C S w0 st g w) (h : exOp cx callR o st K KP = some r) {next : Act → World → Prop} {Q : Exit → Act → World → Prop}
    (hn : ∀ v st' c g' w', K v st' = some r → Step cx.C S w0 st st' g g' w' v c → next (a.put o.dst c) w')
    (hp : ∀ v st' c g' w', KP v st' = some r → Step cx.C S w0 st st' g g' w' v c → Q (.panic (chainOf c)) a w') :
    o.wp P a w next Q := by
  by_cases hc : ∃ c f, o.op = .call c ∧ c.callee = .value f
  · obtain ⟨c, f, ho, hf⟩ := hc
    unfold exOp at h
    rw [ho] at h
    dsimp only at h
    obtain ⟨args, h1, h⟩ := bind2 h
    rw [hf] at h
    dsimp only at h
    obtain ⟨fv, h2, h⟩ := bind2 h
    have hfv := val_rel hE h2
    cases fv <;> dsimp only at h <;> try (cases h; done)
    rename_i fid caps
    generalize hev : a.eval f = fc at hfv
    cases hfv with
    | fn hcaps =>
      rename_i cv
      have hargs := RelVs.append (coArgs_rel (cx := cx) (ts := c.argTypes.toList) (vals_rel hE h1)) hcaps
      have hfin : FnOk P fid ∧ Calls P fid ((c.args.toList.map a.eval) ++ cv).toArray w (fun e w' => ∃ res st' g', (match res with | .ret v => K v st' | .pan v => KP v st') = some r ∧ Le g g' ∧ SRel cx.C S w0 st' g' w' ∧ Same st st' ∧ ResRel cx.C g' res e) := by
        cases hx : cx.ext fid with
        | some s =>
          rw [hx] at h
          obtain ⟨h3, h4⟩ := cok.ext fid s hx
          exact ⟨h3, local_calls ok.codec h4 h hargs hS⟩
        | none =>
          rw [hx] at h
          refine ⟨?_, local_calls ok.codec (cok.recur fid) h hargs hS⟩
          obtain ⟨_, _, _, _, h9⟩ := callX_some h
          exact cok.fn _ _ _ _ _ h9
      obtain ⟨⟨fn, h5, h6, h7⟩, hcall⟩ := hfin
      have hrun : (execOp a.eval o).run P w = .ok (.enter fid ((c.args.toList.map a.eval) ++ cv).toArray) w := by
        have e1 : (c.args.map a.eval) ++ cv.toArray = ((c.args.toList.map a.eval) ++ cv).toArray := by apply Array.ext'; simp
        obtain ⟨callee, cargs, cats⟩ := c
        dsimp only at hf e1
        subst hf
        have h6' : fn.name ≠ "runtime.NumGoroutine" := by simpa using h6
        have h7' : fn.body ≠ none := fun q => by rw [q] at h7; cases h7
        unfold execOp
        rw [ho]
        simp [resolve, hev, Deferred.ofValue, invoke, callFunc, program, Sem.run, h5, h6', h7', e1]
      unfold Oper.wp
      rw [hrun]
      refine Calls.mono hcall fun e w' hh => ?_
      obtain ⟨res, st', g', h8, h9, h10, h11, h12⟩ := hh
      cases h12 with
      | ret hv => exact hn _ st' _ g' w' h8 ⟨h10, h9, hv, h11⟩
      | pan hv => exact hp _ st' _ g' w' h8 ⟨h10, h9, hv, h11⟩
  · have hnc : ∀ c, o.op = .call c → ∃ b, c.callee = .builtin b := by
      intro c hoc
      cases hcal : c.callee with
      | value f => exact absurd ⟨c, f, hoc, hcal⟩ hc
      | builtin b => exact ⟨b, rfl⟩
      | invoke x m =>
        unfold exOp at h
        rw [hoc] at h
        dsimp only at h
        obtain ⟨args, _, h⟩ := bind2 h
        rw [hcal] at h
        cases h
    rcases op_rel ok hE hG hS hnc h with ⟨v, st', c, g', w', h1, h2, h3⟩ | ⟨v, c, h1, h2, h3⟩
    · unfold Oper.wp
      rcases h2 with h2 | ⟨h2, rfl⟩
      · rw [h2]; exact hn v st' c g' w' h1 h3
      · rw [h2]; exact hn v st' _ g' w' h1 h3
    · unfold Oper.wp
      rw [h3]
      exact hp v st c g w h1 (step_same hS h2)

structure CodeRel (cx : Cx U R) (S : Nat → Nat → Bool) (w0 : World) (gB : Base) (st : St U) (g : Gh) (w : World) (a : Act) : Prop where
  env : EnvRel cx.C g st.env a.tmps
  gd : GdInv st.gs st.env
  s : SRel cx.C S w0 st g w
  n : a.tmps.size = st.n
  df : a.defers = gB.df
  le : Le gB.g g
  bb : st.bb = gB.bb ∧ gB.bb ≤ st.box.length
  bt : st.bt = gB.bt ∧ gB.bt ≤ st.nt
  lβ : ∀ b, gB.g.β b ≠ none → b < gB.bb
  lτ : ∀ i, gB.g.τ i ≠ none → i < gB.bt

inductive OutRel (C : Codec U) (g : Gh) : Out U → Exit → Prop
  | normal : OutRel C g .normal .normal
  | exit (i : Nat) : OutRel C g (.exit i) (.exit i)
  | ret : OutRel C g .ret .ret
  | pan {v : AVal U} {c : Value} : RelV C g v c → OutRel C g (.pan v) (.panic (chainOf c))

theorem put_getD (a : Act) (d : Nat) (v : Value) (x : Nat) (hd : d < a.tmps.size) : (a.put (some d) v).tmps.getD x undef = if d = x then v else a.tmps.getD x undef := by
  simp only [Act.put, Array.getD_eq_getD_getElem?, Array.getElem?_setIfInBounds]
  by_cases e : d = x
  · subst e; simp [hd]
  · simp [e]

/-- A result is put. -/
theorem CodeRel.putR {a : Act} (hr : CodeRel cx S w0 gB st g w a) {v : AVal U} {c : Value} {dst : Option Nat} {K : St U → Option R} {r : R} (hv : RelV cx.C g v c)
    (hgd : ∀ d want b u, v = .gd d want b u → dst ≠ some d ∧ hasTok d st.gs = true ∧ isGd u = false ∧ ∃ gv, lookup d st.env = some gv ∧ gOf want gv = some b) (hk : Ev.putR st dst v K = some r) :
    ∃ st2, K st2 = some r ∧ CodeRel cx S w0 gB st2 g w (a.put dst c) ∧ st2.gs = st.gs ∧ (∀ x, dst ≠ some x → lookup x st2.env = lookup x st.env) := by
  cases dst with
  | none => exact ⟨st, hk, hr, rfl, fun _ _ => rfl⟩
  | some d =>
    unfold Ev.putR at hk
    dsimp only at hk
    cases hc : (hasTok d st.gs || !Nat.blt d st.n) with
    | true => rw [hc] at hk; cases hk
    | false =>
      rw [hc] at hk
      simp only [Bool.or_eq_false_iff, Bool.not_eq_false'] at hc
      obtain ⟨hc1, hc2⟩ := hc
      have hlt : d < a.tmps.size := by
        rw [hr.n]
        have := Nat.le_of_ble_eq_true (show Nat.ble (d + 1) st.n = true from hc2)
        omega
      refine ⟨_, hk, ⟨fun x u hu => ?_, ⟨fun x d2 w2 b2 v2 hu => ?_⟩, ⟨hr.s.h, hr.s.tb, hr.s.tt, hr.s.uniq, hr.s.lt⟩, ?_, hr.df, hr.le, hr.bb, hr.bt, hr.lβ, hr.lτ⟩, rfl, fun x hx => ?_⟩
      · rw [put_getD a d c x hlt]
        rw [lookup_cons] at hu
        by_cases e : d = x
        · rw [if_pos e] at hu ⊢
          obtain rfl := Option.some.inj hu
          exact hv
        · rw [if_neg e] at hu ⊢
          exact hr.env x u hu
      · rw [lookup_cons] at hu
        by_cases e : d = x
        · rw [if_pos e] at hu
          obtain ⟨h1, h2, h3, gv, h4, h5⟩ := hgd d2 w2 b2 v2 (Option.some.inj hu)
          refine ⟨h2, h3, gv, ?_, h5⟩
          rw [lookup_cons, if_neg (fun q => h1 (by rw [q]))]
          exact h4
        · rw [if_neg e] at hu
          obtain ⟨h1, h2, gv, h3, h4⟩ := hr.gd.of x d2 w2 b2 v2 hu
          refine ⟨h1, h2, gv, ?_, h4⟩
          rw [lookup_cons, if_neg (fun q => by rw [q, h1] at hc1; cases hc1)]
          exact h3
      · show (a.put (some d) c).tmps.size = st.n
        simp [Act.put, hr.n]
      · rw [lookup_cons, if_neg (fun q => hx (by rw [q]))]

theorem CodeRel.step {a : Act} (hr : CodeRel cx S w0 gB st g w a) {st' : St U} {v : AVal U} {c : Value} (h : Step cx.C S w0 st st' g g' w' v c) : CodeRel cx S w0 gB st' g' w' a := by
  obtain ⟨h1, h2, h3, h4⟩ := h
  exact ⟨by rw [h4.env]; exact hr.env.mono h2, by rw [h4.env, h4.gs]; exact hr.gd, h1, by rw [h4.n]; exact hr.n, hr.df, hr.le.trans h2, ⟨by rw [h4.bb]; exact hr.bb.1, Nat.le_trans hr.bb.2 h4.nb⟩,
    ⟨by rw [h4.bt]; exact hr.bt.1, Nat.le_trans hr.bt.2 h4.nt⟩, hr.lβ, hr.lτ⟩

theorem lookup_dropGd (a : Nat) : ∀ env : List (Nat × AVal U), lookup a (dropGd env) = (lookup a env).map fun v => if isGd v then .junk else v
  | [] => rfl
  | (x, v) :: r => by
    have ih := lookup_dropGd a r
    cases v <;> (unfold dropGd; dsimp only; rw [lookup_cons, lookup_cons]; by_cases e : x = a <;> simp [e, ih, isGd])

theorem gd_nil (env : List (Nat × AVal U)) : GdInv [] (dropGd env) := by
  refine ⟨fun a d want b v h => ?_⟩
  rw [lookup_dropGd] at h
  obtain ⟨u, h1, h2⟩ := Option.map_eq_some_iff.1 h
  cases u <;> simp [isGd] at h2

theorem CodeRel.drop {a : Act} (hr : CodeRel cx S w0 gB st g w a) : CodeRel cx S w0 gB { st with env := dropGd st.env, gs := [] } g w a := by
  refine ⟨fun x u hu => ?_, gd_nil _, ⟨hr.s.h, hr.s.tb, hr.s.tt, hr.s.uniq, hr.s.lt⟩, hr.n, hr.df, hr.le, hr.bb, hr.bt, hr.lβ, hr.lτ⟩
  have hu' : lookup x (dropGd st.env) = some u := hu
  rw [lookup_dropGd] at hu'
  obtain ⟨y, h1, h2⟩ := Option.map_eq_some_iff.1 hu'
  by_cases q : isGd y = true
  · rw [if_pos q] at h2; subst h2; exact .junk _
  · rw [if_neg q] at h2; subst h2; exact hr.env x y h1

theorem yielded_eq (ops : Array Oper) (tmps : Array Value) (j d : Nat) (h : guardTmp ops j = some d) (want : Bool) : (yielded ops tmps j == some want) = true ↔ Yields tmps d want := by
  unfold guardTmp at h
  unfold yielded Yields
  rw [h, Option.bind_some]
  cases hx : tmps[d]? with
  | none => simp [Array.getD_eq_getD_getElem?, hx, undef]
  | some c =>
    rw [Array.getD_eq_getD_getElem?, hx]
    cases c <;> simp

/-- What an idle operation comes to does not hang on memory. -/
theorem calmOp_out {o : Oper} {K KP : AVal U → St U → Option R} {r : R} (hi : calmOp o.op = true) (h : exOp cx callR o st K KP = some r) : ∃ v, K v st = some r := by
  obtain ⟨dst, op, type, pos, after, guard⟩ := o
  cases op <;> simp only [calmOp] at hi <;> try (cases hi; done)
  all_goals simp only [exOp] at h
  case move x => obtain ⟨v, h1, h⟩ := bind2 h; exact ⟨v, h⟩
  case assign x => obtain ⟨v, h1, h⟩ := bind2 h; exact ⟨v, h⟩
  case pick c x y =>
    obtain ⟨vc, h1, h⟩ := bind2 h
    obtain ⟨vx, h2, h⟩ := bind2 h
    obtain ⟨vy, h3, h⟩ := bind2 h
    cases vc <;> try (cases h; done)
    rename_i t
    dsimp only at h
    unfold pick at h
    split at h
    · split at h
      · exact ⟨_, h⟩
      · cases h
    · exact ⟨_, h⟩
    · exact ⟨_, h⟩
    · split at h
      · exact ⟨_, h⟩
      · exact ⟨_, h⟩
  case load t x =>
    obtain ⟨p, h1, h⟩ := bind2 h
    obtain ⟨cs, h2, h⟩ := bind2 h
    obtain ⟨v, h3, h⟩ := bind2 h
    exact ⟨v, h⟩
  case binOp op t x y yt =>
    obtain ⟨u, h1, h⟩ := bind2 h
    obtain ⟨v, h2, h⟩ := bind2 h
    have hb : ∀ {op : Go.BinOp} {K : AVal U → Option R} {r : R}, op ≠ .quo → op ≠ .rem → op ≠ .shl → op ≠ .shr → binOp cx op t (Ev.isConst x || Ev.isConst y) u v K = some r → ∃ v, K v = some r := by
      intro op K r n1 n2 n3 n4 h
      unfold binOp at h
      split at h
      · exact absurd rfl n3
      · exact absurd rfl n4
      · split at h
        · cases op <;> simp only [binInt] at h <;> first | (exact absurd rfl n1) | (exact absurd rfl n2) | (exact absurd rfl n3) | (exact absurd rfl n4) | exact ⟨_, h⟩
        · cases h
      · cases op <;> simp only [binStr] at h <;> try (cases h; done)
        all_goals first | exact ⟨_, h⟩ | (split at h <;> first | exact ⟨_, h⟩ | cases h)
      · obtain ⟨b, _, h⟩ := bind2 h; exact ⟨_, h⟩
      · obtain ⟨b, _, h⟩ := bind2 h; exact ⟨_, h⟩
      · cases h
    cases op <;> first | (cases hi; done) | exact hb (by simp) (by simp) (by simp) (by simp) h
  case unOp op t x =>
    obtain ⟨u, h1, h⟩ := bind2 h
    obtain ⟨v, h2, h⟩ := bind2 h
    exact ⟨v, h⟩
  case fieldAddr t x f =>
    obtain ⟨p, h1, h⟩ := bind2 h
    cases hk : (cx.TT t).k <;> rw [hk] at h <;> try (cases h; done)
    dsimp only at h
    obtain ⟨fo, h2, h⟩ := bind2 h
    split at h
    · cases p <;> first | (cases h; done) | exact ⟨_, h⟩
    · cases h
  case field t x f =>
    obtain ⟨v, h1, h⟩ := bind2 h
    split at h
    · obtain ⟨fo, h2, h⟩ := bind2 h
      obtain ⟨u, h3, h⟩ := bind2 h
      exact ⟨u, h⟩
    · cases h
  case extract x i =>
    obtain ⟨v, h1, h⟩ := bind2 h
    cases v <;> try (cases h; done)
    dsimp only at h
    obtain ⟨u, h2, h⟩ := bind2 h
    exact ⟨u, h⟩
  case call c =>
    obtain ⟨args, h1, h⟩ := bind2 h
    split at hi
    · rename_i hc
      rw [hc] at h
      dsimp only at h
      unfold builtin at h
      split at h <;> first | (obtain ⟨n, _, h⟩ := bind2 h; exact ⟨_, h⟩) | (cases h; done) | contradiction | (simp_all; done)
    · cases hi
theorem idle_out {o : Oper} {K KP : AVal U → St U → Option R} {r : R} (hi : idle st o.op = true) (h : exOp cx callR o st K KP = some r) : ∃ v, K v st = some r := by
  refine calmOp_out ?_ h
  obtain ⟨dst, op, type, pos, after, guard⟩ := o
  cases op <;> simp only [idle] at hi <;> first | (cases hi; done) | rfl | exact hi
end
end Go.Proofs.YtccfmfifnbnlmaaGreatDoor.Ev
end
section
/- A region's operations in their order. -/
set_option linter.unusedVariables false
set_option linter.unusedSimpArgs false
namespace Go.Proofs.YtccfmfifnbnlmaaGreatDoor.Ev
open Go
section
variable {U : Nat → Type} {P : Program} {gB : Base} {w0 : World} {R : Type} {S : Nat → Nat → Bool} {cx : Cx U R} {callR : CallR U R}
def Out.pans : Out U → Bool
 | .pan _ => true
 | _ => false
theorem isGd_co {k : TK} {v : AVal U} : isGd (co k v) = isGd v := by
 cases v <;> first | rfl | (cases k <;> rfl)
theorem CodeRel.withEnv {st : St U} {g : Gh} {w : World} {a : Act} {env' : List (Nat × AVal U)} (hr : CodeRel cx S w0 gB st g w a) (hE : EnvRel cx.C g env' a.tmps) (hG : GdInv st.gs env') : CodeRel cx S w0 gB { st with env := env' } g w a :=
 ⟨hE,hG,⟨hr.s.h,hr.s.tb,hr.s.tt,hr.s.uniq,hr.s.lt⟩,hr.n,hr.df,hr.le,hr.bb,hr.bt,hr.lβ,hr.lτ⟩
theorem CodeRel.withEnvGs {st : St U} {g : Gh} {w : World} {a : Act} {env' : List (Nat × AVal U)} {gs' : List Nat} (hr : CodeRel cx S w0 gB st g w a) (hE : EnvRel cx.C g env' a.tmps) (hG : GdInv gs' env') : CodeRel cx S w0 gB { st with env := env',gs := gs' } g w a :=
 ⟨hE,hG,⟨hr.s.h,hr.s.tb,hr.s.tt,hr.s.uniq,hr.s.lt⟩,hr.n,hr.df,hr.le,hr.bb,hr.bt,hr.lβ,hr.lτ⟩
theorem ops_wp (ok : Ok P cx) (cok : Calls.Ok P cx callR) {ops : Array Oper} {K : Out U → St U → Option R} {r : R} {Q : Exit → Act → World → Prop}
 (hQ : ∀ out st' g' w' a' e,K out st' = some r → CodeRel cx S w0 gB st' g' w' a' → (out.pans = false → st'.gs = []) → OutRel cx.C g' out e → Q e a' w') :
 ∀ (os : List Oper) (k : Nat) (st : St U) (g : Gh) (w : World) (a : Act),evOps cx callR ops os st K = some r → (∀ j : Nat,os[j]? = ops[k + j]?) → CodeRel cx S w0 gB st g w a → wpOps P ops Q (List.range' k os.length) a w := by
 intro os
 induction os with
 | nil =>
  intro k st g w a h hos hr
  show Q .normal a w
  unfold evOps at h
  split at h
  · rename_i hg
    exact hQ _ _ g w a _ h hr (fun _ => hg) .normal
  · exact hQ _ _ g w a _ h hr.drop (fun _ => rfl) .normal
 | cons o os ih =>
  intro k st g w a h hos hr
  have ho : ops[k]? = some o := by have := hos 0; simpa using this.symm
  have hos' : ∀ j : Nat,os[j]? = ops[k + 1 + j]? := by
   intro j
   have := hos (j + 1)
   rw [show k + (j + 1) = k + 1 + j by omega] at this
   simpa using this
  show wpOps P ops Q (k :: List.range' (k + 1) os.length) a w
  unfold wpOps
  rw [ho]
  dsimp only
  -- what is put,and goes on
  have goes : ∀ (st1 st' : St U) (v : AVal U) (c : Value) (g1 g' : Gh) (w1 w' : World),CodeRel cx S w0 gB st1 g1 w1 a → Step cx.C S w0 st1 st' g1 g' w' v c →
   (match isGd v with | true => none | false => putR st' o.dst (co (cx.TT o.type).k v) fun st' => evOps cx callR ops os st' K) = some r → wpOps P ops Q (List.range' (k + 1) os.length) (a.put o.dst c) w' := by
   intro st1 st' v c g1 g' w1 w' hr1 hstep hk
   cases hgd : isGd v with
   | true => rw [hgd] at hk; cases hk
   | false =>
    rw [hgd] at hk
    obtain ⟨st2,h2,h3,_,_⟩ := (hr1.step hstep).putR (v := co (cx.TT o.type).k v) (c := c) (co_rel hstep.v) (fun d want b u e => by
     have := isGd_co (k := (cx.TT o.type).k) (v := v); rw [e,hgd] at this; cases this) hk
    exact ih (k + 1) st2 g' w' _ h2 hos' h3
  have dies : ∀ (st1 st' : St U) (v : AVal U) (c : Value) (g1 g' : Gh) (w1 w' : World),CodeRel cx S w0 gB st1 g1 w1 a → Step cx.C S w0 st1 st' g1 g' w' v c → K (.pan v) st' = some r → Q (.panic (chainOf c)) a w' := by
   intro st1 st' v c g1 g' w1 w' hr1 hstep hk
   exact hQ _ _ g' w' a _ hk (hr1.step hstep) (fun q => by cases q) (.pan hstep.v)
  unfold evOps at h
  cases hg : o.guard with
  | none =>
   rw [hg] at h
   dsimp only at h
   have hw : Region.wanted o (yielded ops a.tmps) = true := by unfold Region.wanted; rw [hg]
   rw [if_pos hw]
   exact .inl (op_wp ok cok hr.env hr.gd hr.s h (fun v st' c g' w' hk hs => goes st st' v c g g' w w' hr hs hk) (fun v st' c g' w' hk hs => dies st st' v c g g' w w' hr hs hk))
  | some jw =>
   obtain ⟨j,want⟩ := jw
   rw [hg] at h
   dsimp only at h
   obtain ⟨d,hd,h⟩ := bind2 h
   have hyd := yielded_eq ops a.tmps j d hd want
   have hwant : (Region.wanted o (yielded ops a.tmps) = true) ↔ Yields a.tmps d want := by
    unfold Region.wanted
    rw [hg]
    exact hyd
   cases hi' : (idle { st with env := ungdChain 8 d want st.env } o.op && open_ d st) with
   | true =>
    rw [hi'] at h
    have hi : idle { st with env := ungdChain 8 d want st.env } o.op = true := by rw [Bool.and_eq_true] at hi'; exact hi'.1
    dsimp only at h
    obtain ⟨gv,h1,h⟩ := bind2 h
    obtain ⟨b,h2,h⟩ := bind2 h
    have hby := gOf_yields (hr.env d gv h1) h2
    -- the value is put,with its guard
    have put : ∀ (st' : St U) (v : AVal U) (c : Value) (g' : Gh) (w' : World),CodeRel cx S w0 gB { st' with env := st.env } g' w' a → { st' with env := st.env }.gs = st.gs → RelV cx.C g' (.gd d want b (co (cx.TT o.type).k v)) c →
     (match isGd v || (match o.dst with | some x => Nat.beq x d | none => false) with
     | true => none
     | false => putR { st' with env := st.env } o.dst (.gd d want b (co (cx.TT o.type).k v)) fun st' => evOps cx callR ops os { st' with gs := d :: st'.gs } K) = some r →
     wpOps P ops Q (List.range' (k + 1) os.length) (a.put o.dst c) w' := by
     intro st' v c g' w' hr1 hgs hrel hk
     cases hq : (isGd v || (match o.dst with | some x => Nat.beq x d | none => false)) with
     | true => rw [hq] at hk; cases hk
     | false =>
      rw [hq] at hk
      simp only [Bool.or_eq_false_iff] at hq
      have hne : o.dst ≠ some d := fun q => by rw [q] at hq; dsimp only at hq; rw [Nat.beq_refl] at hq; cases hq.2
      -- with the guard among those that are kept
      have hr2 : CodeRel cx S w0 gB { st' with env := st.env,gs := d :: st'.gs } g' w' a :=
       ⟨hr1.env,⟨fun x d2 w2 b2 v2 hx => by
        obtain ⟨q1,q2⟩ := hr1.gd.of x d2 w2 b2 v2 hx
        exact ⟨hasTok_cons.2 (.inr q1),q2⟩⟩,⟨hr1.s.h,hr1.s.tb,hr1.s.tt,hr1.s.uniq,hr1.s.lt⟩,hr1.n,hr1.df,hr1.le,hr1.bb,hr1.bt,hr1.lβ,hr1.lτ⟩
      have hk2 : putR { st' with env := st.env,gs := d :: st'.gs } o.dst (.gd d want b (co (cx.TT o.type).k v)) (fun st' => evOps cx callR ops os st' K) = some r := by
       unfold putR at hk ⊢
       cases hds : o.dst with
       | none => rw [hds] at hk; exact hk
       | some x =>
        rw [hds] at hk
        dsimp only at hk ⊢
        have hx : x ≠ d := fun q => hne (by rw [hds,q])
        have e1 : hasTok x (d :: st'.gs) = hasTok x st'.gs := by
         cases e : hasTok x st'.gs with
         | true => exact hasTok_cons.2 (.inr e)
         | false =>
          cases e2 : hasTok x (d :: st'.gs) with
          | false => rfl
          | true => rcases hasTok_cons.1 e2 with q | q
                    · exact absurd q hx
                    · rw [e] at q; cases q
        rw [e1]
        exact hk
      obtain ⟨st2,h5,h6,_,_⟩ := hr2.putR (c := c) hrel (fun d' want' b' u e => by
       injection e with e1 e2 e3 e4
       subst e1 e2 e3 e4
       refine ⟨hne,hasTok_cons.2 (.inl rfl),?_,gv,h1,h2⟩
       rw [isGd_co]; exact hq.1) hk2
      exact ih (k + 1) st2 g' w' _ h5 hos' h6
    cases hb : b with
    | true =>
     have hy : Yields a.tmps d want := hby.1 hb
     rw [if_pos (hwant.2 hy)]
     obtain ⟨h3,h4⟩ := hr.env.chain hr.gd 8 d want hy
     have hr1 := hr.withEnv h3 h4
     refine .inl (op_wp ok cok hr1.env hr1.gd hr1.s h (fun v st' c g' w' hk hs => ?_) (fun v st' c g' w' hk hs => by cases hk))
     have hr3 := hr1.step hs
     refine put st' v c g' w' ?_ ?_ (.gd (fun _ => co_rel hs.v) (fun q => by rw [hb] at q; cases q)) hk
     · exact hr3.withEnv (hr.env.mono hs.le) (by rw [hs.same.gs]; exact hr.gd)
     · exact hs.same.gs
    | false =>
     have hy : ¬ Yields a.tmps d want := fun q => by have := hby.2 q; rw [hb] at this; cases this
     have hw : ¬ (Region.wanted o (yielded ops a.tmps) = true) := fun q => hy (hwant.1 q)
     rw [if_neg hw]
     obtain ⟨v,hk⟩ := idle_out hi h
     exact put { st with env := ungdChain 8 d want st.env } v undef g w hr rfl (.gd (fun q => by rw [hb] at q; cases q) (fun _ => rfl)) hk
   | false =>
    rw [hi'] at h
    dsimp only at h
    obtain ⟨on,env',gs',h1,h2,h3,h4⟩ := force_rel 8 d want st _ r h hr.env hr.gd
    have hr1 := hr.withEnvGs h2 h3
    cases on with
    | true =>
     rw [if_pos (hwant.2 (h4.1 rfl))]
     exact .inl (op_wp ok cok hr1.env hr1.gd hr1.s h1 (fun v st' c g' w' hk hs => goes _ st' v c g g' w w' hr1 hs hk) (fun v st' c g' w' hk hs => dies _ st' v c g g' w w' hr1 hs hk))
    | false =>
     have hw : ¬ (Region.wanted o (yielded ops a.tmps) = true) := fun q => by have := h4.2 (hwant.1 q); cases this
     rw [if_neg hw]
     obtain ⟨st2,h5,h6,_,_⟩ := hr1.putR (v := .und) (c := undef) .und (fun d' want' b' u e => by cases e) h1
     exact ih (k + 1) st2 g w _ h5 hos' h6
end
end Go.Proofs.YtccfmfifnbnlmaaGreatDoor.Ev
end
