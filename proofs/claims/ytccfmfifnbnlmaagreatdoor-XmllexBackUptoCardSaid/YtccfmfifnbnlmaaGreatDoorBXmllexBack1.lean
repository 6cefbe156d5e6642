/- Several texts in one, in their order. -/
import Derived.Test.YtccfmfifnbnlmaaGreatDoorBXmllexBack0
import Derived.Laws.Append
import Derived.Laws.Strings
import Derived.Laws.MakeOwn
section
/- Operations on plain values: what the model comes to. -/
set_option linter.unusedVariables false
set_option linter.unusedSimpArgs false
namespace Go.Proofs.YtccfmfifnbnlmaaGreatDoor.Ev
open Go
section
variable {U : Nat → Type} {C : Codec U} {P : Program} {g g' : Gh} {w w' : World} {R : Type}
theorem seq_model (x y : ByteArray) : (x.toList == y.toList) = seq x y := by rw [ByteArray.toList_eq,ByteArray.toList_eq]; rfl
theorem sless_model (x y : ByteArray) : Op.bytesLess x.toList y.toList = sless x y := by rw [ByteArray.toList_eq,ByteArray.toList_eq]; rfl
theorem binInt_rel {op : BinOp} {t : TypeId} {k : IntKind} {x y : Int} {K : AVal U → Option R} {r : R} (h : binInt op k x y K = some r) :
 ∃ v c,K v = some r ∧ (Go.binOp op t (.int k x) (.int k y)).run P w = .ok c w ∧ RelV C g v c := by
 cases op <;> simp only [binInt] at h <;> try (cases h; done)
 case add => exact ⟨_,_,h,by simp [Go.binOp,Op.intArith],.int _ _⟩
 case sub => exact ⟨_,_,h,by simp [Go.binOp,Op.intArith],.int _ _⟩
 case mul => exact ⟨_,_,h,by simp [Go.binOp,Op.intArith],.int _ _⟩
 case quo =>
  by_cases e : y = 0
  · rw [if_pos e] at h; cases h
  · rw [if_neg e] at h; exact ⟨_,_,h,by simp [Go.binOp,Op.intDiv,e],.int _ _⟩
 case rem =>
  by_cases e : y = 0
  · rw [if_pos e] at h; cases h
  · rw [if_neg e] at h; exact ⟨_,_,h,by simp [Go.binOp,Op.intDiv,e],.int _ _⟩
 case and => exact ⟨_,_,h,by simp [Go.binOp,Op.intBits,bits],.int _ _⟩
 case or => exact ⟨_,_,h,by simp [Go.binOp,Op.intBits,bits],.int _ _⟩
 case xor => exact ⟨_,_,h,by simp [Go.binOp,Op.intBits,bits],.int _ _⟩
 case andNot => exact ⟨_,_,h,by simp [Go.binOp,Op.intBits,bits],.int _ _⟩
 case eql => exact ⟨_,_,h,by simp [Go.binOp,Op.intCmp],.bool _⟩
 case neq => exact ⟨_,_,h,by simp [Go.binOp,Op.intCmp],.bool _⟩
 case lss => exact ⟨_,_,h,by simp [Go.binOp,Op.intCmp],.bool _⟩
 case leq => exact ⟨_,_,h,by simp [Go.binOp,Op.intCmp],.bool _⟩
 case gtr => exact ⟨_,_,h,by simp [Go.binOp,Op.intCmp],.bool _⟩
 case geq => exact ⟨_,_,h,by simp [Go.binOp,Op.intCmp],.bool _⟩
theorem shift_rel {op : BinOp} {t : TypeId} {k k' : IntKind} {x y : Int} {K : AVal U → Option R} {r : R} (hop : op = .shl ∨ op = .shr) (h : shift op k x y K = some r) :
 ∃ v c,K v = some r ∧ (Go.binOp op t (.int k x) (.int k' y)).run P w = .ok c w ∧ RelV C g v c := by
 unfold shift at h
 by_cases e : y < 0
 · rw [if_pos e] at h; cases h
 · rw [if_neg e] at h
   rcases hop with rfl | rfl
   · exact ⟨_,_,h,by simp [Go.binOp,Op.shift,e],.int _ _⟩
   · exact ⟨_,_,h,by simp [Go.binOp,Op.shift,e],.int _ _⟩
theorem binStr_rel {op : BinOp} {t : TypeId} {x y : ByteArray} {K : AVal U → Option R} {r : R} (h : binStr op x y K = some r) :
 ∃ v c,K v = some r ∧ (Go.binOp op t (.string x) (.string y)).run P w = .ok c w ∧ RelV C g v c := by
 cases op <;> simp only [binStr] at h <;> try (cases h; done)
 case add =>
  by_cases e : x.size + y.size ≤ 9223372036854775807
  · rw [if_pos e] at h
    refine ⟨_,_,h,?_,.str _⟩
    have e2 : ¬ (((x.size + y.size : Nat) : Int) > IntKind.i64.max) := by
     simp [IntKind.max,IntKind.signed,IntKind.bits]; omega
    simp only [Go.binOp,Op.stringOp]
    rw [if_neg e2]; rfl
  · rw [if_neg e] at h; cases h
 case eql => exact ⟨_,_,h,by simp only [Go.binOp,Op.stringOp,seq_model]; rfl,.bool _⟩
 case neq => exact ⟨_,_,h,by simp only [Go.binOp,Op.stringOp,seq_model]; rfl,.bool _⟩
 case lss => exact ⟨_,_,h,by simp only [Go.binOp,Op.stringOp,sless_model]; rfl,.bool _⟩
 case leq => exact ⟨_,_,h,by simp only [Go.binOp,Op.stringOp,sless_model,seq_model]; rfl,.bool _⟩
 case gtr => exact ⟨_,_,h,by simp only [Go.binOp,Op.stringOp,sless_model,seq_model]; rfl,.bool _⟩
 case geq => exact ⟨_,_,h,by simp only [Go.binOp,Op.stringOp,sless_model]; rfl,.bool _⟩
theorem unOp_rel {op : UnOp} {x : AVal U} {c : Value} {v : AVal U} (hx : RelV C g x c) (h : unOp op x = some v) : ∃ d,(Op.unary op c).run P w = .ok d w ∧ RelV C g v d := by
 unfold unOp at h
 split at h
 · cases hx
   obtain rfl := Option.some.inj h
   exact ⟨_,by simp [Op.unary,Op.intArith],.int _ _⟩
 · cases hx
   obtain rfl := Option.some.inj h
   exact ⟨_,by simp [Op.unary,Op.intBits,bits],.int _ _⟩
 · cases hx
   obtain rfl := Option.some.inj h
   exact ⟨_,by simp [Op.unary],.bool _⟩
 · cases h
theorem pick_rel {t : Bool} {x y : AVal U} {a b : Value} {K : AVal U → Option R} {r : R} (hx : t = true → RelV C g x a) (hy : t = false → RelV C g y b) (h : pick t x y K = some r) :
 ∃ v,K v = some r ∧ RelV C g v (if t then a else b) := by
 unfold pick at h
 split at h
 · rename_i k a' k' b'
   by_cases e : k = k'
   · rw [if_pos e] at h
     subst e
     refine ⟨_,h,?_⟩
     cases t
     · simpa using hy rfl
     · simpa using hx rfl
   · rw [if_neg e] at h; cases h
 · refine ⟨_,h,?_⟩
   cases t
   · simpa using hy rfl
   · simpa using hx rfl
 · refine ⟨_,h,?_⟩
   cases t
   · simpa using hy rfl
   · simpa using hx rfl
 · cases t
   · exact ⟨_,by simpa using h,by simpa using hy rfl⟩
   · exact ⟨_,by simpa using h,by simpa using hx rfl⟩
/-! ### append -/
variable {t u ty e : TypeId} {i : TypeInfo} {z : Value}
set_option maxHeartbeats 4000000 in
theorem run_append_fits {d : TypeDesc} (ht : P.underlying t = some (.slice e)) (hu : P.underlying u = some d) (hd : d = .string ∨ d = .slice e) (hi : P.info? e = some i)
 {blk off n cap m : Nat} {news : List Value} {x : Value} (hlen : (Builtin.lenOf x).run P w = .ok m w) (hf : (Builtin.firstCells i.size m x).run P w = .ok news.toArray w)
 (hroom : n + m ≤ cap) (hc : ∀ j,j < news.length → (w.cell? ⟨blk,off + n * i.size + j,none⟩).isSome = true) (hz : ∀ j,j < news.length → w.frozen? ⟨blk,off + n * i.size + j,none⟩ = false)
 (h1 : ∀ v ∈ news,v.oneCell' = true) :
 (Builtin.append_ #[t,u] ty #[.slice (some ⟨blk,off,none⟩) n cap,x]).run P w = .ok (.slice (some ⟨blk,off,none⟩) (n + m) cap) (w.setCells blk (off + n * i.size) news) := by
 have hst := run_storeCells_cells (P := P) blk (off + n * i.size) news 0 w (by simpa using hc) (by simpa using hz) h1
 simp only [Nat.add_zero] at hst
 rcases hd with rfl | rfl <;> simp [Builtin.append_,run_underlying ht,run_underlying hu,Go.sizeOf,typeInfo,hi,hlen,hroom,hf,addr_add,hst]
set_option maxHeartbeats 4000000 in
theorem run_append_zero {d : TypeDesc} (ht : P.underlying t = some (.slice e)) (hu : P.underlying u = some d) (hd : d = .string ∨ d = .slice e) (hi : P.info? e = some i) {a : Addr}
 {x : Value} (hlen : (Builtin.lenOf x).run P w = .ok 0 w) (hf : (Builtin.firstCells i.size 0 x).run P w = .ok (([] : List Value).toArray) w) :
 (Builtin.append_ #[t,u] ty #[.slice (some a) 0 0,x]).run P w = .ok (.slice (some a) 0 0) w := by
 have hst := run_storeCells_cells (P := P) (w := w) a.block a.off [] 0 (by simp) (by simp) (by simp)
 rcases hd with rfl | rfl <;> simp [Builtin.append_,run_underlying ht,run_underlying hu,Go.sizeOf,typeInfo,hi,hlen,hf,storeCells]
set_option maxHeartbeats 4000000 in
theorem run_append_none {d : TypeDesc} (ht : P.underlying t = some (.slice e)) (hu : P.underlying u = some d) (hd : d = .string ∨ d = .slice e) (hi : P.info? e = some i)
 {x : Value} {news : List Value} (hlen : (Builtin.lenOf x).run P w = .ok 0 w) (hf : (Builtin.firstCells i.size 0 x).run P w = .ok news.toArray w) :
 (Builtin.append_ #[t,u] ty #[.slice none 0 0,x]).run P w = .ok (.slice none 0 0) w := by
 rcases hd with rfl | rfl <;> simp [Builtin.append_,run_underlying ht,run_underlying hu,Go.sizeOf,typeInfo,hi,hlen,hf]
set_option maxHeartbeats 4000000 in
theorem run_append_new {d : TypeDesc} (ht : P.underlying t = some (.slice e)) (hu : P.underlying u = some d) (hd : d = .string ∨ d = .slice e) (hi : P.info? e = some i) (hz : i.zero = some z)
 {ao : Option Addr} {n cap m : Nat} {xs news : List Value} {x : Value} (hlen : (Builtin.lenOf x).run P w = .ok m w)
 (hf : ∀ w' : World,w'.heap = w.heap → (Builtin.firstCells i.size m x).run P w' = .ok news.toArray w')
 (hs : ∀ w' : World,w'.heap = w.heap → (Builtin.firstCells i.size n (.slice ao n cap)).run P w' = .ok xs.toArray w')
 (hroom : ¬ n + m ≤ cap) (h63 : n + m ≤ 9223372036854775807) (hb : (n + m) * i.bytes ≤ 140737488355328) :
 (Builtin.append_ #[t,u] ty #[.slice ao n cap,x]).run P w =
  .ok (.slice (some ⟨w.heap.size,0,none⟩) (n + m) (grownCap w (n + m) cap e))
   (w.drew.alloc (.cells ((xs ++ news).toArray ++ Builtin.zeroCells z.cells (grownCap w (n + m) cap e - (n + m))) e)) := by
 have h63' : ¬ (9223372036854775807 < ((n + m : Nat) : Int)) := by omega
 have h63'' : ¬ (9223372036854775807 < (n : Int) + (m : Int)) := by omega
 have h48 := growslice_fits (old := cap) (by omega : cap < n + m) hb
 have h48' : ¬ (281474976710656 < Builtin.nextslicecap (n + m) cap * i.bytes) := by omega
 have hf' := hf w.drew rfl
 have hs' := hs w.drew rfl
 rcases hd with rfl | rfl <;> simp [Builtin.append_,run_underlying ht,run_underlying hu,Go.sizeOf,typeInfo,zeroValue,hi,hz,hlen,hroom,h63',h63'',h48',Question.forced,newRow,grownCap,hf',hs',askRoom] <;> (refine congrArg (fun A => w.drew.alloc (Obj.cells A e)) ?_; apply Array.ext'; simp)
end
end Go.Proofs.YtccfmfifnbnlmaaGreatDoor.Ev
end
section
/- The evaluator's state beside the machine's: what makes memory. -/
set_option linter.unusedVariables false
set_option linter.unusedSimpArgs false
namespace Go.Proofs.YtccfmfifnbnlmaaGreatDoor.Ev
open Go
section
variable {U : Nat → Type} {C : Codec U} {P : Program} {g g' : Gh} {w w' w0 : World} {R : Type} {S : Nat → Nat → Bool}
structure SRel (C : Codec U) (S : Nat → Nat → Bool) (w0 : World) (st : St U) (g : Gh) (w : World) : Prop where
 h : HInv C S w0 st.box st.live g w
 tb : ∀ b,g.β b = none ↔ st.box.length ≤ b
 tt : ∀ i,st.nt ≤ i → g.τ i = none
 uniq : Uniq st.live
 lt : ∀ i,hasTok i st.live = true → i < st.nt
structure Same (st st' : St U) : Prop where
 env : st'.env = st.env
 wb : st'.wb = st.wb
 wt : st'.wt = st.wt
 bt : st'.bt = st.bt
 bb : st'.bb = st.bb
 fn : st'.fn = st.fn
 gs : st'.gs = st.gs
 n : st'.n = st.n
 nb : st.box.length ≤ st'.box.length
 nt : st.nt ≤ st'.nt
theorem Same.refl (st : St U) : Same st st := ⟨rfl,rfl,rfl,rfl,rfl,rfl,rfl,rfl,Nat.le_refl _,Nat.le_refl _⟩
structure Step (C : Codec U) (S : Nat → Nat → Bool) (w0 : World) (st st' : St U) (g g' : Gh) (w' : World) (v : AVal U) (c : Value) : Prop where
 s : SRel C S w0 st' g' w'
 le : Le g g'
 v : RelV C g' v c
 same : Same st st'
theorem nth_append {α : Type} : ∀ (l : List α) (x : α) (i : Nat),nth (l ++ [x]) i = if i = l.length then some x else nth l i
 | [],x,0 => rfl
 | [],x,i + 1 => by simp [nth]
 | a :: r,x,0 => by simp [nth]
 | a :: r,x,i + 1 => by
  simp only [List.cons_append,nth,nth_append r x i,List.length_cons]
  by_cases e : i = r.length
  · rw [if_pos e,if_pos (by omega)]
  · rw [if_neg e,if_neg (by omega)]
theorem nth_lt {α : Type} {l : List α} {i : Nat} {x : α} (h : nth l i = some x) : i < l.length := by
 rw [nth_get] at h; exact (List.getElem?_eq_some_iff.1 h).1
variable {st : St U} {vs : List Value}
/-- A new box. -/
theorem SRel.box (hS : SRel C S w0 st g w) {l : List (AVal U)} (hl : RelVs C g l vs) (T : TypeId) :
 ∃ g',Step C S w0 st { st with box := st.box ++ [l] } g g' (w.alloc (.cells vs.toArray T)) (.ptr st.box.length 0) (.pointer (some ⟨w.heap.size,0,none⟩)) := by
 have hlt : ∀ b o,w.heap.size ≤ b → g.own b o = .out := hS.h.fresh
 have hle : Le g ⟨fun b o => if b = w.heap.size then (if o < vs.length then .box st.box.length else .out) else g.own b o,fun b => if b = st.box.length then some (w.heap.size,0) else g.β b,g.τ,g.lo⟩ := by
  refine ⟨fun b o v hv => ?_,fun b x hb => ?_,fun _ _ h => h,fun b o v hv => ?_,rfl⟩
  · try dsimp only
    rw [if_neg (fun e => by rw [hlt b o (by omega)] at hv; cases hv)]; exact hv
  · try dsimp only
    rw [if_neg (fun e => by rw [(hS.tb b).2 (by omega)] at hb; cases hb)]; exact hb
  · try dsimp only
    rw [if_neg (fun e => by rw [hlt b o (by omega)] at hv; cases hv)]; exact hv
 refine ⟨_,⟨hS.h.alloc vs.toArray T (fun o => if o < vs.length then .box st.box.length else .out) (fun b => if b = st.box.length then some (w.heap.size,0) else g.β b) g.τ (st.box ++ [l]) st.live hle ?_ ?_ ?_ (by intro o v; split <;> simp),
  ?_,hS.tt,hS.uniq,hS.lt⟩,hle,?_,⟨rfl,rfl,rfl,rfl,rfl,rfl,rfl,rfl,by simp,Nat.le_refl _⟩⟩
 · intro o v hv
   by_cases e : o < vs.length
   · rw [if_pos e] at hv; cases hv
   · rw [if_neg e] at hv; cases hv
 · intro b c blk base hb hβ
   rw [nth_append] at hb
   try dsimp only at hβ
   by_cases e : b = st.box.length
   · rw [if_pos e] at hb hβ
     obtain rfl := Option.some.inj hb
     obtain ⟨rfl,rfl⟩ := Prod.mk.inj (Option.some.inj hβ)
     refine .inr ⟨rfl,vs,RelVs.mono hle hl,fun j v hv => ?_⟩
     have hj := (List.getElem?_eq_some_iff.1 hv).1
     refine ⟨?_,by simpa using hv⟩
     rw [if_pos (by omega),e]
   · rw [if_neg e] at hb hβ
     exact .inl ⟨hb,hβ⟩
 · intro i hi blk e c hτ
   exact .inl ⟨hi,hτ⟩
 · intro b
   try dsimp only
   rw [List.length_append,List.length_singleton]
   by_cases e : b = st.box.length
   · rw [if_pos e]; simp; omega
   · rw [if_neg e,hS.tb b]; omega
 · have := RelV.ptr (C := C) (g := ⟨fun b o => if b = w.heap.size then (if o < vs.length then .box st.box.length else .out) else g.own b o,fun b => if b = st.box.length then some (w.heap.size,0) else g.β b,g.τ,g.lo⟩) (b := st.box.length) (off := 0) (blk := w.heap.size) (base := 0) (by simp)
   exact this
/-- A new row of cells that are not written any more. -/
theorem SRel.row (hS : SRel C S w0 st g w) (vs : List Value) (rest : Array Value) (T : TypeId) :
 ∃ g',SRel C S w0 st g' (w.alloc (.cells (vs.toArray ++ rest) T)) ∧ Le g g' ∧ Imm g' w.heap.size 0 vs := by
 have hlt : ∀ b o,w.heap.size ≤ b → g.own b o = .out := hS.h.fresh
 have hle : Le g ⟨fun b o => if b = w.heap.size then (match vs[o]? with | some v => .imm v | none => .out) else g.own b o,g.β,g.τ,g.lo⟩ := by
  refine ⟨fun b o v hv => ?_,fun b x hb => hb,fun _ _ h => h,fun b o v hv => ?_,rfl⟩ <;>
  (try dsimp only
   rw [if_neg (fun e => by rw [hlt b o (by omega)] at hv; cases hv)]; exact hv)
 refine ⟨_,⟨hS.h.alloc (vs.toArray ++ rest) T (fun o => match vs[o]? with | some v => .imm v | none => .out) g.β g.τ st.box st.live hle ?_ (fun b c blk base hb hβ => .inl ⟨hb,hβ⟩) (fun i hi blk e c hτ => .inl ⟨hi,hτ⟩) (by intro o v; split <;> simp),
  hS.tb,hS.tt,hS.uniq,hS.lt⟩,hle,?_⟩
 · intro o v hv
   try dsimp only at hv
   cases hx : vs[o]? with
   | none => rw [hx] at hv; cases hv
   | some u =>
    rw [hx] at hv
    injection hv with hv
    subst hv
    have ho := (List.getElem?_eq_some_iff.1 hx).1
    rw [Array.getElem?_append_left (by simpa using ho)]
    simpa using hx
 · intro j v hv
   try dsimp only
   rw [if_pos rfl,Nat.zero_add,hv]
theorem hasTok_cons {i a : Nat} {l : List Nat} : hasTok i (a :: l) = true ↔ i = a ∨ hasTok i l = true := by
 rw [show hasTok i (a :: l) = (match Nat.beq a i with | true => true | false => hasTok i l) from rfl]
 cases e : Nat.beq a i with
 | true => have := Nat.eq_of_beq_eq_true e; simp [this]
 | false =>
  have : i ≠ a := fun q => by rw [q,Nat.beq_refl] at e; cases e
  simp [this]
/-- A new row with spare room that a new token stands for. -/
theorem SRel.rowTok (hS : SRel C S w0 st g w) (vs : List Value) (rest : Array Value) (T : TypeId) (f : Nat × Nat := (0,0)) :
 ∃ g',SRel C S w0 (newTok st) g' (w.alloc (.cells (vs.toArray ++ rest) T)) ∧ Le g g' ∧ Imm g' w.heap.size 0 vs ∧ g'.τ st.nt = some (some (w.heap.size,vs.length,vs.length + rest.size)) := by
 have hlt : ∀ b o,w.heap.size ≤ b → g.own b o = .out := hS.h.fresh
 have hle : Le g ⟨fun b o => if b = w.heap.size then (match vs[o]? with | some v => .imm v | none => if o < vs.length + rest.size then .spare st.nt else .out) else g.own b o,g.β,
  fun i => if i = st.nt then some (some (w.heap.size,vs.length,vs.length + rest.size)) else g.τ i,g.lo⟩ := by
  refine ⟨fun b o v hv => ?_,fun b x hb => hb,fun i s h => ?_,fun b o v hv => ?_,rfl⟩
  · try dsimp only
    rw [if_neg (fun e => by rw [hlt b o (by omega)] at hv; cases hv)]; exact hv
  · try dsimp only
    rw [if_neg (fun e => by rw [hS.tt i (by omega)] at h; cases h)]; exact h
  · try dsimp only
    rw [if_neg (fun e => by rw [hlt b o (by omega)] at hv; cases hv)]; exact hv
 refine ⟨_,⟨hS.h.alloc (vs.toArray ++ rest) T (fun o => match vs[o]? with | some v => .imm v | none => if o < vs.length + rest.size then .spare st.nt else .out) g.β
  (fun i => if i = st.nt then some (some (w.heap.size,vs.length,vs.length + rest.size)) else g.τ i) st.box (st.nt :: st.live) hle ?_ (fun b c blk base hb hβ => .inl ⟨hb,hβ⟩) ?_ (by intro o v; split <;> (try split) <;> simp),
  hS.tb,?_,?_,?_⟩,hle,?_,by simp⟩
 · intro o v hv
   try dsimp only at hv
   cases hx : vs[o]? with
   | none => rw [hx] at hv; dsimp only at hv; split at hv <;> cases hv
   | some u =>
    rw [hx] at hv
    injection hv with hv
    subst hv
    have ho := (List.getElem?_eq_some_iff.1 hx).1
    rw [Array.getElem?_append_left (by simpa using ho)]
    simpa using hx
 · intro i hi blk e c hτ
   try dsimp only at hτ
   by_cases q : i = st.nt
   · rw [if_pos q] at hτ
     obtain ⟨rfl,rfl,rfl⟩ : w.heap.size = blk ∧ vs.length = e ∧ vs.length + rest.size = c := by
      have := Option.some.inj (Option.some.inj hτ)
      exact ⟨(Prod.mk.inj this).1,(Prod.mk.inj (Prod.mk.inj this).2).1,(Prod.mk.inj (Prod.mk.inj this).2).2⟩
     refine .inr ⟨rfl,fun o h1 h2 => ⟨?_,by simp; omega⟩⟩
     rw [List.getElem?_eq_none h1]
     try dsimp only
     rw [if_pos h2,q]
   · rw [if_neg q] at hτ
     exact .inl ⟨(hasTok_cons.1 hi).resolve_left q,hτ⟩
 · intro i hi
   try dsimp only
   have hi' : st.nt + 1 ≤ i := hi
   rw [if_neg (by omega)]
   exact hS.tt i (by omega)
 · refine ⟨?_,hS.uniq⟩
   cases e : hasTok st.nt st.live with
   | false => rfl
   | true => have := hS.lt _ e; omega
 · intro i hi
   rcases hasTok_cons.1 hi with h | h
   · subst h; exact Nat.lt_succ_self _
   · have := hS.lt i h
     show i < st.nt + 1
     omega
 · intro j v hv
   try dsimp only
   rw [if_pos rfl,Nat.zero_add,hv]
/-- Nothing of the memory has turned. -/
theorem SRel.draw (hS : SRel C S w0 st g w) (hh : w'.heap = w.heap) (ho : w'.os = w.os) (ht : w'.tape = w.tape) (hu : w'.output = w.output) : SRel C S w0 st g w' :=
 ⟨hS.h.draw hh ho ht hu,hS.tb,hS.tt,hS.uniq,hS.lt⟩
/-- A token for what has no spare room. -/
theorem SRel.tokEmpty (hS : SRel C S w0 st g w) : SRel C S w0 (newTok st) g w := by
 refine ⟨⟨hS.h.imm,hS.h.box,fun i hi blk e c hτ o h1 h2 => ?_,hS.h.fresh,hS.h.size,hS.h.os,hS.h.tape,hS.h.output,hS.h.old,hS.h.wbox,hS.h.wspare,hS.h.snap,hS.h.hid,hS.h.lo,hS.h.fz⟩,
  hS.tb,fun i hi => hS.tt i (Nat.le_of_succ_le hi),⟨?_,hS.uniq⟩,fun i hi => ?_⟩
 · by_cases q : i = st.nt
   · rw [q,hS.tt _ (Nat.le_refl _)] at hτ; cases hτ
   · exact hS.h.live i ((hasTok_cons.1 hi).resolve_left q) blk e c hτ o h1 h2
 · cases e : hasTok st.nt st.live with
   | false => rfl
   | true => have := hS.lt _ e; omega
 · rcases hasTok_cons.1 hi with h | h
   · subst h; exact Nat.lt_succ_self _
   · have := hS.lt i h
     show i < st.nt + 1
     omega
theorem SRel.del (hS : SRel C S w0 st g w) (t : Nat) : SRel C S w0 { st with live := delTok t st.live } g w :=
 ⟨⟨hS.h.imm,hS.h.box,fun i hi => hS.h.live i (hasTok_del hi),hS.h.fresh,hS.h.size,hS.h.os,hS.h.tape,hS.h.output,hS.h.old,hS.h.wbox,hS.h.wspare,hS.h.snap,hS.h.hid,hS.h.lo,hS.h.fz⟩,hS.tb,hS.tt,hS.uniq.del,fun i hi => hS.lt i (hasTok_del hi)⟩
/-! ### what is put behind a slice -/
structure Src (P : Program) (w : World) (size : Nat) (x : Value) (m : Nat) (news : List Value) : Prop where
 len : ∀ w' : World,w'.heap = w.heap → (Builtin.lenOf x).run P w' = .ok m w'
 cells : ∀ w' : World,w'.heap = w.heap → (Builtin.firstCells size m x).run P w' = .ok news.toArray w'
 n : news.length = m * size
 one : ∀ v ∈ news,v.oneCell' = true
theorem okCells_append {a b : List (AVal U)} (ha : okCells a = true) (hb : okCells b = true) : okCells (a ++ b) = true := by
 induction a with
 | nil => exact hb
 | cons v r ih =>
  simp only [okCells,Bool.and_eq_true] at ha
  simp [okCells,ha.1,ih ha.2]
/-- Values that speak of data alone. -/
def plain : AVal U → Bool
 | .bool _ | .int _ _ | .str _ | .nilp | .nili | .nilf | .nils => true
 | .sl _ _ p => match p with
  | .no => true
  | _ => false
 | _ => false
def plains : List (AVal U) → Bool
 | [] => true
 | v :: r => plain v && plains r
structure CodecOk2 (C : Codec U) : Prop extends CodecOk C where
 okc : ∀ i x,okCells (C.flat i x) = true
 pl : ∀ i x,plains (C.flat i x) = true
theorem flat_ok (hC : CodecOk2 C) : ∀ (t : Ty) (x : t.den U),okCells (flat C t x) = true
 | .unit,_ => rfl
 | .int _,_ => rfl
 | .bool,_ => rfl
 | .str,_ => rfl
 | .pair a b,x => okCells_append (flat_ok hC a x.1) (flat_ok hC b x.2)
 | .sl _,_ => rfl
 | .user i,x => hC.okc i x
theorem cellsAll_ok (hC : CodecOk2 C) (t : Ty) : ∀ l : List (t.den U),okCells (cellsAll C t l) = true
 | [] => rfl
 | x :: r => okCells_append (flat_ok hC t x) (cellsAll_ok hC t r)
theorem src_sl (hC : CodecOk2 C) (hH : HInv C S w0 st.box st.live g w) {t : Ty} {l : List (t.den U)} {p : Perm} {c : Value} (h : RelV C g (.sl t l p) c) {size : Nat} (hsz : width C t = size) :
 ∃ news,Src P w size c l.length news ∧ RelVs C g (cellsAll C t l) news := by
 cases h with
 | sl0 => exact ⟨[],⟨fun w' _ => rfl,fun w' _ => by simp [Builtin.firstCells],by simp,fun v hv => by cases hv⟩,.nil⟩
 | sle => exact ⟨[],⟨fun w' _ => rfl,fun w' _ => by simp [Builtin.firstCells,loadCells,loadCellsFrom],by simp,fun v hv => by cases hv⟩,.nil⟩
 | sl hs hi hl hp =>
  rename_i blk off cap vs
  have hlen := RelVs.length hs
  rw [cellsAll_length hC.toCodecOk,hsz] at hlen
  refine ⟨vs,⟨fun w' _ => rfl,fun w' hw => ?_,hlen,okCells_one hs (cellsAll_ok hC t l)⟩,hs⟩
  refine run_firstCells_some _ _ _ _ _ _ vs hlen fun j v hv => ?_
  rw [addr_add,cell_congr hw]
  exact hH.imm _ _ _ (hi j v hv)
theorem toBytes_length (s : ByteArray) : (toBytes s).length = s.size := by unfold toBytes; rw [List.length_map]; exact Array.length_toList
theorem src_str (s : ByteArray) : ∃ news,Src P w 1 (.string s) (toBytes s).length news ∧ RelVs C g (cellsAll C (.int .u8) (toBytes s)) news := by
 have hrel : ∀ l : List UInt8,RelVs C g (cellsAll C (.int .u8) (l.map fun b => (b.toNat : Int))) (l.map fun b => Value.int .u8 b.toNat) := by
  intro l
  induction l with
  | nil => exact .nil
  | cons b r ih => exact .cons (.int _ _) ih
 refine ⟨s.data.toList.map (fun b : UInt8 => Value.int .u8 (b.toNat : Int)),⟨fun w' _ => ?_,fun w' _ => ?_,?_,?_⟩,hrel s.data.toList⟩
 · rw [toBytes_length]; rfl
 · rw [toBytes_length]
   have hx : (s.extract 0 s.size) = s := by simp
   simp only [Builtin.firstCells,hx,Sem.run_pure]
   congr 1
   apply Array.ext'
   simp
 · rw [toBytes_length]; simp
 · intro v hv
   obtain ⟨b,_,rfl⟩ := List.mem_map.1 hv
   rfl
/-! ### a box whose cells are written no more -/
def Gh.freeze (g : Gh) (w : World) (b : Nat) : Gh :=
 { g with own := fun blk o => match g.own blk o with
    | .box k => match Nat.beq k b,w.cell? ⟨blk,o,none⟩ with
     | true,some v => .imm v
     | _,_ => .box k
    | x => x }
theorem freeze_of {blk o b : Nat} {x : Own} (h : (g.freeze w b).own blk o = x) :
 (∃ v,g.own blk o = .box b ∧ w.cell? ⟨blk,o,none⟩ = some v ∧ x = .imm v) ∨ (g.own blk o = x ∧ ∀ v,g.own blk o = .box b → w.cell? ⟨blk,o,none⟩ = some v → False) := by
 have h' : (match g.own blk o with
  | .box k => match Nat.beq k b,w.cell? ⟨blk,o,none⟩ with
   | true,some v => Own.imm v
   | _,_ => .box k
  | x => x) = x := h
 cases e : g.own blk o with
 | box k =>
  rw [e] at h'
  dsimp only at h'
  cases e2 : Nat.beq k b with
  | false => rw [e2] at h'; exact .inr ⟨h',fun v q _ => by cases q; rw [Nat.beq_refl] at e2; cases e2⟩
  | true =>
   have := Nat.eq_of_beq_eq_true e2
   subst this
   rw [e2] at h'
   cases e3 : w.cell? ⟨blk,o,none⟩ with
   | none => rw [e3] at h'; exact .inr ⟨h',fun v _ q => by cases q⟩
   | some v => rw [e3] at h'; exact .inl ⟨v,rfl,rfl,h'.symm⟩
 | _ => rw [e] at h'; exact .inr ⟨h',fun v q => by cases q⟩
theorem freeze_other {blk o b : Nat} (h : ∀ v,g.own blk o = .box b → w.cell? ⟨blk,o,none⟩ = some v → False) : (g.freeze w b).own blk o = g.own blk o := by
 rcases freeze_of (g := g) (w := w) (blk := blk) (o := o) (b := b) rfl with ⟨v,h1,h2,_⟩ | ⟨h1,_⟩
 · exact (h v h1 h2).elim
 · exact h1.symm
theorem freeze_at {blk o b : Nat} {v : Value} (h1 : g.own blk o = .box b) (h2 : w.cell? ⟨blk,o,none⟩ = some v) : (g.freeze w b).own blk o = .imm v := by
 show (match g.own blk o with
  | .box k => match Nat.beq k b,w.cell? ⟨blk,o,none⟩ with
   | true,some v => Own.imm v
   | _,_ => .box k
  | x => x) = _
 rw [h1]
 dsimp only
 rw [Nat.beq_refl,h2]
theorem le_freeze (b : Nat) : Le g (g.freeze w b) :=
 ⟨fun k o v h => by rw [freeze_other (fun v' q => by rw [h] at q; cases q)]; exact h,fun _ _ h => h,fun _ _ h => h,fun k o v h => by rw [freeze_other (fun v' q => by rw [h] at q; cases q)]; exact h,rfl⟩
theorem SRel.freeze (hS : SRel C S w0 st g w) (b : Nat) : SRel C S w0 { st with box := st.box.set b [] } (g.freeze w b) w := by
 refine ⟨⟨fun k o v h => ?_,fun k cs blk base hb hβ => ?_,fun i hi blk e c hτ o h1 h2 => ?_,fun k o hb => ?_,hS.h.size,hS.h.os,hS.h.tape,hS.h.output,hS.h.old,fun k o i h hb => ?_,fun k o i h hb => ?_,
  fun k o v h1 h2 h3 => ?_,fun k o v h => ?_,hS.h.lo,fun k o hr => by
   rcases freeze_of (g := g) (w := w) (b := b) (blk := k) (o := o) rfl with ⟨u,_,h2,q⟩ | ⟨q,_⟩
   · rw [q] at hr; cases hr
   · exact hS.h.fz k o (by rw [q]; exact hr)⟩,fun k => by show g.β k = none ↔ (st.box.set b []).length ≤ k; rw [List.length_set]; exact hS.tb k,hS.tt,hS.uniq,hS.lt⟩
 · rcases freeze_of h with ⟨u,_,h2,q⟩ | ⟨q,_⟩
   · cases q; exact h2
   · exact hS.h.imm k o v q
 · rw [nth_set] at hb
   by_cases e : b = k
   · rw [if_pos e] at hb
     cases hn : nth st.box k with
     | none => rw [hn] at hb; cases hb
     | some c => rw [hn] at hb; cases hb; exact ⟨[],.nil,fun j v hv => by cases hv⟩
   · rw [if_neg e] at hb
     obtain ⟨vs,h3,h4⟩ := hS.h.box k cs blk base hb hβ
     refine ⟨vs,RelVs.mono (le_freeze b) h3,fun j v hv => ?_⟩
     obtain ⟨h5,h6⟩ := h4 j v hv
     exact ⟨by rw [freeze_other (fun v' q => by rw [h5] at q; cases q; exact (e rfl).elim)]; exact h5,h6⟩
 · obtain ⟨h3,h4⟩ := hS.h.live i hi blk e c hτ o h1 h2
   exact ⟨by rw [freeze_other (fun v' q => by rw [h3] at q; cases q)]; exact h3,h4⟩
 · have := hS.h.fresh k o hb
   rw [freeze_other (fun v' q => by rw [this] at q; cases q)]; exact this
 · rcases freeze_of h with ⟨u,_,_,q⟩ | ⟨q,_⟩
   · cases q
   · exact hS.h.wbox k o i q hb
 · rcases freeze_of h with ⟨u,_,_,q⟩ | ⟨q,_⟩
   · cases q
   · exact hS.h.wspare k o i q hb
 · have := hS.h.snap k o v h1 h2 h3
   rw [freeze_other (fun v' q => by rw [this] at q; cases q)]; exact this
 · rcases freeze_of h with ⟨u,_,_,q⟩ | ⟨q,_⟩
   · cases q
   · exact hS.h.hid k o v q
end
end Go.Proofs.YtccfmfifnbnlmaaGreatDoor.Ev
end
section
/- Append, conversions, slices: what the evaluator says of them. -/
set_option linter.unusedVariables false
set_option linter.unusedSimpArgs false
namespace Go.Proofs.YtccfmfifnbnlmaaGreatDoor.Ev
open Go
section
variable {U : Nat → Type} {C : Codec U} {P : Program} {g g' : Gh} {w w' w0 : World} {R : Type} {S : Nat → Nat → Bool} {st : St U}
theorem cellsAll_append (t : Ty) (a b : List (t.den U)) : cellsAll C t (a ++ b) = cellsAll C t a ++ cellsAll C t b := by
 unfold cellsAll; rw [List.flatMap_append]
theorem Same.newTok (st : St U) : Same st (newTok st) := ⟨rfl,rfl,rfl,rfl,rfl,rfl,rfl,rfl,Nat.le_refl _,Nat.le_succ _⟩
theorem Same.del (st : St U) (i : Nat) : Same st (Ev.newTok { st with live := delTok i st.live }) := ⟨rfl,rfl,rfl,rfl,rfl,rfl,rfl,rfl,Nat.le_refl _,Nat.le_succ _⟩
theorem imm_append {blk off : Nat} {a b : List Value} (ha : Imm g blk off a) (hb : Imm g blk (off + a.length) b) : Imm g blk off (a ++ b) := by
 intro j v hv
 by_cases h : j < a.length
 · rw [List.getElem?_append_left h] at hv
   exact ha j v hv
 · rw [List.getElem?_append_right (by omega)] at hv
   have := hb (j - a.length) v hv
   rwa [show off + a.length + (j - a.length) = off + j by omega] at this
theorem append_rel (hC : CodecOk2 C) (hS : SRel C S w0 st g w) {t u ty e : TypeId} {inf : TypeInfo} {z : Value} {d : TypeDesc} (ht : P.underlying t = some (.slice e)) (hu : P.underlying u = some d) (hd : d = .string ∨ d = .slice e)
 (hi : P.info? e = some inf) (hz : inf.zero = some z) (hzs : z.cells.size = inf.size) {T : Ty} (hw : width C T = inf.size) (hsz : 0 < inf.size) {l l2 : List (T.den U)} {p : Perm} {cs cx : Value} {news : List Value}
 (hl : RelV C g (.sl T l p) cs) (hx : Src P w inf.size cx l2.length news) (hn : RelVs C g (cellsAll C T l2) news) {K : AVal U → St U → Option R} {r : R}
 (h : appendTo inf.bytes T l l2 p st K = some r) (hby : 0 < inf.bytes) :
 ∃ v st' c g' w',K v st' = some r ∧ (Builtin.append_ #[t,u] ty #[cs,cx]).run P w = .ok c w' ∧ Step C S w0 st st' g g' w' v c := by
 unfold appendTo at h
 by_cases hmost : (l.length + l2.length) * inf.bytes ≤ most
 case neg => rw [if_neg hmost] at h; cases h
 rw [if_pos hmost] at h
 unfold most at hmost
 have hmul : l.length + l2.length ≤ (l.length + l2.length) * inf.bytes := Nat.le_mul_of_pos_right _ hby
 obtain ⟨olds,ho,hor⟩ := src_sl (P := P) hC hS.h hl hw
 -- a new row,for whatever token
 have grow : ∀ (st1 : St U),SRel C S w0 st1 g w → st1.nt = st.nt → ∀ (ao : Option Addr) (cap : Nat),cs = .slice ao l.length cap → ¬ l.length + l2.length ≤ cap →
  ∃ c g' w',(Builtin.append_ #[t,u] ty #[cs,cx]).run P w = .ok c w' ∧ SRel C S w0 (newTok st1) g' w' ∧ Le g g' ∧ RelV C g' (.sl T (l ++ l2) (.tok st.nt)) c := by
  intro st1 hS1 hnt ao cap hcs hroom
  subst hcs
  have hr := run_append_new (P := P) (ty := ty) ht hu hd hi hz (ao := ao) (n := l.length) (cap := cap) (xs := olds) (hx.len w rfl) hx.cells ho.cells hroom (by omega) (by omega)
  have hS2 : SRel C S w0 st1 g w.drew := hS1.draw rfl rfl rfl rfl
  obtain ⟨g',h1,h2,h3,h4⟩ := hS2.rowTok (olds ++ news) (Builtin.zeroCells z.cells (grownCap w (l.length + l2.length) cap e - (l.length + l2.length))) e
  refine ⟨_,g',_,hr,h1,h2,?_⟩
  have hge : l.length + l2.length ≤ grownCap w (l.length + l2.length) cap e := by simp [grownCap,Question.cut]
  have hlen : (l ++ l2).length = l.length + l2.length := List.length_append
  have hnews : (olds ++ news).length = (l.length + l2.length) * inf.size := by rw [List.length_append,ho.n,hx.n,Nat.add_mul]
  have hall : RelVs C g' (cellsAll C T (l ++ l2)) (olds ++ news) := by rw [cellsAll_append]; exact RelVs.mono h2 (RelVs.append hor hn)
  have := RelV.sl (p := .tok st.nt) (cap := grownCap w (l.length + l2.length) cap e) hall h3 (by omega) (by
   refine .inl ?_
   rw [← hnt,h4]
   show some (some (w.heap.size,_,_)) = some (some (w.heap.size,_,_))
   rw [hlen,hw,hnews,Go.size_zeroCells z.cells]
   congr 4
   · omega
   · rw [hzs,Nat.zero_add,← Nat.add_mul]
     congr 1
     omega)
  rwa [hlen] at this
 -- no spare room: nothing is put,or a new row is made
 have full : ∀ (st1 : St U),SRel C S w0 st1 g w → st1.nt = st.nt → ∀ (ao : Option Addr),cs = .slice ao l.length l.length →
  ∃ c g' w',(Builtin.append_ #[t,u] ty #[cs,cx]).run P w = .ok c w' ∧ SRel C S w0 (newTok st1) g' w' ∧ Le g g' ∧ RelV C g' (.sl T (l ++ l2) (.tok st.nt)) c := by
  intro st1 hS1 hnt ao hcs
  by_cases h0 : l2.length = 0
  · have hl2 : l2 = [] := List.eq_nil_of_length_eq_zero h0
    subst hl2
    have hnil : news = [] := List.eq_nil_of_length_eq_zero (by rw [hx.n]; simp)
    subst hnil
    refine ⟨cs,g,w,?_,hS1.tokEmpty,Le.refl g,?_⟩
    · cases hl with
      | sl0 => exact run_append_none (P := P) (ty := ty) ht hu hd hi (x := cx) (news := []) (hx.len w rfl) (hx.cells w rfl)
      | sle => exact run_append_zero (P := P) (ty := ty) ht hu hd hi (x := cx) (hx.len w rfl) (hx.cells w rfl)
      | sl hs hi' hle hp =>
       rename_i blk off cap vs
       obtain rfl : cap = l.length := by injection hcs
       exact run_append_fits (P := P) (ty := ty) ht hu hd hi (blk := blk) (off := off) (n := l.length) (cap := l.length) (m := 0) (news := []) (hx.len w rfl) (hx.cells w rfl) (by omega) (fun j hj => by cases hj) (fun j hj => by cases hj) (fun v hv => by cases hv)
    · rw [List.append_nil]
      cases hl with
      | sl0 => exact .sl0 rfl
      | sle => exact .sle rfl
      | sl hs hi' hle hp =>
       rename_i blk off cap vs
       obtain rfl : cap = l.length := by injection hcs
       exact .sl hs hi' hle (.inr rfl)
  · exact grow st1 hS1 hnt ao l.length hcs (by omega)
 cases p with
 | no => cases h
 | nil => cases h
 | nn => cases h
 | em => cases h
 | exact =>
  replace h : K (.sl T (l ++ l2) (.tok st.nt)) (newTok st) = some r := h
  refine ⟨.sl T (l ++ l2) (.tok st.nt),newTok st,?_⟩
  have hex : ∃ ao,cs = .slice ao l.length l.length := by
   cases hl with
   | sl0 => exact ⟨none,rfl⟩
   | sle => exact ⟨_,rfl⟩
   | sl hs hi' hle hp =>
    rename_i blk off cap vs
    obtain rfl : cap = l.length := hp.1
    exact ⟨_,rfl⟩
  obtain ⟨ao,hcs⟩ := hex
  obtain ⟨c,g',w',h1,h2,h3,h4⟩ := full st hS rfl ao hcs
  exact ⟨c,g',w',h,h1,⟨h2,h3,h4,Same.newTok st⟩⟩
 | tok i =>
  replace h : (match hasTok i st.live && Nat.ble st.wt i with | true => K (.sl T (l ++ l2) (.tok st.nt)) (newTok { st with live := delTok i st.live }) | false => none) = some r := h
  cases hb : (hasTok i st.live && Nat.ble st.wt i) with
  | false => rw [hb] at h; cases h
  | true =>
   rw [hb] at h
   simp only [Bool.and_eq_true] at hb
   replace h : K (.sl T (l ++ l2) (.tok st.nt)) (newTok { st with live := delTok i st.live }) = some r := h
   refine ⟨.sl T (l ++ l2) (.tok st.nt),newTok { st with live := delTok i st.live },?_⟩
   by_cases hex : ∃ ao,cs = .slice ao l.length l.length
   · obtain ⟨ao,hcs⟩ := hex
     obtain ⟨c,g',w',h1,h2,h3,h4⟩ := full _ (hS.del i) rfl ao hcs
     exact ⟨c,g',w',h,h1,⟨h2,h3,h4,Same.del st i⟩⟩
   · cases hl with
     | sl0 => exact absurd ⟨none,rfl⟩ hex
     | sle => exact absurd ⟨_,rfl⟩ hex
     | sl hs hi' hle hp =>
      rename_i blk off cap vs
      have hτ : g.τ i = some (some (blk,off + l.length * width C T,off + cap * width C T)) := hp.resolve_right fun q => hex ⟨_,by rw [q]⟩
      by_cases hroom : l.length + l2.length ≤ cap
      · have hlen : off + l.length * width C T + news.length ≤ off + cap * width C T := by
         rw [hx.n,← hw,Nat.add_assoc,← Nat.add_mul]
         exact Nat.add_le_add_left (Nat.mul_le_mul_right _ hroom) _
        obtain ⟨h1,h2,h3,h4⟩ := hS.h.spend (i := st.nt) (vs := news) hS.uniq hb.1 hτ hlen (hS.tt _ (Nat.le_refl _))
        have hr := run_append_fits (P := P) (ty := ty) ht hu hd hi (blk := blk) (off := off) (n := l.length) (cap := cap) (m := l2.length) (news := news) (hx.len w rfl) (hx.cells w rfl) hroom
         (fun j hj => by rw [← hw]; exact (h3 j hj).1) (fun j hj => by rw [← hw]; exact (h3 j hj).2) hx.one
        rw [← hw] at hr
        refine ⟨_,_,_,h,hr,⟨⟨h2,hS.tb,fun j hj => ?_,⟨?_,hS.uniq.del⟩,fun j hj => ?_⟩,h1,?_,Same.del st i⟩⟩
        · have hj' : st.nt + 1 ≤ j := hj
          show (if j = st.nt then _ else _) = _
          rw [if_neg (by omega)]
          exact hS.tt j (by omega)
        · cases q : hasTok st.nt (delTok i st.live) with
          | false => rfl
          | true => have := hS.lt _ (hasTok_del q); omega
        · rcases hasTok_cons.1 hj with q | q
          · subst q; exact Nat.lt_succ_self _
          · have := hS.lt j (hasTok_del q)
            show j < st.nt + 1
            omega
        · have hvl := RelVs.length hs
          rw [cellsAll_length hC.toCodecOk] at hvl
          have hall : RelVs C (g.spent blk (off + l.length * width C T) news st.nt (some (blk,off + l.length * width C T + news.length,off + cap * width C T)) i) (cellsAll C T (l ++ l2)) (vs ++ news) := by
           rw [cellsAll_append]; exact RelVs.mono h1 (RelVs.append hs hn)
          have := RelV.sl (p := .tok st.nt) (cap := cap) hall (imm_append (hi'.mono h1) (by rw [hvl]; exact h4)) (by rw [List.length_append]; exact hroom) (by
           refine .inl ?_
           show (if st.nt = st.nt then _ else _) = _
           rw [if_pos rfl,List.length_append,hx.n,← hw,Nat.add_mul,Nat.add_assoc])
          rwa [List.length_append] at this
      · obtain ⟨c,g',w',h1,h2,h3,h4⟩ := grow _ (hS.del i) rfl (some ⟨blk,off,none⟩) cap rfl hroom
        exact ⟨c,g',w',h,h1,⟨h2,h3,h4,Same.del st i⟩⟩
end
end Go.Proofs.YtccfmfifnbnlmaaGreatDoor.Ev
end
section
/- Fields, elements, slices, conversions, composites. -/
set_option linter.unusedVariables false
set_option linter.unusedSimpArgs false
namespace Go.Proofs.YtccfmfifnbnlmaaGreatDoor.Ev
open Go
section
variable {U : Nat → Type} {C : Codec U} {P : Program} {g g' : Gh} {w w' w0 : World} {R : Type} {S : Nat → Nat → Bool} {st : St U} {cx : Cx U R}
theorem step_same (hS : SRel C S w0 st g w) {v : AVal U} {c : Value} (hv : RelV C g v c) : Step C S w0 st st g g w v c := ⟨hS,Le.refl g,hv,Same.refl st⟩
/-! ### fields -/
theorem field_get {F : Array Field} {fs : List (Nat × TypeId)} (hF : F.toList.map (fun f => (f.offset,f.type)) = fs) {f : Nat} {x : Nat × TypeId} (h : nth fs f = some x) :
 ∃ fld,F[f]? = some fld ∧ fld.offset = x.1 ∧ fld.type = x.2 := by
 rw [nth_get,← hF,List.getElem?_map] at h
 obtain ⟨fld,h1,h2⟩ := Option.map_eq_some_iff.1 h
 refine ⟨fld,by simpa using h1,?_,?_⟩ <;> rw [← h2]
theorem fieldAddr_rel (ok : ∀ t,TTOk C P cx.TT t) {t : TypeId} {f : Nat} {fs : List (Nat × TypeId)} (hk : (cx.TT t).k = .st fs) {x : Nat × TypeId} (hx : nth fs f = some x)
 (hkn : (cx.TT x.2).k.known = true) (hsz : (cx.TT x.2).size ≠ 0) {blk off : Nat} :
 (Instr.fieldAt t (.pointer (some ⟨blk,off,none⟩)) f).run P w = .ok (.pointer (some ⟨blk,off + x.1,none⟩)) w := by
 obtain ⟨_,h2⟩ := ok t
 rw [hk] at h2
 obtain ⟨F,hu,hF,_⟩ := h2
 obtain ⟨fld,h3,h4,h5⟩ := field_get hF hx
 obtain ⟨z,hz⟩ := (ok x.2).known hkn
 rw [← h5] at hz hsz
 simp only [Instr.fieldAt,Sem.run_bind,run_underlying hu,Result.andThen,h3,Instr.sureAddr,Sem.run_pure,fieldPlace,run_size hz]
 rw [if_neg hsz]
 simp [addr_add,h4]
theorem part_rel (ok : ∀ t,TTOk C P cx.TT t) {t : TypeId} {off : Nat} {cs : List (AVal U)} {vs : List Value} {v : AVal U} (hs : RelVs C g cs vs) (h : loadAt cx t (cs.drop off) = some v) :
 ∃ c,(part t vs.toArray off).run P w = .ok c w ∧ RelV C g v c := by
 unfold loadAt at h
 cases hk : (cx.TT t).k.known with
 | false => rw [hk] at h; cases h
 | true =>
  rw [hk] at h
  obtain ⟨z,hz⟩ := (ok t).known hk
  cases hg : (cx.TT t).k.agg with
  | true =>
   rw [hg] at h
   cases hb : Nat.ble (cx.TT t).size (cs.drop off).length with
   | false => rw [hb] at h; cases h
   | true =>
    rw [hb] at h
    obtain rfl := Option.some.inj h
    refine ⟨.agg ((vs.drop off).take (cx.TT t).size).toArray,?_,.agg (RelVs.take _ (RelVs.drop off hs))⟩
    simp only [part,Sem.run_bind,run_agg (ok t) hk,hg,Result.andThen,if_true,run_size hz,Sem.run_pure]
    congr 2
    apply Array.ext'
    simp [List.extract_eq_take_drop]
  | false =>
   rw [hg] at h
   have hd := RelVs.drop off hs
   cases hcs : cs.drop off with
   | nil => rw [hcs] at h; cases h
   | cons v1 r1 =>
    rw [hcs] at h hd
    obtain rfl := Option.some.inj h
    cases hvs : vs.drop off with
    | nil => rw [hvs] at hd; cases hd
    | cons c rc =>
     rw [hvs] at hd
     cases hd with
     | cons hv _ =>
      refine ⟨c,?_,hv⟩
      have hget : vs[off]? = some c := by
       have := congrArg (fun l => l[0]?) hvs
       simpa using this
      simp [part,run_agg (ok t) hk,hg,hget]
/-! ### elements -/
theorem indexAt_slice (ok : ∀ t,TTOk C P cx.TT t) (hC : CodecOk2 C) {t e : TypeId} {ty : Ty} (hk : (cx.TT t).k = .sl e ty) {l : List (ty.den U)} {p : Perm} {c : Value} {k : IntKind} {n : Int} {x : ty.den U}
 (h : RelV C g (.sl ty l p) c) (h0 : 0 ≤ n) (hx : nth l n.toNat = some x) :
 ∃ d,(Instr.indexAt t c (.int k n)).run P w = .ok d w ∧ RelV C g (.rp (flat C ty x)) d := by
 obtain ⟨_,h2⟩ := ok t
 rw [hk] at h2
 obtain ⟨hu,hw,hek,hpos,hbp,hu8⟩ := h2
 obtain ⟨z,hz⟩ := (ok e).known hek
 have hlt := nth_lt hx
 cases h with
 | sl0 => cases hlt
 | sle => cases hlt
 | sl hs hi hl hp =>
  rename_i blk off cap vs
  have hin : 0 ≤ n ∧ n < (l.length : Int) := ⟨h0,by omega⟩
  refine ⟨.pointer (some ⟨blk,off + n.toNat * (cx.TT e).size,none⟩),?_,?_⟩
  · simp only [Instr.indexAt,asIntOf,Sem.run_bind,Sem.run_pure,Result.andThen,run_underlying hu,hin,and_self,if_true,run_size hz,addr_add,Sem.run_ite]
  · rw [nth_get] at hx
    have hsplit : cellsAll C ty l = cellsAll C ty (l.take n.toNat) ++ (flat C ty x ++ cellsAll C ty (l.drop (n.toNat + 1))) := by
     have h1 : l = l.take n.toNat ++ (x :: l.drop (n.toNat + 1)) := by
      have h2 := (List.take_append_drop n.toNat l).symm
      rw [List.drop_eq_getElem_cons hlt] at h2
      have h3 : l[n.toNat] = x := by rw [List.getElem?_eq_getElem hlt] at hx; exact Option.some.inj hx
      rw [h3] at h2
      exact h2
     conv => lhs; rw [h1]
     rw [cellsAll_append]
     unfold cellsAll
     rw [List.flatMap_cons]
    rw [hsplit] at hs
    obtain ⟨a,b,rfl,r1,r2⟩ := RelVs.split hs
    obtain ⟨a2,b2,rfl,r3,r4⟩ := RelVs.split r2
    have hla := RelVs.length r1
    rw [cellsAll_length hC.toCodecOk,List.length_take,Nat.min_eq_left (by omega),hw] at hla
    refine .rp r3 fun j v hv => ?_
    have hj := (List.getElem?_eq_some_iff.1 hv).1
    have := hi (a.length + j) v (by rw [List.getElem?_append_right (by omega),List.getElem?_append_left (by omega)]; rw [show a.length + j - a.length = j by omega]; exact hv)
    rwa [hla,← Nat.add_assoc] at this
theorem cases_some {n : Nat} {i : Int} {K : Nat → Option R} {r : R} (h : cases n i K = some r) : ∃ m,m < n ∧ i = (m : Int) ∧ K m = some r := by
 induction n with
 | zero => cases h
 | succ n ih =>
  unfold cases at h
  by_cases e : i = (n : Int)
  · rw [if_pos e] at h; exact ⟨n,by omega,e,h⟩
  · rw [if_neg e] at h
    obtain ⟨m,h1,h2,h3⟩ := ih h
    exact ⟨m,by omega,h2,h3⟩
theorem elemSize_some (ok : ∀ t,TTOk C P cx.TT t) {e : TypeId} {z : Nat} (h : elemSize cx e = some z) : ∃ v,Info C P e (cx.TT e) v ∧ z = (cx.TT e).size ∧ 0 < z := by
 unfold elemSize at h
 cases hk : ((cx.TT e).k.known && !Nat.beq (cx.TT e).size 0) with
 | false => rw [hk] at h; cases h
 | true =>
  rw [hk] at h
  simp only [Bool.and_eq_true,Bool.not_eq_true'] at hk
  obtain ⟨v,hv⟩ := (ok e).known hk.1
  have hz := (Option.some.inj h).symm
  refine ⟨v,hv,hz,?_⟩
  rcases Nat.eq_zero_or_pos (cx.TT e).size with q | q
  · rw [q] at hk; exact absurd hk.2 (by decide)
  · omega
theorem indexAt_arr (ok : ∀ t,TTOk C P cx.TT t) {t e : TypeId} {n : Nat} {ty : Option Ty} (hk : (cx.TT t).k = .arr n e ty) {z m : Nat} (hz : elemSize cx e = some z) (hm : m < n) {k : IntKind} {blk off : Nat} :
 (Instr.indexAt t (.pointer (some ⟨blk,off,none⟩)) (.int k (m : Int))).run P w = .ok (.pointer (some ⟨blk,off + m * z,none⟩)) w := by
 obtain ⟨_,h2⟩ := ok t
 rw [hk] at h2
 obtain ⟨v,hv,rfl,_⟩ := elemSize_some ok hz
 have hu : P.underlying t = some (.array n e) := h2.1
 have hin : (0 : Int) ≤ (m : Int) ∧ (m : Int) < (n : Int) := by omega
 simp only [Instr.indexAt,asIntOf,Sem.run_bind,Sem.run_pure,Result.andThen,run_underlying hu,Instr.sureAddr,hin,and_self,if_true,run_size hv,addr_add,Sem.run_ite,Int.toNat_natCast]
theorem index_str (t : TypeId) (hu : P.underlying t = some .string) {s : ByteArray} {k : IntKind} {n : Int} (h0 : 0 ≤ n) (h1 : n < (s.size : Int)) :
 (Instr.index t (.string s) (.int k n)).run P w = .ok (.int .u8 (bt s n)) w := by
 have hlt : n.toNat < s.size := by omega
 have hb : bt s n = ((s[n.toNat]'hlt).toNat : Int) := by simp [bt,hlt]
 simp [Instr.index,asIntOf,run_underlying hu,h0,hlt,hb]
theorem index_arr (ok : ∀ t,TTOk C P cx.TT t) {t e : TypeId} {n : Nat} {ty : Option Ty} (hk : (cx.TT t).k = .arr n e ty) {z m : Nat} (hz : elemSize cx e = some z) (hm : m < n) {k : IntKind} {cs : List (AVal U)} {vs : List Value} {v : AVal U}
 (hs : RelVs C g cs vs) (h : loadAt cx e (cs.drop (m * z)) = some v) : ∃ c,(Instr.index t (.agg vs.toArray) (.int k (m : Int))).run P w = .ok c w ∧ RelV C g v c := by
 obtain ⟨_,h2⟩ := ok t
 rw [hk] at h2
 obtain ⟨v',hv,rfl,_⟩ := elemSize_some ok hz
 have hu : P.underlying t = some (.array n e) := h2.1
 have hin : (0 : Int) ≤ (m : Int) ∧ (m : Int) < (n : Int) := by omega
 obtain ⟨c,hc,hr⟩ := part_rel (P := P) (w := w) ok hs h
 refine ⟨c,?_,hr⟩
 simp only [Instr.index,asIntOf,Sem.run_bind,Sem.run_pure,Result.andThen,run_underlying hu,hin,and_self,if_true,run_size hv,Sem.run_ite,Int.toNat_natCast,hc]
/-! ### slices of slices -/
theorem run_sliceBounds {len cap : Nat} {lo hi : Option Value} {a b : Nat} (isS : Bool) (hlc : len ≤ cap) (hl : (lo = none ∧ a = 0) ∨ ∃ k n,lo = some (.int k n) ∧ 0 ≤ n ∧ a = n.toNat) (hh : (hi = none ∧ b = len) ∨ ∃ k n,hi = some (.int k n) ∧ 0 ≤ n ∧ b = n.toNat)
 (hab : a ≤ b) (hb : b ≤ len) : (Instr.sliceBounds isS len cap lo hi none).run P w = .ok (a,b,cap) w := by
 rcases hh with ⟨rfl,rfl⟩ | ⟨k,n,rfl,hn,rfl⟩
 · rcases hl with ⟨rfl,rfl⟩ | ⟨k,n,rfl,hn,rfl⟩
   · simp [Instr.sliceBounds]
   · have : 0 ≤ n ∧ n ≤ (b : Int) := by omega
     simp [Instr.sliceBounds,Instr.sliceBound,asIntOf,this]
 · rcases hl with ⟨rfl,rfl⟩ | ⟨k',n',rfl,hn',rfl⟩
   · have : 0 ≤ n ∧ n ≤ (cap : Int) := by omega
     simp [Instr.sliceBounds,Instr.sliceBound,asIntOf,this]
   · have h1 : 0 ≤ n ∧ n ≤ (cap : Int) := by omega
     have h2 : 0 ≤ n' ∧ n' ≤ n := by omega
     have h3 : (n.toNat : Int) = n := by omega
     simp [Instr.sliceBounds,Instr.sliceBound,asIntOf,h1,h2,h3]
theorem slice_str {t : TypeId} (hu : P.underlying t = some .string) {s : ByteArray} {lo hi : Option Value} {a b : Nat} (hl : (lo = none ∧ a = 0) ∨ ∃ k n,lo = some (.int k n) ∧ 0 ≤ n ∧ a = n.toNat)
 (hh : (hi = none ∧ b = s.size) ∨ ∃ k n,hi = some (.int k n) ∧ 0 ≤ n ∧ b = n.toNat) (hab : a ≤ b) (hb : b ≤ s.size) :
 (Instr.sliceAt t (.string s) lo hi none).run P w = .ok (.string (s.extract a b)) w := by
 have := run_sliceBounds (P := P) (w := w) false (Nat.le_refl s.size) hl hh hab hb
 simp [Instr.sliceAt,Instr.slice,run_underlying hu,this]
theorem cellsAll_drop (hC : CodecOk2 C) (t : Ty) (l : List (t.den U)) (n : Nat) (hn : n ≤ l.length) {vs : List Value} (h : RelVs C g (cellsAll C t l) vs) : RelVs C g (cellsAll C t (l.drop n)) (vs.drop (n * width C t)) := by
 have h1 := List.take_append_drop n l
 rw [← h1,cellsAll_append] at h
 obtain ⟨a,b,rfl,r1,r2⟩ := RelVs.split h
 have hla := RelVs.length r1
 rw [cellsAll_length hC.toCodecOk,List.length_take,Nat.min_eq_left hn] at hla
 rw [← hla,List.drop_left]
 exact r2
theorem cellsAll_take (hC : CodecOk2 C) (t : Ty) (l : List (t.den U)) (n : Nat) (hn : n ≤ l.length) {vs : List Value} (h : RelVs C g (cellsAll C t l) vs) : RelVs C g (cellsAll C t (l.take n)) (vs.take (n * width C t)) := by
 have h1 := List.take_append_drop n l
 rw [← h1,cellsAll_append] at h
 obtain ⟨a,b,rfl,r1,r2⟩ := RelVs.split h
 have hla := RelVs.length r1
 rw [cellsAll_length hC.toCodecOk,List.length_take,Nat.min_eq_left hn] at hla
 rw [← hla,List.take_left]
 exact r1
theorem slice_sl0 (ok : ∀ t,TTOk C P cx.TT t) (hC : CodecOk2 C) {t e : TypeId} {ty : Ty} (hk : (cx.TT t).k = .sl e ty) {l : List (ty.den U)} {p : Perm} {c : Value} (h : RelV C g (.sl ty l p) c)
 {lo hi : Option Value} {a b : Nat} (hl : (lo = none ∧ a = 0) ∨ ∃ k n,lo = some (.int k n) ∧ 0 ≤ n ∧ a = n.toNat)
 (hh : (hi = none ∧ b = l.length) ∨ ∃ k n,hi = some (.int k n) ∧ 0 ≤ n ∧ b = n.toNat) (hab : a ≤ b) (hb : b ≤ l.length) (hne : p ≠ .em) :
 ∃ d,(Instr.sliceAt t c lo hi none).run P w = .ok d w ∧ RelV C g (.sl ty ((l.take b).drop a) (if b = l.length then p else .no)) d := by
 obtain ⟨_,h2⟩ := ok t
 rw [hk] at h2
 obtain ⟨hu,hw,hek,hpos,hbp,hu8⟩ := h2
 obtain ⟨z,hz⟩ := (ok e).known hek
 have hlen : ((l.take b).drop a).length = b - a := by rw [List.length_drop,List.length_take,Nat.min_eq_left hb]
 cases h with
 | sl0 hz0 =>
  have hb0 : b = 0 := by simpa using hb
  have ha0 : a = 0 := by omega
  subst hb0 ha0
  have := run_sliceBounds (P := P) (w := w) true (Nat.le_refl 0) hl hh (Nat.le_refl 0) (Nat.le_refl 0)
  refine ⟨.slice none 0 0,by simp [Instr.sliceAt,Instr.slice,run_underlying hu,this,run_size hz],?_⟩
  simpa using RelV.sl0 (C := C) (g := g) (t := ty) (p := p) hz0
 | sle hz0 =>
  rename_i ad
  have hb0 : b = 0 := by simpa using hb
  have ha0 : a = 0 := by omega
  subst hb0 ha0
  have := run_sliceBounds (P := P) (w := w) true (Nat.le_refl 0) hl hh (Nat.le_refl 0) (Nat.le_refl 0)
  refine ⟨.slice (some ad) 0 0,by simp [Instr.sliceAt,Instr.slice,run_underlying hu,this,run_size hz],?_⟩
  simpa using RelV.sle (C := C) (g := g) (t := ty) (p := p) hz0
 | sl hs hi' hle hp =>
  rename_i blk off cap vs
  have := run_sliceBounds (P := P) (w := w) true hle hl hh hab hb
  have hrel := cellsAll_drop hC ty (l.take b) a (by rw [List.length_take]; omega) (cellsAll_take hC ty l b hb hs)
  by_cases hca : cap = a
  · -- nothing is left,and the address stays
    subst hca
    have hbl : b = l.length := by omega
    refine ⟨.slice (some ⟨blk,off,none⟩) (b - cap) (cap - cap),by simp [Instr.sliceAt,Instr.slice,run_underlying hu,this,run_size hz],?_⟩
    have hnil : (l.take b).drop cap = [] := List.eq_nil_of_length_eq_zero (by omega)
    rw [hnil,if_pos hbl]
    have h4 := RelV.sl (C := C) (g := g) (t := ty) (l := []) (p := p) (blk := blk) (off := off) (cap := 0) (vs := []) .nil (fun j v hv => by cases hv) (Nat.le_refl 0) (by
     cases p with
     | no => trivial
     | nn => trivial
     | em => exact absurd rfl hne
     | nil => exact hp.elim
     | exact => exact ⟨rfl,.inl rfl⟩
     | tok i => exact .inr rfl)
    rw [show b - cap = 0 by omega,show cap - cap = 0 by omega]
    exact h4
  · refine ⟨.slice (some ⟨blk,off + a * (cx.TT e).size,none⟩) (b - a) (cap - a),by simp [Instr.sliceAt,Instr.slice,run_underlying hu,this,run_size hz,hca,addr_add],?_⟩
    have := RelV.sl (C := C) (g := g) (t := ty) (l := (l.take b).drop a) (p := if b = l.length then p else .no) (blk := blk) (off := off + a * width C ty) (cap := cap - a) hrel ((hi'.take (b * width C ty)).drop (a * width C ty)) (by omega) (by
     by_cases hbl : b = l.length
     · rw [if_pos hbl,hlen]
       have e1 : off + a * width C ty + (b - a) * width C ty = off + l.length * width C ty := by rw [Nat.add_assoc,← Nat.add_mul,hbl,show a + (l.length - a) = l.length by omega]
       have e2 : off + a * width C ty + (cap - a) * width C ty = off + cap * width C ty := by rw [Nat.add_assoc,← Nat.add_mul,show a + (cap - a) = cap by omega]
       rw [e1,e2]
       cases p with
       | no => trivial
       | nn => trivial
       | em => exact absurd rfl hne
       | nil => exact hp.elim
       | exact => have : cap = l.length := hp.1; exact ⟨by omega,hp.2.imp (fun q => by omega) id⟩
       | tok i => exact hp.imp id (fun q => by omega)
     · rw [if_neg hbl]; trivial)
    rw [hlen,hw] at this
    exact this
theorem tailP_ne (p : Perm) : tailP p ≠ .em := by cases p <;> (intro h; cases h)
theorem RelV.tailP {t : Ty} {l : List (t.den U)} {p : Perm} {c : Value} (h : RelV C g (.sl t l p) c) : RelV C g (.sl t l (Ev.tailP p)) c := by
 cases p <;> first | exact h | exact h.noPerm
theorem slice_sl (ok : ∀ t,TTOk C P cx.TT t) (hC : CodecOk2 C) {t e : TypeId} {ty : Ty} (hk : (cx.TT t).k = .sl e ty) {l : List (ty.den U)} {p : Perm} {c : Value} (h : RelV C g (.sl ty l p) c)
 {lo hi : Option Value} {a b : Nat} (hl : (lo = none ∧ a = 0) ∨ ∃ k n,lo = some (.int k n) ∧ 0 ≤ n ∧ a = n.toNat)
 (hh : (hi = none ∧ b = l.length) ∨ ∃ k n,hi = some (.int k n) ∧ 0 ≤ n ∧ b = n.toNat) (hab : a ≤ b) (hb : b ≤ l.length) :
 ∃ d,(Instr.sliceAt t c lo hi none).run P w = .ok d w ∧ RelV C g (.sl ty ((l.take b).drop a) (if b = l.length then Ev.tailP p else .no)) d :=
 slice_sl0 ok hC hk h.tailP hl hh hab hb (tailP_ne p)
end
end Go.Proofs.YtccfmfifnbnlmaaGreatDoor.Ev
end
section
/- Conversions, makes, composites, stores. -/
set_option linter.unusedVariables false
set_option linter.unusedSimpArgs false
namespace Go.Proofs.YtccfmfifnbnlmaaGreatDoor.Ev
open Go
section
variable {U : Nat → Type} {C : Codec U} {P : Program} {g g' : Gh} {w w' w0 : World} {R : Type} {S : Nat → Nat → Bool} {st : St U} {cx : Cx U R}
/-! ### bytes -/
theorem foldl_push (l : List Int) : ∀ b : ByteArray,l.foldl (fun r n => r.push (UInt8.ofNat n.toNat)) b = b ++ ofBytes l := by
 induction l with
 | nil =>
  intro b
  apply ByteArray.ext
  simp [ofBytes,ByteArray.data_append]
 | cons n r ih =>
  intro b
  rw [List.foldl_cons,ih]
  apply ByteArray.ext
  apply Array.ext'
  simp [ofBytes,ByteArray.push,ByteArray.data_append]
theorem cells_bytes : ∀ {l : List Int} {vs : List Value},RelVs C g (cellsAll C (.int .u8) l) vs → vs = l.map (Value.int .u8)
 | [],_,.nil => rfl
 | n :: r,_,.cons (.int _ _) hs => by rw [cells_bytes (l := r) hs]; rfl
theorem convert_bytes_str {src dst e : TypeId} (hs : P.underlying src = some (.slice e)) (hd : P.underlying dst = some .string) (he : P.underlying e = some (.int .u8)) (hH : HInv C S w0 st.box st.live g w)
 {l : List Int} {p : Perm} {c : Value} (h : RelV C g (.sl (.int .u8) l p) c) : (Go.convert src dst c).run P w = .ok (.string (ofBytes l)) w := by
 cases h with
 | sl0 => simp [Go.convert,run_underlying hs,run_underlying hd,run_underlying he,Conv.bytesToString,ofBytes]; rfl
 | sle hz0 =>
  rename_i ad
  have hload : (loadCells ad 0).run P w = .ok (([] : List Int).map (Value.int .u8)).toArray w := by simp [loadCells,loadCellsFrom]
  have := run_bytesToString (P := P) w ad 0 0 [] hload
  simp [Go.convert,run_underlying hs,run_underlying hd,run_underlying he,this,ofBytes]; rfl
 | sl hv hi hl hp =>
  rename_i blk off cap vs
  have hvs := cells_bytes hv
  have hload : (loadCells ⟨blk,off,none⟩ l.length).run P w = .ok (l.map (Value.int .u8)).toArray w := by
   have h1 := run_loadCells_at (P := P) (w := w) (blk := blk) (off := off) (vs := vs) fun j v hv => hH.imm _ _ _ (hi j v hv)
   rw [hvs,List.length_map] at h1
   exact h1
  have := run_bytesToString (P := P) w ⟨blk,off,none⟩ l.length cap l hload
  rw [foldl_push] at this
  simp [Go.convert,run_underlying hs,run_underlying hd,run_underlying he,this]
theorem frozen_bytes (w : World) (e : TypeId) (s : ByteArray) (o : Nat) (ho : o < (Lib.bytesCells w e s).size) : (Lib.bytesWorld w e s).frozen? ⟨w.heap.size,o,none⟩ = false := by
 unfold World.frozen?
 rw [Lib.bytesWorld_at_new]
 simp
 omega
/-- A string's bytes in a new row, with spare room. -/
theorem convert_str_bytes (hS : SRel C S w0 st g w) {src dst e : TypeId} (hs : P.underlying src = some .string) (hd : P.underlying dst = some (.slice e)) (he : P.underlying e = some (.int .u8)) (s : ByteArray) :
 ∃ c g' w',(Go.convert src dst (.string s)).run P w = .ok c w' ∧ Step C S w0 st (newTok st) g g' w' (.sl (.int .u8) (toBytes s) (.tok st.nt)) c := by
 have hr := Lib.run_convert_string_bytes (P := P) w src dst e s hs hd he
 have hlt : ∀ b o,w.heap.size ≤ b → g.own b o = .out := hS.h.fresh
 have hcs : (Lib.bytesCells w e s).size = grownCap w s.size 0 e := by
  have : s.size ≤ grownCap w s.size 0 e := by simp [grownCap,Question.cut]
  have h2 : s.data.size = s.size := rfl
  simp [Lib.bytesCells,h2]
  omega
 have hge : s.size ≤ grownCap w s.size 0 e := by simp [grownCap,Question.cut]
 have hnews : ∀ (j : Nat) (v : Value),(s.data.toList.map (fun b : UInt8 => Value.int .u8 (b.toNat : Int)))[j]? = some v → (Lib.bytesCells w e s)[j]? = some v := by
  intro j v hv
  have hj := (List.getElem?_eq_some_iff.1 hv).1
  have hj' : j < s.data.size := by simpa using hj
  unfold Lib.bytesCells
  rw [Array.getElem?_append_left (by simpa using hj')]
  simpa using hv
 obtain ⟨news,hsrc,hrel⟩ := src_str (C := C) (g := g) (P := P) (w := w) s
 have hlen : (s.data.toList.map (fun b : UInt8 => Value.int .u8 (b.toNat : Int))).length = s.size := by simp
 have hn2 : RelVs C g (cellsAll C (.int .u8) (toBytes s)) (s.data.toList.map (fun b : UInt8 => Value.int .u8 (b.toNat : Int))) := by
  have := cells_bytes hrel
  rw [this] at hrel
  unfold toBytes at hrel ⊢
  rw [List.map_map] at hrel
  exact hrel
 generalize hvs : s.data.toList.map (fun b : UInt8 => Value.int .u8 (b.toNat : Int)) = vs at hnews hlen hn2
 -- as a row made in one,but for the mark behind its end
 let f : Nat → Own := fun o => match vs[o]? with | some v => .imm v | none => if o < grownCap w s.size 0 e then .spare st.nt else .out
 let g' : Gh := ⟨fun b o => if b = w.heap.size then f o else g.own b o,g.β,fun i => if i = st.nt then some (some (w.heap.size,s.size,grownCap w s.size 0 e)) else g.τ i,g.lo⟩
 have hle : Le g g' := by
  refine ⟨fun b o v hv => ?_,fun b x hb => hb,fun i s h => ?_,fun b o v hv => by show (if b = w.heap.size then f o else g.own b o) = _; rw [if_neg (fun e => by rw [hlt b o (by omega)] at hv; cases hv)]; exact hv,rfl⟩
  · show (if b = w.heap.size then f o else g.own b o) = _
    rw [if_neg (fun e => by rw [hlt b o (by omega)] at hv; cases hv)]; exact hv
  · show (if i = st.nt then _ else _) = _
    rw [if_neg (fun e => by rw [hS.tt i (by omega)] at h; cases h)]; exact h
 have hcell : ∀ o,(Lib.bytesWorld w e s).cell? ⟨w.heap.size,o,none⟩ = (Lib.bytesCells w e s)[o]? := by
  intro o
  unfold World.cell?
  rw [Lib.bytesWorld_at_new]
  rfl
 have hold : ∀ b,b < w.heap.size → (Lib.bytesWorld w e s).heap[b]? = w.heap[b]? := fun b hb => Lib.bytesWorld_at_old w e s b hb
 have hhid : ∀ b o v,g'.own b o = .hid v → (Lib.bytesWorld w e s).cell? ⟨b,o,none⟩ = some v ∧ (Lib.bytesWorld w e s).frozen? ⟨b,o,none⟩ = false := by
  intro b o v hv
  have hv' : (if b = w.heap.size then f o else g.own b o) = .hid v := hv
  by_cases q : b = w.heap.size
  · rw [if_pos q] at hv'
    have hv2 : (match vs[o]? with | some v => Own.imm v | none => if o < grownCap w s.size 0 e then .spare st.nt else .out) = .hid v := hv'
    cases hx : vs[o]? with
    | none => rw [hx] at hv2; dsimp only at hv2; split at hv2 <;> cases hv2
    | some u => rw [hx] at hv2; cases hv2
  · rw [if_neg q] at hv'
    obtain ⟨hc,hf⟩ := hS.h.hid b o v hv'
    have hlt : b < w.heap.size := lt_of_cell (a := ⟨b,o,none⟩) (by rw [hc]; rfl)
    rw [World.cell?_of_block (w := w) (hold b hlt),World.frozen?_of_block (w := w) (hold b hlt)]
    exact ⟨hc,hf⟩
 have hfz : ∀ b o,(g'.own b o).rest = true → Fz (Lib.bytesWorld w e s) b := by
  intro b o hr2 c e2 lo hi q
  have hr' : Own.rest (if b = w.heap.size then f o else g.own b o) = true := hr2
  by_cases q1 : b = w.heap.size
  · subst q1
    rw [Lib.bytesWorld_at_new] at q
    simp only [Option.some.injEq,Obj.cells.injEq,Prod.mk.injEq] at q
    obtain ⟨rfl,_,rfl,_⟩ := q
    exact .inr (Nat.le_refl _)
  · rw [if_neg q1] at hr'
    have hb2 : b < w.heap.size := by
     rcases Nat.lt_or_ge b w.heap.size with h1 | h1
     · exact h1
     · rw [hS.h.fresh b o h1] at hr'; cases hr'
    rw [hold b hb2] at q
    exact hS.h.fz b o hr' c e2 lo hi q
 refine ⟨_,g',_,hr,⟨⟨⟨?_,?_,?_,?_,?_,hS.h.os,hS.h.tape,hS.h.output,?_,?_,?_,?_,hhid,hS.h.lo,hfz⟩,hS.tb,?_,?_,?_⟩,hle,?_,Same.newTok st⟩⟩
 · intro b o v hv
   have hv' : (if b = w.heap.size then f o else g.own b o) = .imm v := hv
   by_cases q : b = w.heap.size
   · rw [if_pos q] at hv'
     rw [q,hcell]
     have hv2 : (match vs[o]? with | some v => Own.imm v | none => if o < grownCap w s.size 0 e then .spare st.nt else .out) = .imm v := hv'
     cases hx : vs[o]? with
     | none => rw [hx] at hv2; dsimp only at hv2; split at hv2 <;> cases hv2
     | some u => rw [hx] at hv2; injection hv2 with hv2; subst hv2; exact hnews o u hx
   · rw [if_neg q] at hv'
     have hc := hS.h.imm b o v hv'
     rw [World.cell?_of_block (w := w) (hold b (lt_of_cell (a := ⟨b,o,none⟩) (by rw [hc]; rfl)))]
     exact hc
 · intro b c blk base hb hβ
   obtain ⟨us,hus,hj⟩ := hS.h.box b c blk base hb hβ
   refine ⟨us,RelVs.mono hle hus,fun j v hv => ?_⟩
   obtain ⟨h3,h4,h5⟩ := hj j v hv
   have hb2 : blk < w.heap.size := lt_of_cell (a := ⟨blk,base + j,none⟩) (by rw [h4]; rfl)
   refine ⟨?_,by rw [World.cell?_of_block (w := w) (hold blk hb2)]; exact h4,by rw [World.frozen?_of_block (w := w) (hold blk hb2)]; exact h5⟩
   show (if blk = w.heap.size then _ else _) = _
   rw [if_neg (by omega)]; exact h3
 · intro i hi blk e' c hτ o h1 h2
   have hτ' : (if i = st.nt then some (some (w.heap.size,s.size,grownCap w s.size 0 e)) else g.τ i) = some (some (blk,e',c)) := hτ
   by_cases q : i = st.nt
   · rw [if_pos q] at hτ'
     obtain ⟨rfl,rfl,rfl⟩ : w.heap.size = blk ∧ s.size = e' ∧ grownCap w s.size 0 e = c := by
      have := Option.some.inj (Option.some.inj hτ')
      exact ⟨(Prod.mk.inj this).1,(Prod.mk.inj (Prod.mk.inj this).2).1,(Prod.mk.inj (Prod.mk.inj this).2).2⟩
     refine ⟨?_,by rw [hcell]; simp; omega,frozen_bytes w e s o (by omega)⟩
     show (if w.heap.size = w.heap.size then f o else _) = _
     rw [if_pos rfl]
     show (match vs[o]? with | some v => Own.imm v | none => if o < grownCap w s.size 0 e then .spare st.nt else .out) = _
     rw [List.getElem?_eq_none (by omega)]
     dsimp only
     rw [if_pos h2,q]
   · rw [if_neg q] at hτ'
     obtain ⟨h5,h6,h7⟩ := hS.h.live i ((hasTok_cons.1 hi).resolve_left q) blk e' c hτ' o h1 h2
     have hb2 : blk < w.heap.size := lt_of_cell (a := ⟨blk,o,none⟩) h6
     refine ⟨?_,by rw [World.cell?_of_block (w := w) (hold blk hb2)]; exact h6,by rw [World.frozen?_of_block (w := w) (hold blk hb2)]; exact h7⟩
     show (if blk = w.heap.size then _ else _) = _
     rw [if_neg (by omega)]; exact h5
 · intro b o hb
   rw [Lib.bytesWorld_size] at hb
   show (if b = w.heap.size then f o else g.own b o) = _
   rw [if_neg (by omega)]
   exact hS.h.fresh b o (by omega)
 · rw [Lib.bytesWorld_size]; have := hS.h.size; omega
 · refine ⟨hS.h.old.no,hS.h.old.laid,?_⟩
   intro b hb
   rw [hold b (Nat.lt_of_lt_of_le hb hS.h.size)]
   exact hS.h.old.kept b hb
 · intro b o i hb hb2
   have := hS.h.size
   have hb' : (if b = w.heap.size then f o else g.own b o) = .box i := hb
   rw [if_neg (by omega)] at hb'
   exact hS.h.wbox b o i hb' hb2
 · intro b o i hb hb2
   have := hS.h.size
   have hb' : (if b = w.heap.size then f o else g.own b o) = .spare i := hb
   rw [if_neg (by omega)] at hb'
   exact hS.h.wspare b o i hb' hb2
 · intro b o v hb hSb hc
   exact hle.imm b o v (hS.h.snap b o v hb hSb hc)
 · intro i hi
   have hi' : st.nt + 1 ≤ i := hi
   show (if i = st.nt then _ else _) = _
   rw [if_neg (by omega)]
   exact hS.tt i (by omega)
 · refine ⟨?_,hS.uniq⟩
   cases e : hasTok st.nt st.live with
   | false => rfl
   | true => have := hS.lt _ e; omega
 · intro i hi
   rcases hasTok_cons.1 hi with h | h
   · subst h; exact Nat.lt_succ_self _
   · have := hS.lt i h
     show i < st.nt + 1
     omega
 · have := RelV.sl (C := C) (g := g') (t := .int .u8) (l := toBytes s) (p := .tok st.nt) (blk := w.heap.size) (off := 0) (cap := grownCap w s.size 0 e) (vs := vs) (RelVs.mono hle hn2)
    (fun j v hv => by
     show (if w.heap.size = w.heap.size then f (0 + j) else _) = _
     rw [if_pos rfl,Nat.zero_add]
     show (match vs[j]? with | some v => Own.imm v | none => if j < grownCap w s.size 0 e then .spare st.nt else .out) = _
     rw [hv]) (by rw [toBytes_length]; exact hge) (.inl (by
     show (if st.nt = st.nt then _ else _) = _
     rw [if_pos rfl,toBytes_length]
     simp [width]))
   rwa [toBytes_length] at this
/-! ### composites -/
theorem foldl_put (off : Nat) (l : List Value) : ∀ (k : Nat) (cs : Array Value),((l.zipIdx k).foldl (fun cs (x : Value × Nat) => cs.setIfInBounds (off + x.2) x.1) cs).toList = putAt cs.toList (off + k) l := by
 induction l with
 | nil => intro k cs; rfl
 | cons v r ih =>
  intro k cs
  rw [List.zipIdx_cons,List.foldl_cons,ih (k + 1),putAt]
  congr 1
  simp
inductive PRel (C : Codec U) (g : Gh) : List (Nat × AVal U) → List (Nat × Value) → Prop
 | nil : PRel C g [] []
 | cons {i : Nat} {v : AVal U} {c : Value} {ps : List (Nat × AVal U)} {qs : List (Nat × Value)} : RelV C g v c → PRel C g ps qs → PRel C g ((i,v) :: ps) ((i,c) :: qs)
theorem fill_rel {pl : Nat → Option (Nat × Nat)} {pl' : Nat → Option (Nat × Nat)} (hpl : ∀ i x,pl i = some x → pl' i = some x) :
 ∀ {ps : List (Nat × AVal U)} {qs : List (Nat × Value)} {cs : List (AVal U)} {vs : Array Value} {r : List (AVal U)},PRel C g ps qs → RelVs C g cs vs.toList → fill pl cs ps = some r →
  ∃ us,Instr.fill pl' vs qs = some us ∧ RelVs C g r us.toList ∧ r.length = cs.length := by
 intro ps
 induction ps with
 | nil =>
  intro qs cs vs r hp hc h
  cases hp
  obtain rfl := Option.some.inj h
  exact ⟨vs,rfl,hc,rfl⟩
 | cons p ps ih =>
  intro qs cs vs r hp hc h
  obtain ⟨i,v⟩ := p
  cases hp with
  | cons hv hps =>
   rename_i c qs
   unfold fill at h
   obtain ⟨⟨off,size⟩,h1,h⟩ := Option.bind_eq_some_iff.1 h
   obtain ⟨v',h2,h⟩ := Option.bind_eq_some_iff.1 h
   obtain ⟨l,h3,h⟩ := Option.bind_eq_some_iff.1 h
   dsimp only at h2 h
   have hv' : RelV C g v' c := by
    unfold coCell at h2
    split at h2
    · cases hv
      split at h2
      · obtain rfl := Option.some.inj h2; exact .sl0 rfl
      · cases h2
    · obtain rfl := Option.some.inj h2; exact hv
   obtain ⟨hrel,hok⟩ := cellsOf_rel hv' h3
   cases hb : (Nat.beq l.length size && Nat.ble (off + size) cs.length) with
   | false => rw [hb] at h; cases h
   | true =>
    rw [hb] at h
    simp only [Bool.and_eq_true] at hb
    have hl1 := Nat.eq_of_beq_eq_true hb.1
    have hl2 := Nat.le_of_ble_eq_true hb.2
    have hcl := RelVs.length hrel
    have hvl := RelVs.length hc
    have hput := RelVs.put (off := off) hc hrel
    have hfold := foldl_put off c.cells.toList 0 vs
    have hsz : c.cells.size = size := by rw [← Array.length_toList]; omega
    obtain ⟨us,h4,h5,h6⟩ := ih (cs := putAt cs off l) (vs := (c.cells.zipIdx.foldl (fun cs (c,j) => cs.setIfInBounds (off + j) c) vs)) hps (by
     have e2 : (c.cells.zipIdx.foldl (fun cs (x : Value × Nat) => cs.setIfInBounds (off + x.2) x.1) vs) = ((c.cells.toList.zipIdx 0).foldl (fun cs (x : Value × Nat) => cs.setIfInBounds (off + x.2) x.1) vs) := by
      rw [← Array.foldl_toList]; simp
     have e3 : (c.cells.zipIdx.foldl (fun cs (c,j) => cs.setIfInBounds (off + j) c) vs) = (c.cells.zipIdx.foldl (fun cs (x : Value × Nat) => cs.setIfInBounds (off + x.2) x.1) vs) := rfl
     rw [e3,e2,hfold]
     exact hput) h
    refine ⟨us,?_,h5,by rw [h6,putAt_length]⟩
    unfold Instr.fill
    rw [hpl i _ h1]
    dsimp only
    have hcond : (decide (c.cells.size ≠ size) || decide (off + c.cells.size > vs.size)) = false := by
     have : vs.size = vs.toList.length := by simp
     simp [hsz]
     omega
    rw [if_neg (by simpa using hcond)]
    exact h4
end
end Go.Proofs.YtccfmfifnbnlmaaGreatDoor.Ev
end
section
/- One operation: the evaluator's step and the machine's. -/
set_option linter.unusedVariables false
set_option linter.unusedSimpArgs false
namespace Go.Proofs.YtccfmfifnbnlmaaGreatDoor.Ev
open Go

section
variable {U : Nat → Type} {P : Program} {g g' : Gh} {w w' w0 : World} {R : Type} {S : Nat → Nat → Bool} {st : St U} {cx : Cx U R}

def EnvRel (C : Codec U) (g : Gh) (env : List (Nat × AVal U)) (tmps : Array Value) : Prop := ∀ d v, lookup d env = some v → RelV C g v (tmps.getD d undef)

theorem EnvRel.mono {C : Codec U} {env : List (Nat × AVal U)} {tmps : Array Value} (h : EnvRel C g env tmps) (hl : Le g g') : EnvRel C g' env tmps := fun d v hv => RelV.mono hl (h d v hv)

structure Ok (P : Program) (cx : Cx U R) : Prop where
  tt : ∀ t, TTOk cx.C P cx.TT t
  codec : CodecOk2 cx.C
  eqs : ∀ t ks, findE t cx.eqs = some ks → P.eqGuardType P.depth t = false ∧ ∀ (g : Gh) (w : World) xs ys as1 bs b, RelVs cx.C g xs as1 → RelVs cx.C g ys bs → eqCells ks xs ys = some b →
    (Op.equal t (.agg as1.toArray) (.agg bs.toArray)).run P w = .ok b w
  ft : ∀ f fn, cx.FT f = some fn → P.funcs[f]? = some fn ∧ (fn.name == "runtime.NumGoroutine") = false
  mixed : P.follows .mixedOrders = true

theorem ofConst_rel {C : Codec U} {v : Value} {x : AVal U} (h : ofConst v = some x) : RelV C g x v := by
  unfold ofConst at h
  split at h <;> first | (cases h; done) | (obtain rfl := Option.some.inj h; constructor)

theorem val_rel {C : Codec U} {a : Act} {x : Operand} {v : AVal U} (hE : EnvRel C g st.env a.tmps) (h : val st x = some v) : RelV C g v (a.eval x) := by
  cases x with
  | tmp t => exact hE t v h
  | const c => exact ofConst_rel h
  | global _ => cases h
  | func f => obtain rfl := Option.some.inj h; exact .fn .nil

theorem vals_rel {C : Codec U} {a : Act} (hE : EnvRel C g st.env a.tmps) : ∀ {xs : List Operand} {l : List (AVal U)}, vals st xs = some l → RelVs C g l (xs.map a.eval)
  | [], _, h => by obtain rfl := Option.some.inj h; exact .nil
  | x :: r, _, h => by
    unfold vals at h
    obtain ⟨v, h1, h⟩ := Option.bind_eq_some_iff.1 h
    obtain ⟨l, h2, h⟩ := Option.bind_eq_some_iff.1 h
    obtain rfl := Option.some.inj h
    exact .cons (val_rel hE h1) (vals_rel hE h2)

theorem partVals_rel {C : Codec U} {a : Act} (hE : EnvRel C g st.env a.tmps) : ∀ {xs : List (Nat × Operand)} {l : List (Nat × AVal U)}, partVals st xs = some l → PRel C g l (xs.map fun x => (x.1, a.eval x.2))
  | [], _, h => by obtain rfl := Option.some.inj h; exact .nil
  | (i, x) :: r, _, h => by
    unfold partVals at h
    obtain ⟨v, h1, h⟩ := Option.bind_eq_some_iff.1 h
    obtain ⟨l, h2, h⟩ := Option.bind_eq_some_iff.1 h
    obtain rfl := Option.some.inj h
    exact .cons (val_rel hE h1) (partVals_rel hE h2)

def Ran (P : Program) (a : Act) (o : Oper) (w : World) (c : Value) (w' : World) : Prop :=
  (execOp a.eval o).run P w = .ok (.value c) w' ∨ ((execOp a.eval o).run P w = .ok .skip w' ∧ c = undef)

theorem ran_of {a : Act} {o : Oper} {c : Value} {s : Sem Value} (h : s.run P w = .ok c w') (he : execOp a.eval o = (do pure (Next.value (← s)))) : Ran P a o w c w' := by
  refine .inl ?_
  rw [he]
  simp [h]

/-! ### composites and stores -/
theorem mapM_get {α β : Type} (f : α → Option β) : ∀ {l : List α} {ps : List β}, l.mapM f = some ps → ∀ (i : Nat) (x : α), l[i]? = some x → ∃ y, f x = some y ∧ ps[i]? = some y
  | [], ps, h, i, x, hx => by simp at hx
  | a :: r, ps, h, i, x, hx => by
    simp only [List.mapM_cons, Option.bind_eq_bind, Option.pure_def] at h
    obtain ⟨y, h1, h⟩ := Option.bind_eq_some_iff.1 h
    obtain ⟨ys, h2, h⟩ := Option.bind_eq_some_iff.1 h
    obtain rfl := Option.some.inj h
    cases i with
    | zero =>
      obtain rfl : a = x := by simpa using hx
      exact ⟨y, h1, rfl⟩
    | succ i => exact mapM_get f h2 i x (by simpa using hx)

theorem build_rel (ok : Ok P cx) {t : TypeId} {ps : List (Nat × AVal U)} {qs : Array (Nat × Value)} {cs : List (AVal U)} (hp : PRel cx.C g ps qs.toList) (h : fill (places cx t) (cx.TT t).zero ps = some cs) (hk : canBuild cx t = true) :
    ∃ c, (Instr.build t qs).run P w = .ok c w ∧ RelV cx.C g (.agg cs) c := by
  have hkn : (cx.TT t).k.known = true := by
    unfold canBuild at hk
    cases hkk : (cx.TT t).k <;> rw [hkk] at hk <;> first | rfl | cases hk
  obtain ⟨z, hz⟩ := (ok.tt t).known hkn
  have h2 := (ok.tt t).2
  have hz0 := hz.zero g
  obtain ⟨it, hit, _, _, hiz⟩ := hz.info
  cases hkk : (cx.TT t).k with
  | st fs =>
    rw [hkk] at h2
    obtain ⟨F, hu, hF, hpl⟩ := h2
    obtain ⟨places', hpl⟩ := Option.isSome_iff_exists.1 hpl
    obtain ⟨us, h3, h4, _⟩ := fill_rel (C := cx.C) (g := g) (pl := places cx t) (pl' := fun i => places'.toArray[i]?) (fun i x hx => by
      unfold places at hx
      rw [hkk] at hx
      dsimp only at hx
      obtain ⟨f, h5, hx⟩ := Option.bind_eq_some_iff.1 hx
      obtain ⟨fld, h6, h7, h8⟩ := field_get hF h5
      cases hkn : (cx.TT f.2).k.known with
      | false => rw [hkn] at hx; cases hx
      | true =>
        rw [hkn] at hx
        obtain rfl := Option.some.inj hx
        obtain ⟨y, h9, h10⟩ := mapM_get _ hpl i fld (by simpa using h6)
        obtain ⟨zz, hzz⟩ := (ok.tt f.2).known hkn
        obtain ⟨inf, i1, i2, _, _⟩ := hzz.info
        rw [h8, i1] at h9
        obtain rfl := Option.some.inj h9
        simp [h10, h7, i2]) hp hz0 h
    refine ⟨.agg us, run_build w t qs us ?_, .agg (by simpa using h4)⟩
    unfold Program.built
    simp only [hit, hu, hiz, hpl]
    exact h3
  | arr n e ty =>
    rw [hkk] at h2
    have hu : P.underlying t = some (.array n e) := h2.1
    have hx0 : ∀ i x, places cx t i = some x → (cx.TT e).k.known = true ∧ x = (i * (cx.TT e).size, (cx.TT e).size) := fun i x hx => by
      unfold places at hx
      rw [hkk] at hx
      dsimp only at hx
      cases hkn : (cx.TT e).k.known with
      | false => rw [hkn] at hx; cases hx
      | true => rw [hkn] at hx; exact ⟨rfl, (Option.some.inj hx).symm⟩
    cases hke : (cx.TT e).k.known with
    | true =>
      obtain ⟨ze, hze⟩ := (ok.tt e).known hke
      obtain ⟨ie, i1, i2, _, _⟩ := hze.info
      obtain ⟨us, h3, h4, _⟩ := fill_rel (C := cx.C) (g := g) (pl := places cx t) (pl' := fun i => some (i * ie.size, ie.size)) (fun i x hx => by rw [(hx0 i x hx).2, i2]) hp hz0 h
      refine ⟨.agg us, run_build w t qs us ?_, .agg (by simpa using h4)⟩
      unfold Program.built
      simp only [hit, hu, hiz, i1]
      exact h3
    | false => unfold canBuild at hk; rw [hkk] at hk; dsimp only at hk; rw [hke] at hk; cases hk
  | _ => unfold canBuild at hk; rw [hkk] at hk; cases hk

theorem reps_rel {C : Codec U} {z : List (AVal U)} {zs : List Value} (hz : RelVs C g z zs) : ∀ n, RelVs C g (reps z n) ((List.replicate n zs).flatten)
  | 0 => .nil
  | n + 1 => by rw [reps, List.replicate_succ, List.flatten_cons]; exact RelVs.append hz (reps_rel hz n)

theorem zeros_eq (z : Array Value) (n : Nat) (hz : 0 < z.size) : ((Array.range (n * z.size)).map (z[· % z.size]!)).toList = (List.replicate n z.toList).flatten := by
  induction n with
  | zero => simp
  | succ n ih =>
    rw [List.replicate_succ', List.flatten_append, ← ih]
    apply List.ext_getElem?
    intro i
    simp only [Array.toList_map, Array.toList_range, List.getElem?_map]
    rw [List.getElem?_append]
    simp only [List.length_map, List.length_range, List.flatten_cons, List.flatten_nil, List.append_nil]
    by_cases h : i < n * z.size
    · have h2 : i < (n + 1) * z.size := by rw [Nat.add_mul]; omega
      rw [if_pos h, List.getElem?_range h2, List.getElem?_map, List.getElem?_range h]
    · rw [if_neg h]
      by_cases h2 : i < (n + 1) * z.size
      · rw [List.getElem?_range h2]
        have h3 : i - n * z.size < z.size := by rw [Nat.add_mul] at h2; omega
        have h4 : i % z.size = i - n * z.size := by
          have : i = (i - n * z.size) + n * z.size := by omega
          conv => lhs; rw [this]
          rw [Nat.add_mul_mod_self_right, Nat.mod_eq_of_lt h3]
        simp [h4, h3]
      · rw [List.getElem?_eq_none (by simpa using h2), List.getElem?_eq_none]
        · rfl
        · rw [Nat.add_mul] at h2; simp; omega

theorem buildSlice_rel (ok : Ok P cx) (hS : SRel cx.C S w0 st g w) {t e : TypeId} {ty : Ty} (hk : (cx.TT t).k = .sl e ty) {len : Nat} {ps : List (Nat × AVal U)} {qs : Array (Nat × Value)} {cs : List (AVal U)} {l : List (ty.den U)}
    (hp : PRel cx.C g ps qs.toList) (h : fill (fun i => some (i * (cx.TT e).size, (cx.TT e).size)) (reps (cx.TT e).zero len) ps = some cs) (hl : unflatAll cx.C ty len cs = some l) (hlen : len ≤ 1000) (hbig : len * (cx.TT e).size ≤ 16777216) :
    ∃ c g' w', (Instr.buildSlice t len qs).run P w = .ok c w' ∧ Step cx.C S w0 st st g g' w' (.sl ty l .exact) c := by
  have h2 := (ok.tt t).2
  rw [hk] at h2
  obtain ⟨hu, hw, hke, hpos, hbp, hu8⟩ := h2
  obtain ⟨z, hz⟩ := (ok.tt e).known hke
  have hz0 := hz.zero g
  have hzl : z.cells.size = (cx.TT e).size := by have := RelVs.length hz0; rw [Array.length_toList] at this; rw [this]; exact hz.len
  have hzs := zeros_eq z.cells len (by omega)
  rw [hzl] at hzs
  obtain ⟨us, h3, h4, h5⟩ := fill_rel (C := cx.C) (g := g) (pl' := fun i => some (i * (cx.TT e).size, (cx.TT e).size)) (fun i x hx => hx) (vs := (Array.range (len * (cx.TT e).size)).map (z.cells[· % z.cells.size]!)) hp (by
    rw [hzl, hzs]; exact reps_rel hz0 len) h
  obtain ⟨hl1, a, b, hab, hr⟩ := unflatAll_ok ok.codec.toCodecOk ty len cs l hl g us.toList h4
  have hal := RelVs.length hr
  rw [cellsAll_length ok.codec.toCodecOk, hl1, hw] at hal
  have hcl : us.toList.length = len * (cx.TT e).size := by
    rw [RelVs.length h4, h5]
    have := RelVs.length (reps_rel (C := cx.C) (g := g) hz0 len)
    rw [← this, ← hzs]
    simp
  have hb : b = [] := List.eq_nil_of_length_eq_zero (by have := congrArg List.length hab; rw [List.length_append] at this; omega)
  rw [hb, List.append_nil] at hab
  have hrun : (Instr.buildSlice t len qs).run P w = .ok (.slice (some ⟨w.heap.size, 0, none⟩) len len) (w.alloc (.cells us e)) := by
    have hn : ¬ (len * (cx.TT e).size > 2 ^ 24) := by omega
    by_cases h0 : len * (cx.TT e).size = 0
    · have hl0 : len = 0 := by
        rcases Nat.mul_eq_zero.1 h0 with q | q
        · exact q
        · omega
      subst hl0
      have e0 : ∀ f : Nat → Value, (Array.range 0).map f = #[] := fun f => by apply Array.ext'; simp
      simp only [Nat.zero_mul, e0] at h3
      simp [Instr.buildSlice, run_underlying hu, run_size hz, run_zero hz, newRow, e0, h3]
    · rw [hzl] at h3
      simp [Instr.buildSlice, run_underlying hu, run_size hz, run_zero hz, newRow, h0, hn, hzl, h3]
  obtain ⟨g', s1, s2, s3⟩ := hS.row us.toList #[] e
  have hrow : (us.toList.toArray ++ #[] : Array Value) = us := by simp
  rw [hrow] at s1
  refine ⟨_, g', _, hrun, ⟨s1, s2, ?_, Same.refl st⟩⟩
  have := RelV.sl (C := cx.C) (g := g') (t := ty) (l := l) (p := .exact) (blk := w.heap.size) (off := 0) (cap := len) (vs := us.toList) (by rw [hab]; exact RelVs.mono s2 hr) s3 (by omega) ⟨by omega, .inr fun b e => by cases e; show g'.lo ≤ w.heap.size; rw [s2.lo, hS.h.lo]; exact hS.h.size⟩
  rwa [hl1] at this

theorem store_rel (ok : Ok P cx) (hS : SRel cx.C S w0 st g w) {t : TypeId} {b off : Nat} {p c : Value} {v : AVal U} {cs l : List (AVal U)} (hp : RelV cx.C g (.ptr b off) p) (hv : RelV cx.C g v c) (hb : nth st.box b = some cs) (hl : cellsOf v = some l)
    (hc : (Nat.beq l.length (cx.TT t).size && Nat.ble (off + l.length) cs.length && (cx.TT t).k.known) = true) :
    ∃ w', (Instr.storeAt t p c).run P w = .ok () w' ∧ SRel cx.C S w0 { st with box := st.box.set b (putAt cs off l) } g w' := by
  simp only [Bool.and_eq_true] at hc
  have h1 := Nat.eq_of_beq_eq_true hc.1.1
  have h2 := Nat.le_of_ble_eq_true hc.1.2
  obtain ⟨z, hz⟩ := (ok.tt t).known hc.2
  obtain ⟨hr, hok⟩ := cellsOf_rel hv hl
  cases hp with
  | ptr hβ =>
    rename_i blk base
    obtain ⟨h3, h4⟩ := hS.h.store hb hβ hr h2
    have hrun := run_storeCells_cells (P := P) blk (base + off) c.cells.toList 0 w (fun j hj => by simpa using (h4 j hj).1) (fun j hj => by simpa using (h4 j hj).2) (okCells_one hr hok)
    have hcs : c.cells.size = (cx.TT t).size := by have := RelVs.length hr; rw [Array.length_toList] at this; omega
    refine ⟨_, ?_, ⟨h3, ?_, hS.tt, hS.uniq, hS.lt⟩⟩
    · simp only [Nat.add_zero] at hrun
      simp [Instr.storeAt, Instr.sureAddr, storeVar, run_size hz, hcs, hrun]
    · intro b'
      rw [List.length_set]
      exact hS.tb b'
end
end Go.Proofs.YtccfmfifnbnlmaaGreatDoor.Ev
end
section
/- One operation: the evaluator's step and the machine's, for all that are no calls of functions. -/
set_option linter.unusedVariables false
set_option linter.unusedSimpArgs false
namespace Go.Proofs.YtccfmfifnbnlmaaGreatDoor.Ev
open Go
section
variable {U : Nat → Type} {P : Program} {g g' : Gh} {w w' w0 : World} {R : Type} {S : Nat → Nat → Bool} {st : St U} {cx : Cx U R}
theorem eqGuard_plain {op : Go.BinOp} {t : TypeId} {x y : Operand} {a b : Value} (h : ∀ as1,a ≠ .agg as1) (h2 : a ≠ .nilIface ∨ b ≠ .nilIface ∨ (Ev.isConst x || Ev.isConst y) = true) : (eqGuard op t x y a b).run P w = .ok () w := by
 cases op <;> first | rfl | skip
 all_goals
  cases a <;> cases b <;> first | rfl | (exact absurd rfl (h _)) | skip
  rcases h2 with q | q | q
  · exact absurd rfl q
  · exact absurd rfl q
  · cases x <;> cases y <;> first | (cases q; done) | rfl
theorem eqGuard_agg {op : Go.BinOp} {t : TypeId} {x y : Operand} {as1 bs : Array Value} (h : P.eqGuardType P.depth t = false) : (eqGuard op t x y (.agg as1) (.agg bs)).run P w = .ok () w := by
 cases op <;> first | rfl | skip
 all_goals simp [eqGuard,program,Sem.run,h]
theorem eqv_of {op : Go.BinOp} {t : TypeId} {c d : Value} {b : Bool} (h : (Op.equal t c d).run P w = .ok b w) (h1 : Go.binOp .eql t c d = (do pure (.bool (← Op.equal t c d)))) (h2 : Go.binOp .neq t c d = (do pure (.bool (!(← Op.equal t c d))))) :
 (Go.binOp .eql t c d).run P w = .ok (.bool b) w ∧ (Go.binOp .neq t c d).run P w = .ok (.bool (!b)) w := by
 rw [h1,h2]
 constructor <;> simp [h]
theorem equal_step (t : TypeId) (c d : Value) : Op.equal t c d = Op.equalIn (9999 + 1) t c d := rfl
theorem eq_bool {t : TypeId} (hu : P.underlying t = some .bool) (a b : Bool) : (Op.equal t (.bool a) (.bool b)).run P w = .ok (a == b) w := by
 rw [equal_step,Op.equalIn]; simp [run_underlying hu]
theorem eq_ptr {t e : TypeId} (hu : P.underlying t = some (.pointer e)) {x y : Option Addr} (h : x = none ∨ y = none) : (Op.equal t (.pointer x) (.pointer y)).run P w = .ok (x.isNone && y.isNone) w := by
 rw [equal_step,Op.equalIn]
 rcases h with rfl | rfl
 · simp [run_underlying hu]
 · cases x <;> simp [run_underlying hu]
theorem eq_nili {t : TypeId} {ms : Array (String × TypeId)} (hu : P.underlying t = some (.interface ms)) : (Op.equal t .nilIface .nilIface).run P w = .ok true w := by
 rw [equal_step,Op.equalIn]; simp [run_underlying hu]
theorem eq_nili_l {t u : TypeId} {v : Value} {ms : Array (String × TypeId)} (hu : P.underlying t = some (.interface ms)) : (Op.equal t .nilIface (.iface u v)).run P w = .ok false w := by
 rw [equal_step,Op.equalIn]; simp [run_underlying hu]
theorem eq_nili_r {t u : TypeId} {v : Value} {ms : Array (String × TypeId)} (hu : P.underlying t = some (.interface ms)) : (Op.equal t (.iface u v) .nilIface).run P w = .ok false w := by
 rw [equal_step,Op.equalIn]; simp [run_underlying hu]
theorem eq_sl {t e : TypeId} (hu : P.underlying t = some (.slice e)) (x : Option Addr) (n c : Nat) : (Op.equal t (.slice x n c) (.slice none 0 0)).run P w = .ok x.isNone w := by
 rw [equal_step,Op.equalIn]
 cases x <;> simp [run_underlying hu]
theorem binEq_rel (ok : Ok P cx) {t : TypeId} {x y : Operand} {a b : AVal U} {c d : Value} {e : Bool} (ha : RelV cx.C g a c) (hb : RelV cx.C g b d) (h : binEq cx t (Ev.isConst x || Ev.isConst y) a b = some e) :
 (∀ op,(eqGuard op t x y c d).run P w = .ok () w) ∧ (Go.binOp .eql t c d).run P w = .ok (.bool e) w ∧ (Go.binOp .neq t c d).run P w = .ok (.bool (!e)) w := by
 have h2 := (ok.tt t).2
 unfold binEq at h
 split at h
 · cases ha; cases hb
   rename_i p q
   refine ⟨fun op => eqGuard_plain (fun _ => by simp) (.inl (by simp)),?_⟩
   cases hk : (cx.TT t).k <;> rw [hk] at h <;> try (cases h; done)
   rw [hk] at h2
   obtain rfl := Option.some.inj h
   exact eqv_of (op := .eql) (eq_bool h2 p q) rfl rfl
 · cases ha; cases hb
   rename_i as1 hs bs hs'
   obtain ⟨ks,hm,h⟩ := Option.bind_eq_some_iff.1 h
   · obtain ⟨h3,h4⟩ := ok.eqs t ks hm
     exact ⟨fun op => eqGuard_agg h3,eqv_of (op := .eql) (h4 g w _ _ _ _ _ hs hs' h) rfl rfl⟩
 · cases hk : (cx.TT t).k <;> rw [hk] at h h2 <;> try (cases h; done)
   case ptr e' =>
    have hu : P.underlying t = some (.pointer e') := h2
    dsimp only at h
    unfold nilPtr at h
    split at h <;> first | (cases h; done) | (cases ha; cases hb; obtain rfl := Option.some.inj h)
    · exact ⟨fun op => eqGuard_plain (fun _ => by simp) (.inl (by simp)),eqv_of (op := .eql) (eq_ptr hu (.inl rfl)) rfl rfl⟩
    · exact ⟨fun op => eqGuard_plain (fun _ => by simp) (.inl (by simp)),eqv_of (op := .eql) (eq_ptr hu (.inl rfl)) rfl rfl⟩
    · exact ⟨fun op => eqGuard_plain (fun _ => by simp) (.inl (by simp)),eqv_of (op := .eql) (eq_ptr hu (.inr rfl)) rfl rfl⟩
    · exact ⟨fun op => eqGuard_plain (fun _ => by simp) (.inl (by simp)),eqv_of (op := .eql) (eq_ptr hu (.inl rfl)) rfl rfl⟩
    · exact ⟨fun op => eqGuard_plain (fun _ => by simp) (.inl (by simp)),eqv_of (op := .eql) (eq_ptr hu (.inr rfl)) rfl rfl⟩
   case ifc =>
    obtain ⟨ms,hu⟩ := h2
    dsimp only at h
    unfold nilIfc at h
    split at h
    · cases ha; cases hb
      cases hc : (Ev.isConst x || Ev.isConst y) with
      | false => rw [hc] at h; cases h
      | true =>
       rw [hc] at h
       obtain rfl := Option.some.inj h
       exact ⟨fun op => eqGuard_plain (fun _ => by simp) (.inr (.inr hc)),eqv_of (op := .eql) (eq_nili hu) rfl rfl⟩
    · cases ha; cases hb
      obtain rfl := Option.some.inj h
      exact ⟨fun op => eqGuard_plain (fun _ => by simp) (.inr (.inl (by simp))),eqv_of (op := .eql) (eq_nili_l hu) rfl rfl⟩
    · cases ha; cases hb
      obtain rfl := Option.some.inj h
      exact ⟨fun op => eqGuard_plain (fun _ => by simp) (.inl (by simp)),eqv_of (op := .eql) (eq_nili_r hu) rfl rfl⟩
    · cases h
   case sl e' ty =>
    have hu : P.underlying t = some (.slice e') := h2.1
    dsimp only at h
    unfold nilSlV at h
    split at h
    · rename_i ty0 l p _ _
      cases hb
      unfold nilSl at h
      split at h
      · obtain rfl := Option.some.inj h
        cases ha with
        | sle hz => cases hz
        | sl0 hz => exact ⟨fun op => eqGuard_plain (fun _ => by simp) (.inl (by simp)),eqv_of (op := .eql) (eq_sl hu _ _ _) rfl rfl⟩
        | sl hs hi hl hp =>
         have hl0 : l.isEmpty = false := by
          cases l with
          | nil => exact absurd hp (Nat.lt_irrefl 0)
          | cons _ _ => rfl
         rw [hl0]
         exact ⟨fun op => eqGuard_plain (fun _ => by simp) (.inl (by simp)),eqv_of (op := .eql) (eq_sl hu _ _ _) rfl rfl⟩
      · obtain rfl := Option.some.inj h
        cases ha with
        | sle hz => cases hz
        | sl0 hz => exact ⟨fun op => eqGuard_plain (fun _ => by simp) (.inl (by simp)),eqv_of (op := .eql) (eq_sl hu _ _ _) rfl rfl⟩
        | sl hs hi hl hp => exact hp.elim
      · obtain rfl := Option.some.inj h
        cases ha with
        | sl0 hz => cases hz
        | sle hz => exact ⟨fun op => eqGuard_plain (fun _ => by simp) (.inl (by simp)),eqv_of (op := .eql) (eq_sl hu _ _ _) rfl rfl⟩
        | sl hs hi hl hp => exact ⟨fun op => eqGuard_plain (fun _ => by simp) (.inl (by simp)),eqv_of (op := .eql) (eq_sl hu _ _ _) rfl rfl⟩
      · split at h
        · obtain rfl := Option.some.inj h
          cases ha with
          | sl hs hi hl hp => exact ⟨fun op => eqGuard_plain (fun _ => by simp) (.inl (by simp)),eqv_of (op := .eql) (eq_sl hu _ _ _) rfl rfl⟩
        · cases h
    · cases h
theorem binOp_rel (ok : Ok P cx) {op : Go.BinOp} {t : TypeId} {x y : Operand} {a b : AVal U} {c d : Value} {K : AVal U → Option R} {r : R} (ha : RelV cx.C g a c) (hb : RelV cx.C g b d)
 (h : binOp cx op t (Ev.isConst x || Ev.isConst y) a b K = some r) :
 ∃ v e,K v = some r ∧ (do eqGuard op t x y c d; Go.binOp op t c d : Sem Value).run P w = .ok e w ∧ RelV cx.C g v e := by
 have plain : ∀ {e : Value},(∀ as1,c ≠ .agg as1) → (c ≠ .nilIface ∨ d ≠ .nilIface ∨ (Ev.isConst x || Ev.isConst y) = true) → (Go.binOp op t c d).run P w = .ok e w → (do eqGuard op t x y c d; Go.binOp op t c d : Sem Value).run P w = .ok e w := by
  intro e h1 h2 h3
  simp only [Sem.run_bind,eqGuard_plain h1 h2,Result.andThen]
  exact h3
 unfold binOp at h
 split at h
 · cases ha; cases hb
   obtain ⟨v,e,h1,h2,h3⟩ := shift_rel (C := cx.C) (g := g) (P := P) (w := w) (t := t) (.inl rfl) h
   exact ⟨v,e,h1,plain (fun _ => by simp) (.inl (by simp)) h2,h3⟩
 · cases ha; cases hb
   obtain ⟨v,e,h1,h2,h3⟩ := shift_rel (C := cx.C) (g := g) (P := P) (w := w) (t := t) (.inr rfl) h
   exact ⟨v,e,h1,plain (fun _ => by simp) (.inl (by simp)) h2,h3⟩
 · cases ha; cases hb
   rename_i k x' k' y' _ _
   by_cases e : k = k'
   · subst e
     rw [if_pos rfl] at h
     obtain ⟨v,e,h1,h2,h3⟩ := binInt_rel (C := cx.C) (g := g) (P := P) (w := w) (t := t) h
     exact ⟨v,e,h1,plain (fun _ => by simp) (.inl (by simp)) h2,h3⟩
   · rw [if_neg e] at h; cases h
 · cases ha; cases hb
   obtain ⟨v,e,h1,h2,h3⟩ := binStr_rel (C := cx.C) (g := g) (P := P) (w := w) (t := t) h
   exact ⟨v,e,h1,plain (fun _ => by simp) (.inl (by simp)) h2,h3⟩
 · obtain ⟨e,h1,h2⟩ := Option.bind_eq_some_iff.1 h
   obtain ⟨h3,h4,h5⟩ := binEq_rel (w := w) ok ha hb h1
   exact ⟨_,_,h2,by simp only [Sem.run_bind,h3,Result.andThen]; exact h4,.bool _⟩
 · obtain ⟨e,h1,h2⟩ := Option.bind_eq_some_iff.1 h
   obtain ⟨h3,h4,h5⟩ := binEq_rel (w := w) ok ha hb h1
   exact ⟨_,_,h2,by simp only [Sem.run_bind,h3,Result.andThen]; exact h5,.bool _⟩
 · cases h
end
end Go.Proofs.YtccfmfifnbnlmaaGreatDoor.Ev
end
section
/- One operation: the evaluator's step and the machine's, for all that are no calls of functions. -/
set_option linter.unusedVariables false
set_option linter.unusedSimpArgs false
namespace Go.Proofs.YtccfmfifnbnlmaaGreatDoor.Ev
open Go
section
variable {U : Nat → Type} {P : Program} {g g' : Gh} {w w' w0 : World} {R : Type} {S : Nat → Nat → Bool} {st : St U} {cx : Cx U R}
theorem makeSlice_rel (ok : Ok P cx) (hS : SRel cx.C S w0 st g w) {t : TypeId} {a b : AVal U} {c d : Value} (ha : RelV cx.C g a c) (hb : RelV cx.C g b d) {K : AVal U → St U → Option R} {r : R} (h : makeSlice cx t a b st K = some r) :
 ∃ v st' e g' w',K v st' = some r ∧ (Instr.makeSlice t c d).run P w = .ok e w' ∧ Step cx.C S w0 st st' g g' w' v e := by
 unfold makeSlice at h
 have h2 := (ok.tt t).2
 split at h
 · rename_i elem ty k n k' m hk
   rw [hk] at h2
   obtain ⟨hu,hw,hke,hpos,hbp,hu8⟩ := h2
   obtain ⟨z,hz⟩ := (ok.tt elem).known hke
   cases ha; cases hb
   by_cases e0 : 0 ≤ n
   case neg => rw [if_neg e0] at h; cases h
   rw [if_pos e0] at h
   by_cases e1 : n ≤ m
   case neg => rw [if_neg e1] at h; cases h
   rw [if_pos e1] at h
   by_cases e2 : m * ((cx.TT elem).bytes : Int) ≤ (most : Int) ∧ m ≤ 9223372036854775807
   case neg => rw [if_neg e2] at h; cases h
   rw [if_pos e2] at h
   obtain ⟨zd,hzd,h⟩ := Option.bind_eq_some_iff.1 h
   obtain ⟨e2,e3⟩ := e2
   unfold most at e2
   obtain ⟨inf,hinf,i1,i2,i3⟩ := hz.info
   have hz0 := hz.zero g
   have hzl : z.cells.size = (cx.TT elem).size := by have := RelVs.length hz0; rw [Array.length_toList] at this; rw [this]; exact hz.len
   obtain ⟨x1,x2,hx,hfl,_⟩ := unflat_ok ok.codec.toCodecOk ty (cx.TT elem).zero zd.1 zd.2 hzd g z.cells.toList hz0
   have hx1 := RelVs.length hfl
   rw [flat_width ok.codec.toCodecOk,hw] at hx1
   have hx2 : x2 = [] := List.eq_nil_of_length_eq_zero (by have := congrArg List.length hx; rw [List.length_append,Array.length_toList] at this; omega)
   rw [hx2,List.append_nil] at hx
   have hall : ∀ k : Nat,RelVs cx.C g (cellsAll cx.C ty (List.replicate k zd.1)) ((List.replicate k z.cells.toList).flatten) := by
    intro k
    induction k with
    | zero => exact .nil
    | succ k ih =>
     rw [List.replicate_succ,List.replicate_succ,List.flatten_cons]
     unfold cellsAll at ih ⊢
     rw [List.flatMap_cons]
     refine RelVs.append ?_ ih
     rw [hx]; exact hfl
   have hnm : n.toNat + (m.toNat - n.toNat) = m.toNat := by omega
   have hcells : ((Array.range (m.toNat * (cx.TT elem).size)).map (z.cells[· % z.cells.size]!)) = ((List.replicate n.toNat z.cells.toList).flatten).toArray ++ ((List.replicate (m.toNat - n.toNat) z.cells.toList).flatten).toArray := by
    have := zeros_eq z.cells m.toNat (by omega)
    rw [hzl] at this
    apply Array.ext'
    rw [hzl,this]
    simp only [Array.toList_append,List.toList_toArray]
    rw [← List.flatten_append,List.replicate_append_replicate,hnm]
   have hrun := run_make (P := P) w t elem inf z hu hinf i3 k k' n m e0 e1 (by rw [i2,Int.mul_comm]; omega) e3
   have hmade : madeCells z.cells (m.toNat * inf.size) = ((List.replicate n.toNat z.cells.toList).flatten).toArray ++ ((List.replicate (m.toNat - n.toNat) z.cells.toList).flatten).toArray := by
    rw [i1]; exact hcells
   rw [hmade] at hrun
   obtain ⟨g',s1,s2,s3,s4⟩ := hS.rowTok ((List.replicate n.toNat z.cells.toList).flatten) ((List.replicate (m.toNat - n.toNat) z.cells.toList).flatten).toArray elem
   refine ⟨_,_,_,g',_,h,hrun,⟨s1,s2,?_,Same.newTok st⟩⟩
   have hlen : ∀ k : Nat,((List.replicate k z.cells.toList).flatten).length = k * (cx.TT elem).size := by
    intro k
    have := RelVs.length (hall k)
    rw [this,cellsAll_length ok.codec.toCodecOk,List.length_replicate,hw]
   have e5 : (((List.replicate (m.toNat - n.toNat) z.cells.toList).flatten).toArray).size = (m.toNat - n.toNat) * (cx.TT elem).size := by rw [List.size_toArray,hlen]
   have := RelV.sl (C := cx.C) (g := g') (t := ty) (l := List.replicate n.toNat zd.1) (p := .tok st.nt) (blk := w.heap.size) (off := 0) (cap := m.toNat) (RelVs.mono s2 (hall n.toNat)) s3 (by rw [List.length_replicate]; omega) (.inl (by
    rw [s4,hlen,List.length_replicate,hw,Nat.zero_add,Nat.zero_add,e5,← Nat.add_mul,hnm]))
   rwa [List.length_replicate] at this
 · cases h
theorem bind2 {α β : Type} {x : Option α} {f : α → Option β} {r : β} (h : x.bind f = some r) : ∃ a,x = some a ∧ f a = some r := Option.bind_eq_some_iff.1 h
/-- The mark behind a new row's end. -/
theorem HInv.mark {C : Codec U} {bx : List (List (AVal U))} {live : List Nat} (h : HInv C S w0 bx live g w) {blk : Nat} (hb : w0.heap.size ≤ blk) {c : Array Value} {e : TypeId} {f : Nat × Nat} (hc : w.heap[blk]? = some (.cells c e f)) :
 HInv C S w0 bx live g (w.freeze ⟨blk,c.size,none⟩ 1) := by
 obtain ⟨lo,hi⟩ := f
 have hw : (w.freeze ⟨blk,c.size,none⟩ 1).heap = w.heap.modify blk fun
  | .cells c' elem (lo,hi) => .cells c' elem (if lo == hi then (c.size,c.size + 1) else (min lo c.size,max hi (c.size + 1)))
  | o => o := rfl
 have hat : (w.freeze ⟨blk,c.size,none⟩ 1).heap[blk]? = some (.cells c e (if lo == hi then (c.size,c.size + 1) else (min lo c.size,max hi (c.size + 1)))) := by
  rw [hw,Array.getElem?_modify,if_pos rfl,hc]; rfl
 have hne : ∀ b,b ≠ blk → (w.freeze ⟨blk,c.size,none⟩ 1).heap[b]? = w.heap[b]? := by
  intro b hb
  rw [hw,Array.getElem?_modify,if_neg (fun q => hb q.symm)]
 have hcell : ∀ b o,(w.freeze ⟨blk,c.size,none⟩ 1).cell? ⟨b,o,none⟩ = w.cell? ⟨b,o,none⟩ := by
  intro b o
  by_cases q : b = blk
  · subst q
    simp only [World.cell?,hat,hc]
  · simp only [World.cell?,hne b q]
 have hsz : (w.freeze ⟨blk,c.size,none⟩ 1).heap.size = w.heap.size := by rw [hw,Array.size_modify]
 have hfr : ∀ b o,(g.own b o).rest = true → (w.cell? ⟨b,o,none⟩).isSome = true → w.frozen? ⟨b,o,none⟩ = false → (w.freeze ⟨blk,c.size,none⟩ 1).frozen? ⟨b,o,none⟩ = false := by
  intro b o hr h1 h2
  by_cases q : b = blk
  · subst q
    have ho : o < c.size := by
     simp only [World.cell?,hc] at h1
     simp at h1
     omega
    simp only [World.frozen?,hat]
    rcases h.fz b o hr c e lo hi hc with h3 | h3
    · rw [if_pos (by simp [h3])]
      simp; omega
    · split
      · simp; omega
      · simp; omega
  · have : (w.freeze ⟨blk,c.size,none⟩ 1).frozen? ⟨b,o,none⟩ = w.frozen? ⟨b,o,none⟩ := by simp only [World.frozen?,hne b q]
    rw [this]; exact h2
 refine ⟨fun b o v x => by rw [hcell]; exact h.imm b o v x,fun b cs blk2 base x y => ?_,fun i x blk2 e2 c2 y o p q => ?_,fun b o x => h.fresh b o (by rw [hsz] at x; exact x),by rw [hsz]; exact h.size,h.os,h.tape,h.output,
  ⟨h.old.no,h.old.laid,fun b hb2 => by rw [hne b (by omega)]; exact h.old.kept b hb2⟩,h.wbox,h.wspare,h.snap,fun b o v x => ?_,h.lo,fun b o hr c2 e2 lo2 hi2 q => ?_⟩
 · obtain ⟨vs,hv,hj⟩ := h.box b cs blk2 base x y
   refine ⟨vs,hv,fun j v q => ?_⟩
   obtain ⟨h1,h2,h3⟩ := hj j v q
   exact ⟨h1,by rw [hcell]; exact h2,hfr _ _ (by rw [h1]; rfl) (by rw [h2]; rfl) h3⟩
 · obtain ⟨h1,h2,h3⟩ := h.live i x blk2 e2 c2 y o p q
   exact ⟨h1,by rw [hcell]; exact h2,hfr _ _ (by rw [h1]; rfl) h2 h3⟩
 · obtain ⟨h1,h2⟩ := h.hid b o v x
   exact ⟨by rw [hcell]; exact h1,hfr _ _ (by rw [x]; rfl) (by rw [h1]; rfl) h2⟩
 · by_cases q1 : b = blk
   · subst q1
     rw [hat] at q
     simp only [Option.some.injEq,Obj.cells.injEq] at q
     obtain ⟨rfl,rfl,q⟩ := q
     rcases h.fz b o hr c e lo hi hc with h3 | h3
     · rw [if_pos (by simp [h3])] at q
       obtain ⟨rfl,rfl⟩ := Prod.mk.inj q
       exact .inr (Nat.le_refl _)
     · split at q <;> obtain ⟨rfl,rfl⟩ := Prod.mk.inj q
       · exact .inr (Nat.le_refl _)
       · exact .inr (by omega)
   · rw [hne b q1] at q
     exact h.fz b o hr c2 e2 lo2 hi2 q
theorem run_convert_self {s e : TypeId} (hu : P.underlying s = some (.slice e)) (he : P.underlying e = some (.int .u8)) {blk off n k : Nat} {c : Array Value} {e' : TypeId} {f : Nat × Nat} (hc : w.heap[blk]? = some (.cells c e' f)) :
 (Go.convert s s (.slice (some ⟨blk,off,none⟩) n k)).run P w = .ok (.slice (some ⟨blk,off,none⟩) n k) (w.freeze ⟨blk,c.size,none⟩ 1) := by
 have hsh : w.shape? blk = some (e',c.size) := by unfold World.shape?; rw [hc]
 simp [Go.convert,run_underlying hu,run_underlying he,markStringish,hsh]
theorem convert_rel (ok : Ok P cx) (hS : SRel cx.C S w0 st g w) {s d : TypeId} {x : AVal U} {c : Value} (hx : RelV cx.C g x c) {K : AVal U → St U → Option R} {r : R} (h : convert cx s d x st K = some r) :
 ∃ v st' e g' w',K v st' = some r ∧ (Go.convert s d c).run P w = .ok e w' ∧ Step cx.C S w0 st st' g g' w' v e := by
 have hs := (ok.tt s).2
 have hd := (ok.tt d).2
 have hx' := co_rel (k := (cx.TT s).k) hx
 unfold convert at h
 generalize co (cx.TT s).k x = y at h hx'
 split at h
 · rename_i k1 k2 k3 n h1 h2
   rw [h1] at hs; rw [h2] at hd
   cases hx'
   have hs' : P.underlying s = some (.int k1) := hs
   have hd' : P.underlying d = some (.int k2) := hd
   exact ⟨_,_,.int k2 (k2.wrap n),g,w,h,by simp [Go.convert,run_underlying hs',run_underlying hd',Conv.intToInt],step_same hS (.int _ _)⟩
 · rename_i sb h1 h2
   rw [h1] at hs; rw [h2] at hd
   cases hx'
   have hs' : P.underlying s = some .string := hs
   have hd' : P.underlying d = some .string := hd
   exact ⟨_,_,.string sb,g,w,h,by simp [Go.convert,run_underlying hs',run_underlying hd'],step_same hS (.str _)⟩
 · rename_i e t l p h1 h2
   rw [h1] at hs; rw [h2] at hd
   obtain ⟨l',h3,h⟩ := bind2 h
   obtain ⟨rfl,rfl⟩ := recast_eq h3
   obtain ⟨hu,hw,hke,hpos,hbp,hu8⟩ := hs
   have hd' : P.underlying d = some .string := hd
   exact ⟨_,_,.string (ofBytes l'),g,w,h,convert_bytes_str (st := st) hu hd' (hu8 rfl) hS.h hx',step_same hS (.str _)⟩
 · rename_i e sb h1 h2
   rw [h1] at hs; rw [h2] at hd
   cases hx'
   have hs' : P.underlying s = some .string := hs
   obtain ⟨hu,hw,hke,hpos,hbp,hu8⟩ := hd
   obtain ⟨c,g',w',h3,h4⟩ := convert_str_bytes (C := cx.C) hS hs' hu (hu8 rfl) sb
   exact ⟨_,_,c,g',w',h,h3,h4⟩
 · rename_i e1 e2 t n l h1 h2
   rw [h1] at hs
   split at h
   · rename_i hsd
     obtain rfl := Nat.eq_of_beq_eq_true hsd
     obtain ⟨l',h3,h⟩ := bind2 h
     obtain ⟨rfl,rfl⟩ := recast_eq h3
     obtain ⟨hu,hw,hke,hpos,hbp,hu8⟩ := hs
     cases hx' with
     | sl hv hi hl hp =>
      rename_i blk off cap vs
      have hlo : w0.heap.size ≤ blk := by
       rcases hp.2 with q | q
       · cases q
       · have := q _ rfl
         rw [hS.h.lo] at this
         exact this
      have hvs := cells_bytes hv
      have hc1 : w.cell? ⟨blk,off + 0,none⟩ = some (.int .u8 n) := hS.h.imm _ _ _ (hi 0 (.int .u8 n) (by rw [hvs]; rfl))
      have hob : ∃ c e' f,w.heap[blk]? = some (.cells c e' f) := by
       unfold World.cell? at hc1
       split at hc1
       · rename_i q; exact ⟨_,_,_,q⟩
       · cases hc1
      obtain ⟨c,e',f,hc⟩ := hob
      refine ⟨_,_,_,g,_,h,run_convert_self hu (hu8 rfl) hc,⟨⟨hS.h.mark hlo hc,hS.tb,hS.tt,hS.uniq,hS.lt⟩,Le.refl _,.sl hv hi hl hp,Same.refl _⟩⟩
   · cases h
 · cases h
end
end Go.Proofs.YtccfmfifnbnlmaaGreatDoor.Ev
end
section
/- One operation that is no call of a function: all kinds. -/
set_option linter.unusedVariables false
set_option linter.unusedSimpArgs false
namespace Go.Proofs.YtccfmfifnbnlmaaGreatDoor.Ev
open Go
section
variable {U : Nat → Type} {P : Program} {g g' : Gh} {w w' w0 : World} {R : Type} {S : Nat → Nat → Bool} {st : St U} {cx : Cx U R}
theorem bound_rel {C : Codec U} {x : AVal U} {c : Value} {n : Int} (h : RelV C g x c) (hb : bound x = some n) : ∃ k,c = .int k n := by
 unfold bound at hb
 split at hb
 · obtain rfl := Option.some.inj hb
   cases h
   exact ⟨_,rfl⟩
 · cases hb
/-- Bounds as the evaluator has them and as the machine does. -/
theorem optBound {C : Codec U} {lo : Option (AVal U)} {clo : Option Value} (hlo : (lo = none ∧ clo = none) ∨ ∃ v c,lo = some v ∧ clo = some c ∧ RelV C g v c) :
 (lo.map bound = none ∧ clo = none) ∨ (lo.map bound = some none) ∨ ∃ k n,lo.map bound = some (some n) ∧ clo = some (.int k n) := by
 rcases hlo with ⟨rfl,rfl⟩ | ⟨v,c,rfl,rfl,hv⟩
 · exact .inl ⟨rfl,rfl⟩
 · cases hb : bound v with
   | none => exact .inr (.inl (by simp [hb]))
   | some n =>
    obtain ⟨k,rfl⟩ := bound_rel hv hb
    exact .inr (.inr ⟨k,n,by simp [hb],rfl⟩)
theorem sliceOp_rel (ok : Ok P cx) (hS : SRel cx.C S w0 st g w) {t : TypeId} {x : AVal U} {c : Value} {lo hi : Option (AVal U)} {clo chi : Option Value} (hx : RelV cx.C g x c)
 (hlo : (lo = none ∧ clo = none) ∨ ∃ v c,lo = some v ∧ clo = some c ∧ RelV cx.C g v c) (hhi : (hi = none ∧ chi = none) ∨ ∃ v c,hi = some v ∧ chi = some c ∧ RelV cx.C g v c)
 {K : AVal U → St U → Option R} {r : R} (h : sliceOp cx t x lo hi none st K = some r) :
 ∃ v st' e g' w',K v st' = some r ∧ (Instr.sliceAt t c clo chi none).run P w = .ok e w' ∧ Step cx.C S w0 st st' g g' w' v e := by
 have h2 := (ok.tt t).2
 unfold sliceOp at h
 split at h
 · cases hx
   rename_i s
   -- strings
   cases hk : (cx.TT t).k with
   | str =>
    rw [hk] at h2 h
    have hu : P.underlying t = some .string := h2
    dsimp only at h
    rcases optBound hlo with ⟨e1,rfl⟩ | e1 | ⟨k1,a,e1,rfl⟩ <;> rcases optBound hhi with ⟨e2,rfl⟩ | e2 | ⟨k2,b,e2,rfl⟩ <;> rw [e1,e2] at h <;> dsimp only at h <;> try (cases h; done)
    · exact ⟨_,_,_,g,w,h,slice_str hu (.inl ⟨rfl,rfl⟩) (.inl ⟨rfl,rfl⟩) (Nat.zero_le _) (Nat.le_refl _),step_same hS (by rw [show s.extract 0 s.size = s by simp]; exact .str _)⟩
    · by_cases b0 : 0 ≤ b
      case neg => rw [if_neg b0] at h; cases h
      rw [if_pos b0] at h
      by_cases b1 : b ≤ (s.size : Int)
      case neg => rw [if_neg b1] at h; cases h
      rw [if_pos b1] at h
      exact ⟨_,_,_,g,w,h,slice_str hu (.inl ⟨rfl,rfl⟩) (.inr ⟨k2,b,rfl,b0,rfl⟩) (Nat.zero_le _) (by omega),step_same hS (.str _)⟩
    · by_cases a0 : 0 ≤ a
      case neg => rw [if_neg a0] at h; cases h
      rw [if_pos a0] at h
      by_cases a1 : a ≤ (s.size : Int)
      case neg => rw [if_neg a1] at h; cases h
      rw [if_pos a1] at h
      exact ⟨_,_,_,g,w,h,slice_str hu (.inr ⟨k1,a,rfl,a0,rfl⟩) (.inl ⟨rfl,rfl⟩) (by omega) (Nat.le_refl _),step_same hS (.str _)⟩
    · by_cases a0 : 0 ≤ a
      case neg => rw [if_neg a0] at h; cases h
      rw [if_pos a0] at h
      by_cases a1 : a ≤ b
      case neg => rw [if_neg a1] at h; cases h
      rw [if_pos a1] at h
      by_cases b1 : b ≤ (s.size : Int)
      case neg => rw [if_neg b1] at h; cases h
      rw [if_pos b1] at h
      exact ⟨_,_,_,g,w,h,slice_str hu (.inr ⟨k1,a,rfl,a0,rfl⟩) (.inr ⟨k2,b,rfl,by omega,rfl⟩) (by omega) (by omega),step_same hS (.str _)⟩
   | _ => rw [hk] at h; dsimp only at h; cases h
 · rename_i ty0 l0 p
   cases hk : (cx.TT t).k with
   | sl e ty =>
    rw [hk] at h
    dsimp only at h
    obtain ⟨l,h3,hh⟩ := bind2 h
    clear h
    obtain ⟨rfl,rfl⟩ := recast_eq h3
    have h := hh
    clear hh h3
    rcases optBound hlo with ⟨e1,rfl⟩ | e1 | ⟨k1,a,e1,rfl⟩ <;> rcases optBound hhi with ⟨e2,rfl⟩ | e2 | ⟨k2,b,e2,rfl⟩ <;> rw [e1,e2] at h <;> dsimp only at h <;> try (cases h; done)
    · obtain ⟨d,h4,h5⟩ := slice_sl (P := P) (w := w) ok.tt ok.codec hk hx (lo := none) (hi := none) (.inl ⟨rfl,rfl⟩) (.inl ⟨rfl,rfl⟩) (Nat.zero_le _) (Nat.le_refl _)
      rw [if_pos rfl,List.take_length,List.drop_zero] at h5
      exact ⟨_,_,d,g,w,h,h4,step_same hS h5⟩
    · by_cases b0 : 0 ≤ b
      case neg => rw [if_neg b0] at h; cases h
      rw [if_pos b0] at h
      by_cases b1 : b ≤ (l.length : Int)
      case neg => rw [if_neg b1] at h; cases h
      rw [if_pos b1] at h
      obtain ⟨d,h4,h5⟩ := slice_sl (P := P) (w := w) ok.tt ok.codec hk hx (lo := none) (hi := some (.int k2 b)) (.inl ⟨rfl,rfl⟩) (.inr ⟨k2,b,rfl,b0,rfl⟩) (Nat.zero_le _) (by omega)
      rw [List.drop_zero] at h5
      exact ⟨_,_,d,g,w,h,h4,step_same hS h5.noPerm⟩
    · by_cases a0 : 0 ≤ a
      case neg => rw [if_neg a0] at h; cases h
      rw [if_pos a0] at h
      by_cases a1 : a ≤ (l.length : Int)
      case neg => rw [if_neg a1] at h; cases h
      rw [if_pos a1] at h
      obtain ⟨d,h4,h5⟩ := slice_sl (P := P) (w := w) ok.tt ok.codec hk hx (lo := some (.int k1 a)) (hi := none) (.inr ⟨k1,a,rfl,a0,rfl⟩) (.inl ⟨rfl,rfl⟩) (by omega) (Nat.le_refl _)
      rw [if_pos rfl,List.take_length] at h5
      exact ⟨_,_,d,g,w,h,h4,step_same hS h5⟩
    · by_cases a0 : 0 ≤ a
      case neg => rw [if_neg a0] at h; cases h
      rw [if_pos a0] at h
      by_cases a1 : a ≤ b
      case neg => rw [if_neg a1] at h; cases h
      rw [if_pos a1] at h
      by_cases b1 : b ≤ (l.length : Int)
      case neg => rw [if_neg b1] at h; cases h
      rw [if_pos b1] at h
      obtain ⟨d,h4,h5⟩ := slice_sl (P := P) (w := w) ok.tt ok.codec hk hx (lo := some (.int k1 a)) (hi := some (.int k2 b)) (.inr ⟨k1,a,rfl,a0,rfl⟩) (.inr ⟨k2,b,rfl,by omega,rfl⟩) (by omega) (by omega)
      exact ⟨_,_,d,g,w,h,h4,step_same hS h5.noPerm⟩
   | _ => rw [hk] at h; dsimp only at h; cases h
 · rename_i b
   cases hx with
   | ptr hβ =>
    rename_i blk base
    split at h
    · rename_i n e ty hk
      split at h
      · obtain ⟨cs,h3,h⟩ := bind2 h
        split at h
        · rename_i hc
          rw [Bool.and_eq_true] at hc
          obtain ⟨l,h4,h⟩ := bind2 h
          rw [hk] at h2
          obtain ⟨hu,hw⟩ := h2
          obtain ⟨w1,w2,w3⟩ := hw ty rfl
          obtain ⟨vs,hvs,hj⟩ := hS.h.box b cs blk base h3 hβ
          obtain ⟨hl,a,bb,rfl,hr⟩ := unflatAll_ok ok.codec.toCodecOk ty n cs l h4 g vs hvs
          obtain ⟨z,hz⟩ := (ok.tt e).known w2
          have e1 : clo = none := by rcases hlo with ⟨_,q⟩ | ⟨v,c,q,_⟩ <;> first | exact q | cases q
          have e2 : chi = none := by rcases hhi with ⟨_,q⟩ | ⟨v,c,q,_⟩ <;> first | exact q | cases q
          subst e1 e2
          refine ⟨_,_,.slice (some ⟨blk,base,none⟩) n n,g.freeze w b,w,h,?_,⟨hS.freeze b,le_freeze b,?_,⟨rfl,rfl,rfl,rfl,rfl,rfl,rfl,rfl,by simp,Nat.le_refl _⟩⟩⟩
          · simp [Instr.sliceAt,Instr.slice,run_underlying hu,Instr.sureAddr,Instr.sliceBounds,run_size hz,addr_add]
          · have himm : Imm (g.freeze w b) blk base a := fun j v hv => by
             have hj' : (a ++ bb)[j]? = some v := by
              rw [List.getElem?_append_left (List.getElem?_eq_some_iff.1 hv).1]; exact hv
             obtain ⟨k1,k2,_⟩ := hj j v hj'
             exact freeze_at k1 k2
            have := RelV.sl (C := cx.C) (t := ty) (p := .exact) (cap := n) (RelVs.mono (le_freeze b) hr) himm (Nat.le_of_eq hl) ⟨hl.symm,by
             rcases Nat.eq_zero_or_pos l.length with q | q
             · exact .inl q
             · refine .inr fun b' e => ?_
               cases e
               have hlen := RelVs.length hr
               rw [cellsAll_length ok.codec.toCodecOk,w1] at hlen
               have hpos : 0 < a.length := by rw [hlen]; exact Nat.mul_pos q w3
               obtain ⟨v0,hv0⟩ : ∃ v,(a ++ bb)[0]? = some v := ⟨_,List.getElem?_eq_getElem (by rw [List.length_append]; omega)⟩
               obtain ⟨k1,_,_⟩ := hj 0 v0 hv0
               show g.lo ≤ blk
               rw [hS.h.lo]
               rcases Nat.lt_or_ge blk w0.heap.size with q2 | q2
               · have := hS.h.wbox _ _ _ k1 q2
                 rw [hS.h.old.no] at this
                 cases this
               · exact q2⟩
            rw [hl] at this
            exact this
        · cases h
      · cases h
    · cases h
 · cases h
theorem indexAddr_rel (ok : Ok P cx) (hS : SRel cx.C S w0 st g w) {t : TypeId} {x y : AVal U} {c d : Value} (hx : RelV cx.C g x c) (hy : RelV cx.C g y d) {K : AVal U → Option R} {r : R} (h : indexAddr cx t x y K = some r) :
 ∃ v e,K v = some r ∧ (Instr.indexAt t c d).run P w = .ok e w ∧ RelV cx.C g v e := by
 unfold indexAddr at h
 split at h
 · rename_i ty0 l0 p k n
   cases hy
   cases hk : (cx.TT t).k with
   | sl e ty =>
    rw [hk] at h
    dsimp only at h
    obtain ⟨l,h3,hh⟩ := bind2 h
    clear h
    obtain ⟨rfl,rfl⟩ := recast_eq h3
    have h := hh
    clear hh h3
    by_cases n0 : 0 ≤ n
    case neg => rw [if_neg n0] at h; cases h
    rw [if_pos n0] at h
    obtain ⟨xe,h4,h⟩ := bind2 h
    obtain ⟨d,h5,h6⟩ := indexAt_slice (P := P) (w := w) ok.tt ok.codec hk (k := k) hx n0 h4
    exact ⟨_,d,h,h5,h6⟩
   | _ => rw [hk] at h; dsimp only at h; cases h
 · rename_i b off k n
   cases hx; cases hy
   rename_i blk base hβ
   cases hk : (cx.TT t).k with
   | arr len e ty =>
    rw [hk] at h
    dsimp only at h
    obtain ⟨z,h3,h⟩ := bind2 h
    obtain ⟨m,h4,rfl,h5⟩ := cases_some h
    exact ⟨_,_,h5,indexAt_arr ok.tt hk h3 h4,by rw [Nat.add_assoc]; exact .ptr hβ⟩
   | _ => rw [hk] at h; dsimp only at h; cases h
 · rename_i cs k n
   cases hy
   cases hx with
   | rp hs hi =>
    cases hk : (cx.TT t).k with
    | arr len e ty =>
     rw [hk] at h
     dsimp only at h
     obtain ⟨z,h3,h⟩ := bind2 h
     obtain ⟨m,h4,rfl,h5⟩ := cases_some h
     exact ⟨_,_,h5,indexAt_arr ok.tt hk h3 h4,.rp (RelVs.drop _ hs) (hi.drop _)⟩
    | _ => rw [hk] at h; dsimp only at h; cases h
 · cases h
theorem index_rel (ok : Ok P cx) {t : TypeId} {x y : AVal U} {c d : Value} (hx : RelV cx.C g x c) (hy : RelV cx.C g y d) {K : AVal U → Option R} {r : R} (h : index cx t x y K = some r) :
 ∃ v e,K v = some r ∧ (Instr.index t c d).run P w = .ok e w ∧ RelV cx.C g v e := by
 have h2 := (ok.tt t).2
 unfold index at h
 split at h
 · rename_i s k n
   cases hx; cases hy
   cases hk : (cx.TT t).k with
   | str =>
    rw [hk] at h h2
    dsimp only at h
    by_cases n0 : 0 ≤ n
    case neg => rw [if_neg n0] at h; cases h
    rw [if_pos n0] at h
    by_cases n1 : n < (s.size : Int)
    case neg => rw [if_neg n1] at h; cases h
    rw [if_pos n1] at h
    exact ⟨_,_,h,index_str t h2 n0 n1,.int _ _⟩
   | _ => rw [hk] at h; dsimp only at h; cases h
 · rename_i cs k n
   cases hx; cases hy
   rename_i vs hs
   cases hk : (cx.TT t).k with
   | arr len e ty =>
    rw [hk] at h
    dsimp only at h
    obtain ⟨z,h3,h⟩ := bind2 h
    obtain ⟨m,h4,rfl,h5⟩ := cases_some h
    obtain ⟨v,h6,h7⟩ := bind2 h5
    obtain ⟨e',h8,h9⟩ := index_arr (P := P) (w := w) ok.tt hk h3 h4 (k := k) hs h6
    exact ⟨v,e',h7,h8,h9⟩
   | _ => rw [hk] at h; dsimp only at h; cases h
 · cases h
end
end Go.Proofs.YtccfmfifnbnlmaaGreatDoor.Ev
end
section
/- One operation that is no call of a function. -/
set_option linter.unusedVariables false
set_option linter.unusedSimpArgs false
namespace Go.Proofs.YtccfmfifnbnlmaaGreatDoor.Ev
open Go
section
variable {U : Nat → Type} {P : Program} {g g' : Gh} {w w' w0 : World} {R : Type} {S : Nat → Nat → Bool} {st : St U} {cx : Cx U R}
theorem RelVs.two {C : Codec U} {a b : AVal U} {cs : List Value} (h : RelVs C g [a,b] cs) : ∃ c d,cs = [c,d] ∧ RelV C g a c ∧ RelV C g b d := by
 cases h with
 | cons h1 h2 => cases h2 with
  | cons h3 h4 => cases h4; exact ⟨_,_,rfl,h1,h3⟩
theorem RelVs.one {C : Codec U} {a : AVal U} {cs : List Value} (h : RelVs C g [a] cs) : ∃ c,cs = [c] ∧ RelV C g a c := by
 cases h with
 | cons h1 h2 => cases h2; exact ⟨_,rfl,h1⟩
theorem append_op (ok : Ok P cx) (hS : SRel cx.C S w0 st g w) {t u ty : TypeId} {s x : AVal U} {c d : Value} (hs : RelV cx.C g s c) (hx : RelV cx.C g x d) {K : AVal U → St U → Option R} {r : R} (h : append cx t u s x st K = some r) :
 ∃ v st' e g' w',K v st' = some r ∧ (Builtin.append_ #[t,u] ty #[c,d]).run P w = .ok e w' ∧ Step cx.C S w0 st st' g g' w' v e := by
 have h2 := (ok.tt t).2
 have hu2 := (ok.tt u).2
 unfold append at h
 cases hk : (cx.TT t).k with
 | sl e T =>
  rw [hk] at h h2
  dsimp only at h
  obtain ⟨hu,hw,hke,hpos,hbp,hu8⟩ := h2
  obtain ⟨z,hz⟩ := (ok.tt e).known hke
  obtain ⟨inf,hinf,i1,i2,i3⟩ := hz.info
  have hz0 := hz.zero g
  have hzl : z.cells.size = inf.size := by have := RelVs.length hz0; rw [Array.length_toList] at this; rw [this,i1]; exact hz.len
  have hs' := co_rel (k := .sl e T) hs
  have hx' := co_rel (k := .sl e T) hx
  generalize co (.sl e T) s = s' at h hs'
  generalize co (.sl e T) x = x' at h hx'
  split at h
  · rename_i t1 l1 p1 t2 l2 p2
    cases hku : (cx.TT u).k with
    | sl e' T' =>
     rw [hku] at h hu2
     dsimp only at h
     cases hee : Nat.beq e' e with
     | false => rw [hee] at h; cases h
     | true =>
      rw [hee] at h
      have hee' := Nat.eq_of_beq_eq_true hee
      subst hee'
      obtain ⟨m1,h3,hh⟩ := bind2 h
      obtain ⟨m2,h4,hh2⟩ := bind2 hh
      clear h hh
      obtain ⟨rfl,rfl⟩ := recast_eq h3
      obtain ⟨rfl,rfl⟩ := recast_eq h4
      obtain ⟨news,hsrc,hn⟩ := src_sl (P := P) ok.codec hS.h hx' hw
      rw [← i1] at hsrc
      rw [← i2] at hh2
      exact append_rel (ty := ty) ok.codec hS hu hu2.1 (.inr rfl) hinf i3 hzl (by rw [hw,i1]) (by omega) hs' hsrc hn hh2 (by omega)
    | _ => rw [hku] at h; dsimp only at h; cases h
  · rename_i t1 l1 p1 sb
    cases hku : (cx.TT u).k with
    | str =>
     rw [hku] at h hu2
     dsimp only at h
     obtain ⟨m1,h3,hh⟩ := bind2 h
     clear h
     cases T with
     | int k8 =>
      cases k8 with
      | u8 =>
       dsimp only at hh
       obtain ⟨rfl,rfl⟩ := recast_eq h3
       cases hx'
       obtain ⟨news,hsrc,hn⟩ := src_str (C := cx.C) (g := g) (P := P) (w := w) sb
       have hw1 : (1 : Nat) = (cx.TT e).size := hw
       rw [hw1,← i1] at hsrc
       rw [← i2] at hh
       have hu' : P.underlying u = some .string := hu2
       exact append_rel (ty := ty) ok.codec hS hu hu' (.inl rfl) hinf i3 hzl (by rw [hw,i1]) (by omega) hs' hsrc hn hh (by omega)
      | _ => cases hh
     | _ => cases hh
    | _ => rw [hku] at h; dsimp only at h; cases h
  · cases h
 | _ => rw [hk] at h; dsimp only at h; cases h
theorem len_op (ok : Ok P cx) {t : TypeId} {u : TypeId} {x : AVal U} {c : Value} {n : Int} (hx : RelV cx.C g x c) (h : lenOf cx t x = some n) : (Builtin.len_ #[t] u #[c]).run P w = .ok (.int .i64 n) w := by
 have h2 := (ok.tt t).2
 unfold lenOf at h
 cases hk : (cx.TT t).k <;> rw [hk] at h h2 <;> dsimp only at h <;> try (cases h; done)
 case str =>
  have hu : P.underlying t = some .string := h2
  split at h <;> first | (cases h; done) | skip
  cases hx
  obtain rfl := Option.some.inj h
  simp [Builtin.len_,run_underlying hu,goInt]
 case sl e ty =>
  obtain ⟨hu,_⟩ := h2
  split at h <;> first | (cases h; done) | skip
  · obtain rfl := Option.some.inj h
    cases hx <;> simp [Builtin.len_,run_underlying hu,goInt]
  · obtain rfl := Option.some.inj h
    cases hx; simp [Builtin.len_,run_underlying hu,goInt]
 case arr m e ty =>
  have hu : P.underlying t = some (.array m e) := h2.1
  obtain rfl := Option.some.inj h
  simp [Builtin.len_,run_underlying hu,goInt]
 case ptr e =>
  have hu : P.underlying t = some (.pointer e) := h2
  have h3 := (ok.tt e).2
  cases hke : (cx.TT e).k <;> rw [hke] at h h3 <;> dsimp only at h <;> try (cases h; done)
  rename_i m e' ty'
  have hu' : P.underlying e = some (.array m e') := h3.1
  obtain rfl := Option.some.inj h
  simp [Builtin.len_,run_underlying hu,run_underlying hu',goInt]
theorem builtin_rel (ok : Ok P cx) (hS : SRel cx.C S w0 st g w) {b : Go.Builtin} {ats : Array TypeId} {ty : TypeId} {consts : Array Bool} {args : List (AVal U)} {cs : List Value} (ha : RelVs cx.C g args cs)
 {K : AVal U → St U → Option R} {r : R} (h : builtin cx b ats.toList args st K = some r) :
 ∃ v st' e g' w',K v st' = some r ∧ (Go.builtin b ats ty consts cs.toArray).run P w = .ok (.value e) w' ∧ Step cx.C S w0 st st' g g' w' v e := by
 unfold builtin at h
 split at h
 · rename_i t x hats
   obtain ⟨n,h3,h4⟩ := bind2 h
   obtain ⟨c,rfl,hc⟩ := RelVs.one ha
   have hats' : ats = #[t] := by apply Array.ext'; simpa using hats
   subst hats'
   exact ⟨_,_,.int .i64 n,g,w,h4,by simp [Go.builtin,len_op (w := w) ok hc h3],step_same hS (.int _ _)⟩
 · rename_i t u s x hats
   obtain ⟨c,d,rfl,hc,hd⟩ := RelVs.two ha
   have hats' : ats = #[t,u] := by apply Array.ext'; simpa using hats
   subst hats'
   obtain ⟨v,st',e,g',w',h3,h4,h5⟩ := append_op (ty := ty) ok hS hc hd h
   exact ⟨v,st',e,g',w',h3,by simp [Go.builtin,h4],h5⟩
 · rename_i k x k' y
   obtain ⟨c,d,rfl,hc,hd⟩ := RelVs.two ha
   cases hc; cases hd
   by_cases e : k = k'
   · rw [if_pos e] at h
     exact ⟨_,_,_,g,w,h,by simp [Go.builtin,Builtin.min_,Builtin.min2],step_same hS (.int _ _)⟩
   · rw [if_neg e] at h; cases h
 · rename_i k x k' y
   obtain ⟨c,d,rfl,hc,hd⟩ := RelVs.two ha
   cases hc; cases hd
   by_cases e : k = k'
   · rw [if_pos e] at h
     exact ⟨_,_,_,g,w,h,by simp [Go.builtin,Builtin.max_,Builtin.max2],step_same hS (.int _ _)⟩
   · rw [if_neg e] at h; cases h
 · cases h
end
end Go.Proofs.YtccfmfifnbnlmaaGreatDoor.Ev
end
