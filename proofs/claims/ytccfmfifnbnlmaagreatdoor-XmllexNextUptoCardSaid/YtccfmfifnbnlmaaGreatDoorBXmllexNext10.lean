/- Several texts in one, in their order. -/
import Derived.Test.YtccfmfifnbnlmaaGreatDoorBXmllexNext6
import Derived.Test.YtccfmfifnbnlmaaGreatDoorBXmllexNext7
import Derived.Test.YtccfmfifnbnlmaaGreatDoorBXmllexNext9
import Derived.ChangeAgain
import Derived.Shelf.RegionOpenPlain
import Derived.OwnWalk
import Derived.WalkKit
import Derived.Laws.StructEq
import Derived.Test.YtccfmfifnbnlmaaGreatDoorProg
import Derived.Below
import Derived.Deep.Draws
import Derived.Deep.AppendLies
import Derived.Maps.AppendAt
import Derived.Laws.BytesArg
import Derived.Laws.MakeOwn
import Derived.Laws.OwnMore
import Derived.Deep.OwnRows
import Derived.Tactics
import Derived.Lib.ConvBytes
import Derived.Laws.Slices
import Derived.KernelRfl
import Derived.RowKit3
import Derived.Deep.LoopGhost
import Derived.Deep.QuietTactic
import Derived.BigQuiet
import Derived.WideLaws
import Derived.Deep.DeepCutAuto
import Derived.Deep.CutBlock
import Derived.Deep.RegionHeld3
import Derived.Laws.Rows
import Derived.Lib.AppendStr
import Derived.ArgAppend
import Derived.Laws.IdiomCopy
import Derived.OrdersHeld
import Derived.Laws.BitsLemmas
import Derived.RowKit
section
/- The words of functions, as calls from any memory: for what is walked by hand. -/
set_option linter.unusedVariables false
set_option linter.unusedSimpArgs false
namespace Go.Proofs.YtccfmfifnbnlmaaGreatDoor.Ev
open Go Go.RowKit
theorem assumed_below {w w' : World} (h : Assumed w) (hb : Below w.heap.size w w') : Assumed w' := by
 refine ⟨?_,h.2.keptBut (hb.frame (fun _ => False)) (fun _ q => q.elim)⟩
 first
  | exact trivial
  | exact Go.Proofs.YtccfmfifnbnlmaaGreatDoorH.Laid_below h.1 hb
/-- A function's word, from any memory. -/
theorem callWord {f : FuncId} {spec : Spec} {args : List (AVal U0)} {v : AVal U0} {st' : St U0} {w : World} (hs : CallOkL Tryz.prog C0 f spec) (h : spec args (lcSt [] 0) out = some (.ret v,st')) (hA : Assumed w) (cs : List Value) (ha : RelVs C0 (g0 w) args cs) :
 Calls Tryz.prog f cs.toArray w fun e w' => ∃ c,e = .returned c ∧ Below w.heap.size w w' ∧ ∃ g' : Gh,(∀ b o x,g'.own b o = .imm x → w'.cell? ⟨b,o,none⟩ = some x) ∧ RelV C0 g' v c :=
 (hs args [] 0 out _ h _ w (g0 w) w cs ha (srel0 hA 0)).mono fun e w' ⟨res,st',g',h1,h2,h3,h4,h5⟩ => by
  obtain ⟨rfl,_⟩ := Prod.mk.inj (Option.some.inj h1)
  cases h5 with
  | ret hv => exact ⟨_,rfl,below_of' h3,g',h3.h.imm,hv⟩
/-- Bytes at an address; those that are some stand below block B. -/
structure Sb (B : Nat) (w : World) (l : List Int) (p : Option Addr) (c : Nat) : Prop where
 le : l.length ≤ c
 none : p = none → c = 0
 spot : c ≠ 0 → ∀ a,p = some a → a.spot = .none
 at' : 0 < l.length → ∃ blk off,p = some ⟨blk,off,.none⟩ ∧ blk < B ∧ ∀ i,i < l.length → w.cell? ⟨blk,off + i,.none⟩ = some (.int .u8 (l.getD i 0))
theorem imm0 {w : World} {blk off : Nat} {l : List Int} (h : ∀ i,i < l.length → w.cell? ⟨blk,off + i,none⟩ = some (.int .u8 (l.getD i 0))) : Imm (g0 w) blk off (l.map (Value.int .u8)) := fun j v hv => by
 rw [g0_imm]
 have hlt : j < l.length := by have := (List.getElem?_eq_some_iff.1 hv).1; rwa [List.length_map] at this
 rw [h j hlt]
 rw [List.getElem?_map,List.getElem?_eq_getElem hlt] at hv
 rw [List.getD_eq_getElem?_getD,List.getElem?_eq_getElem hlt]
 exact hv
theorem Sb.rel {B : Nat} {w : World} {l : List Int} {p : Option Addr} {c : Nat} (h : Sb B w l p c) : RelV C0 (g0 w) (.sl (.int .u8) l .no) (.slice p l.length c) := by
 cases hl : l with
 | nil =>
  cases p with
  | none => rw [h.none rfl]; exact .sl0 rfl
  | some a =>
   by_cases hc : c = 0
   · rw [hc]; exact .sle rfl
   · obtain ⟨blk,off,spot⟩ := a
     obtain rfl := h.spot hc _ rfl
     exact .sl (vs := []) .nil (fun j v hv => by cases hv) (Nat.zero_le _) trivial
 | cons x t =>
  rw [← hl]
  obtain ⟨blk,off,rfl,h1,h2⟩ := h.at' (by rw [hl]; simp)
  exact .sl (RelVs.ofNums _) (imm0 h2) h.le trivial
theorem Sb.below {B : Nat} {w w' : World} {l : List Int} {p : Option Addr} {c : Nat} (h : Sb B w l p c) (hB : B ≤ w.heap.size) (hb : Below B w w') : Sb B w' l p c :=
 ⟨h.le,h.none,h.spot,fun h0 => by
  obtain ⟨blk,off,e,h1,h2⟩ := h.at' h0
  exact ⟨blk,off,e,h1,fun i hi => by rw [World.cell?_of_block (hb.block blk h1)]; exact h2 i hi⟩⟩
theorem Sb.take {B : Nat} {w : World} {l : List Int} {p : Option Addr} {c : Nat} (h : Sb B w l p c) {i : Nat} (hi : i ≤ l.length) : Sb B w (l.take i) p c :=
 ⟨by rw [List.length_take]; have := h.le; omega,h.none,h.spot,fun h0 => by
  rw [List.length_take] at h0
  obtain ⟨blk,off,e,h1,h2⟩ := h.at' (by omega)
  refine ⟨blk,off,e,h1,fun j hj => ?_⟩
  rw [List.length_take] at hj
  rw [h2 j (by omega),List.getD_eq_getElem?_getD,List.getD_eq_getElem?_getD,List.getElem?_take,if_pos (by omega)]⟩
/-- What is left of a slice. -/
def fromP (p : Option Addr) (c j : Nat) : Option Addr := if c = j then p else p.map (fun x => x.add j)
theorem Sb.drop {B : Nat} {w : World} {l : List Int} {p : Option Addr} {c : Nat} (h : Sb B w l p c) {j : Nat} (hj : j ≤ l.length) : Sb B w (l.drop j) (fromP p c j) (c - j) := by
 have hle := h.le
 refine ⟨by rw [List.length_drop]; omega,fun q => ?_,fun hc a q => ?_,fun h0 => ?_⟩
 · unfold fromP at q
   split at q
   · omega
   · rw [Option.map_eq_none_iff] at q
     have := h.none q
     omega
 · unfold fromP at q
   split at q
   · exact h.spot (by omega) a q
   · obtain ⟨b,hb,rfl⟩ := Option.map_eq_some_iff.1 q
     have := h.spot (by omega) b hb
     obtain ⟨blk,off,spot⟩ := b
     obtain rfl : spot = .none := this
     rw [Lib.addr_add]
 · rw [List.length_drop] at h0
   obtain ⟨blk,off,e,h1,h2⟩ := h.at' (by omega)
   refine ⟨blk,off + j,?_,h1,fun i hi => ?_⟩
   · unfold fromP
     rw [if_neg (by omega),e,Option.map_some,Lib.addr_add]
   · rw [List.length_drop] at hi
     rw [Nat.add_assoc,h2 (j + i) (by omega),List.getD_eq_getElem?_getD,List.getD_eq_getElem?_getD,List.getElem?_drop]
theorem Sb.nil (B : Nat) (w : World) : Sb B w [] Option.none 0 := ⟨Nat.le_refl _,fun _ => rfl,fun _ a h => (by cases h),fun h => absurd h (Nat.lt_irrefl 0)⟩
theorem map_add {p : Option Addr} (h : ∀ a,p = some a → a.spot = none) (k : Nat) : p.map (fun x => ({ block := x.block,off := x.off + k } : Addr)) = p.map (fun x => x.add k) := by
 cases p with
 | none => rfl
 | some a =>
  obtain ⟨blk,off,spot⟩ := a
  obtain rfl : spot = none := h _ rfl
  rw [Option.map_some,Option.map_some,Lib.addr_add]
/-- bytes.Cut at one byte: the parts stand where the whole stands. -/
theorem cut_walk (B : Nat) (l : List Int) (p : Option Addr) (n c : Nat) (x : Int) (b2 o2 c2 : Nat) (w : World) (hn : l.length = n) (h : Sb B w l p c) (hb : byteB l = true) (hx : 0 ≤ x ∧ x < 256) (hl : l.length ≤ 8000000) (hc2 : 1 ≤ c2) (h2 : w.cell? ⟨b2,o2,none⟩ = some (.int .u8 x)) (hA : Assumed w) :
 Calls Tryz.prog 48 #[.slice p n c,.slice (some ⟨b2,o2,none⟩) 1 c2] w fun e w' => Below w.heap.size w w' ∧
  ((0 ≤ bIndexW l [x] ∧ e = .returned (.tuple #[.slice p (bIndexW l [x]).toNat c,.slice (fromP p c ((bIndexW l [x]).toNat + 1)) (n - ((bIndexW l [x]).toNat + 1)) (c - ((bIndexW l [x]).toNat + 1)),.bool true])) ∨
   (bIndexW l [x] < 0 ∧ e = .returned (.tuple #[.slice p n c,.slice none 0 0,.bool false]))) := by
 have hle := h.le
 have hsp : Aside (c ≠ 0 → ∀ a,p = some a → a.spot = none) := h.spot
 obtain ⟨q1,q2⟩ := bIndex_lt (l := l) (m := [x])
 have hidx : Calls Tryz.prog 41 #[.slice p n c,.slice (some ⟨b2,o2,none⟩) 1 c2] w fun e w' => e = .returned (.int .i64 (bIndexW l [x])) ∧ Below w.heap.size w w' := by
  have hm : byteB [x] = true := by unfold byteB; rw [List.all_cons,List.all_nil,Bool.and_true,Bool.and_eq_true]; exact ⟨decide_eq_true hx.1,decide_eq_true hx.2⟩
  have hs : bIndexS (U := U0) [.sl (.int .u8) l .no,.sl (.int .u8) [x] .no] (lcSt [] 0) out = some (.ret (.int .i64 (bIndexW l [x])),lcRet [] [] 0) := by
   unfold bIndexS
   dsimp only
   rw [if_pos ⟨⟨hb,hm⟩,by omega,by simp,by simp⟩]
   rfl
  have hr2 : RelV C0 (g0 w) (.sl (.int .u8) [x] .no) (.slice (some ⟨b2,o2,none⟩) 1 c2) := by
   have := RelV.sl (C := C0) (g := g0 w) (t := .int .u8) (l := [x]) (p := .no) (blk := b2) (off := o2) (cap := c2) (RelVs.ofNums _) (imm0 (l := [x]) fun i hi => by
    simp only [List.length_cons,List.length_nil] at hi
    obtain rfl : i = 0 := by omega
    exact h2) hc2 trivial
   exact this
  have := callWord bIndexS_ok hs hA [.slice p n c,.slice (some ⟨b2,o2,none⟩) 1 c2] (.cons (by rw [← hn]; exact h.rel) (.cons hr2 .nil))
  refine this.mono fun e w' ⟨c,h1,h2,g',_,h4⟩ => ?_
  cases h4
  exact ⟨h1,h2⟩
 generalize bIndexW l [x] = i at q1 q2 hidx ⊢
 by_cases h0 : 0 ≤ i
 · obtain ⟨j,rfl⟩ : ∃ j : Nat,i = j := ⟨i.toNat,by omega⟩
   rw [if_neg (by omega)] at q2
   simp only [List.length_cons,List.length_nil] at q2
   clear hx h2 hA h
   have mixed : Tryz.prog.follows .mixedOrders = true := by kernel_rfl
   go_enter Tryz.func48,Tryz.ntmps48
   go_wp2_with (go_at_call 41; refine hidx.mono ?_; rintro e w' ⟨rfl,hw⟩)
   go_region_o
   all_goals go_wp2
   all_goals go_ret3
   all_goals refine ⟨⟨hw.os,hw.tape,hw.output,hw.size,hw.block⟩,?_⟩
   all_goals first | exact .inl ⟨h0,by simp [fromP, *]⟩ | (simp [fromP, *]; done) | (simp [fromP, *]; exact map_add (hsp.out (by omega)) _)
 · clear hx h2 hA h
   go_enter Tryz.func48,Tryz.ntmps48
   go_wp2_with (go_at_call 41; refine hidx.mono ?_; rintro e w' ⟨rfl,hw⟩)
   go_ret3
   first | exact ⟨hw,.inr ⟨by omega,rfl⟩⟩ | (refine ⟨hw,?_⟩; simp; omega)
end Go.Proofs.YtccfmfifnbnlmaaGreatDoor.Ev
end
section
-- PRINTED BY print.sh 35421559b90ae4d0a3588c463048766b98c2df88dd9212a6774a882060cdf62d: not written by this session
/-! ### 50. A region's order in a table, made once a region: each step asks the table (numbers alone), not the operations -/
namespace Go.Proofs.YtccfmfifnbnlmaaGreatDoorW.PrintLast
open Go.Proofs.YtccfmfifnbnlmaaGreatDoorW.PrintWords (Aside0)
def needsOf (md : Region.Mode) (o : Oper) : List Nat := (o.after.toList.filter (fun e => Region.binds md e)).map (fun e => e.on)
def clashOf (md : Region.Mode) (ops : Array Oper) (i : Nat) (oi : Oper) : List Nat := (List.range ops.size).filter fun j => !(j == i) && match ops[j]? with
  | some oj => !(oj.after.any (fun e => Region.binds md e && e.on == i) || oi.apart ops oj)
  | none => false
/-- No select in it; for each operation: what must have come up before it, and what may not come up behind it if it is taken first. -/
def rtab (md : Region.Mode) (ops : Array Oper) : Bool × List (List Nat × List Nat) := (Region.noSelect ops, (List.range ops.size).map fun i => match ops[i]? with
  | some o => (needsOf md o, clashOf md ops i o)
  | none => ([], []))
def readyAt (T : List (List Nat × List Nat)) (l : List Bool) (i : Nat) : Bool := !l.getD i true && match T[i]? with
  | some r => r.1.all (fun j => l.getD j false)
  | none => false
def readyT (T : List (List Nat × List Nat)) (l : List Bool) : List Nat := (List.range T.length).filter (readyAt T l)
def freeT (T : List (List Nat × List Nat)) (l : List Bool) (i : Nat) : Bool := match T[i]? with
  | some r => r.2.all (fun j => l.getD j true)
  | none => false
def closedT (T : List (List Nat × List Nat)) (l : List Bool) : Bool := (List.range T.length).all fun j => !l.getD j false || match T[j]? with
  | some r => r.1.all (fun k => l.getD k false)
  | none => true
def reachT (T : List (List Nat × List Nat)) (i : Nat) : Nat → Nat → Bool
  | 0, _ => false
  | fuel + 1, d => match T[d]? with
    | some r => r.1.any fun j => j == i || reachT T i fuel j
    | none => false
def lastT (T : List (List Nat × List Nat)) (l : List Bool) (ds : List Nat) (i : Nat) : Bool := ds.all fun d => l.getD d true || reachT T i T.length d
section
variable {md : Region.Mode} {ops : Array Oper} {T : Bool × List (List Nat × List Nat)} {l l' li lj lk : Array Bool} {ds : List Nat} {i j k : Nat}
theorem gd (l : Array Bool) (j : Nat) (b : Bool) : l.getD j b = l.toList.getD j b := by simp [Array.getD_eq_getD_getElem?, List.getD_eq_getElem?_getD]
def anyT (T : Bool × List (List Nat × List Nat)) (l l' : List Bool) (i : Nat) : Bool := T.1 && freeT T.2 l i && readyAt T.2 l i && (l.set i true == l')
def takeT (T : Bool × List (List Nat × List Nat)) (ds : List Nat) (l l' : List Bool) (i : Nat) : Bool := T.1 && freeT T.2 l i && readyAt T.2 l i && closedT T.2 l && lastT T.2 l ds i && (l.set i true == l')
/-- What d waits for, as_ bits: told in the table (B), checked in one pass: each bit is a need of d, or a bit of an earlier need's. -/
def upM (B : List Nat) (d : Nat) : List Nat → Nat
  | [] => 0
  | n :: r => (2 ^ n ||| (if n < d then B.getD n 0 else 0)) ||| upM B d r
def waitsOk (T : List (List Nat × List Nat)) (B : List Nat) : Bool := (List.range T.length).all fun d => match T[d]? with
  | some r => (B.getD d 0 ||| upM B d r.1) == upM B d r.1
  | none => false
def lastW (T : List (List Nat × List Nat)) (B : List Nat) (l : List Bool) (ds : List Nat) (i : Nat) : Bool := ds.all fun d => l.getD d true || (decide (d < T.length) && (B.getD d 0).testBit i)
def takeW (T : Bool × List (List Nat × List Nat)) (B : List Nat) (ds : List Nat) (l l' : List Bool) (i : Nat) : Bool := T.1 && freeT T.2 l i && readyAt T.2 l i && closedT T.2 l && lastW T.2 B l ds i && (l.set i true == l')
end
/-- The operations of a region, by its number. -/
def opsIn : Code → Nat → Option (Array Oper)
  | .region id ops _, k => if id == k then some ops else none
  | .seq a b, k => match opsIn a k with
    | some o => some o
    | none => opsIn b k
  | .cond _ a b, k => match opsIn a k with
    | some o => some o
    | none => opsIn b k
  | .block _ c, k => opsIn c k
  | .loop c, k => opsIn c k
  | .scope c, k => opsIn c k
  | .rangeFunc _ _ a b, k => match opsIn a k with
    | some o => some o
    | none => opsIn b k
  | _, _ => none
def opsOf (f : Func) (k : Nat) : Array Oper := ((f.body.bind fun c => opsIn c k)).getD #[]
end Go.Proofs.YtccfmfifnbnlmaaGreatDoorW.PrintLast
end
section
-- PRINTED BY print.sh 35421559b90ae4d0a3588c463048766b98c2df88dd9212a6774a882060cdf62d: not written by this session
/-! ### 56. Four, five, six operations that may come up next, in any order -/
namespace Go.Proofs.YtccfmfifnbnlmaaGreatDoorW.PrintLast
section
variable {P : Program} {ops : Array Oper} {Q : Exit → Act → World → Prop} {md : Region.Mode} {S : World → Prop} {ds : List Nat} {T : Bool × List (List Nat × List Nat)}
end
end Go.Proofs.YtccfmfifnbnlmaaGreatDoorW.PrintLast
end
section
-- PRINTED BY print.sh 35421559b90ae4d0a3588c463048766b98c2df88dd9212a6774a882060cdf62d: not written by this session
/-! ### 52. A row that stays read whatever happens to a block (a set of blocks) doesn't lie there -/
namespace Go.Proofs.YtccfmfifnbnlmaaGreatDoorW.PrintWords
open Go.RowKit
namespace Kd
section
variable {α : Type} {d : Kd α} {W : World} {g n : Nat} {S ok : Nat → Prop} {A : Option Addr} {ad : Addr} {xs : List α}
end
end Kd
end Go.Proofs.YtccfmfifnbnlmaaGreatDoorW.PrintWords
end
section
-- PRINTED BY print.sh 35421559b90ae4d0a3588c463048766b98c2df88dd9212a6774a882060cdf62d: not written by this session
/-! ### 54. Behind orders that were drawn quietly: the same facts at the world's new name; a flat row's foot -/
namespace Go.Proofs.YtccfmfifnbnlmaaGreatDoorW.PrintWords
open Go.RowKit
section
variable {w w' u : World} {m B g : Nat} {o : Obj} {row : Option Nat} {S : Nat → Prop} {a : Addr} {v : Value}
end
namespace Kd
section
variable {α : Type} {d : Kd α} {e base n m : Nat} {ok : Nat → Prop} {w w' : World} {v : Value} {A : Option Addr} {xs : List α}
end
end Kd
end Go.Proofs.YtccfmfifnbnlmaaGreatDoorW.PrintWords
end
section
-- PRINTED BY print.sh 35421559b90ae4d0a3588c463048766b98c2df88dd9212a6774a882060cdf62d: not written by this session
/-! ### 53. '==' of structs as_ one Bool -/
namespace Go.Proofs.YtccfmfifnbnlmaaGreatDoorW.PrintWords
open Go.RowKit
section
variable {P : Program} {d : Nat} {xs ys : Array Value} {f : Field} {fs : List Field} {a b : Value} {r s : Bool} {w : World}
end
end Go.Proofs.YtccfmfifnbnlmaaGreatDoorW.PrintWords
end
section
-- PRINTED BY print.sh 35421559b90ae4d0a3588c463048766b98c2df88dd9212a6774a882060cdf62d: not written by this session
/-! ### 55. Reps told from the front, no append: for rows of one-cell elements and of wider ones -/
namespace Go.Proofs.YtccfmfifnbnlmaaGreatDoorW.PrintWords
/-- One cell an element. -/
theorem Reps.one {α : Type} {R : α → List Value → Prop} {ps : List α} {cs : List Value} {p : α} {v : Value} (hp : R p [v]) (h : Reps R 1 ps cs) : Reps R 1 (p :: ps) (v :: cs) := by
  refine ⟨by simp [h.1], fun j q hq => ?_⟩
  cases j with
  | zero =>
    simp only [List.getElem?_cons_zero, Option.some.injEq] at hq
    subst hq
    simpa using hp
  | succ j =>
    simp only [List.getElem?_cons_succ] at hq
    have h1 := h.2 j q hq
    simpa [Nat.mul_one] using h1
/-- More cells an element: told apart by the cells' list. -/
theorem Reps.front {α : Type} {R : α → List Value → Prop} {size : Nat} {ps : List α} {cs c all : List Value} {p : α} (hp : R p c) (hc : c.length = size) (h : Reps R size ps cs) (ha : c ++ cs = all) : Reps R size (p :: ps) all := by
  subst ha
  refine ⟨by rw [List.length_append, hc, h.1, List.length_cons, Nat.succ_mul, Nat.add_comm], fun j q hq => ?_⟩
  cases j with
  | zero =>
    simp only [List.getElem?_cons_zero, Option.some.injEq] at hq
    subst hq
    rw [Nat.zero_mul, List.drop_zero, List.take_append_of_le_length (by omega), List.take_of_length_le (by omega)]
    exact hp
  | succ j =>
    simp only [List.getElem?_cons_succ] at hq
    have h1 := h.2 j q hq
    rw [Nat.succ_mul, List.drop_append, List.drop_of_length_le (by rw [hc]; exact Nat.le_add_left _ _), List.nil_append, hc, Nat.add_sub_cancel]
    exact h1
theorem Reps.c2 {α : Type} {R : α → List Value → Prop} {ps : List α} {cs : List Value} {p : α} {va vb : Value} (hp : R p [va, vb]) (h : Reps R 2 ps cs) : Reps R 2 (p :: ps) (va :: vb :: cs) := Reps.front hp rfl h rfl
theorem Reps.c3 {α : Type} {R : α → List Value → Prop} {ps : List α} {cs : List Value} {p : α} {va vb vc : Value} (hp : R p [va, vb, vc]) (h : Reps R 3 ps cs) : Reps R 3 (p :: ps) (va :: vb :: vc :: cs) := Reps.front hp rfl h rfl
theorem Reps.c4 {α : Type} {R : α → List Value → Prop} {ps : List α} {cs : List Value} {p : α} {va vb vc vd : Value} (hp : R p [va, vb, vc, vd]) (h : Reps R 4 ps cs) : Reps R 4 (p :: ps) (va :: vb :: vc :: vd :: cs) := Reps.front hp rfl h rfl
theorem Reps.c5 {α : Type} {R : α → List Value → Prop} {ps : List α} {cs : List Value} {p : α} {va vb vc vd ve : Value} (hp : R p [va, vb, vc, vd, ve]) (h : Reps R 5 ps cs) : Reps R 5 (p :: ps) (va :: vb :: vc :: vd :: ve :: cs) := Reps.front hp rfl h rfl
theorem Reps.c6 {α : Type} {R : α → List Value → Prop} {ps : List α} {cs : List Value} {p : α} {va vb vc vd ve vf : Value} (hp : R p [va, vb, vc, vd, ve, vf]) (h : Reps R 6 ps cs) : Reps R 6 (p :: ps) (va :: vb :: vc :: vd :: ve :: vf :: cs) := Reps.front hp rfl h rfl
theorem Reps.c7 {α : Type} {R : α → List Value → Prop} {ps : List α} {cs : List Value} {p : α} {va vb vc vd ve vf vg : Value} (hp : R p [va, vb, vc, vd, ve, vf, vg]) (h : Reps R 7 ps cs) : Reps R 7 (p :: ps) (va :: vb :: vc :: vd :: ve :: vf :: vg :: cs) := Reps.front hp rfl h rfl
theorem Reps.c8 {α : Type} {R : α → List Value → Prop} {ps : List α} {cs : List Value} {p : α} {va vb vc vd ve vf vg vh : Value} (hp : R p [va, vb, vc, vd, ve, vf, vg, vh]) (h : Reps R 8 ps cs) : Reps R 8 (p :: ps) (va :: vb :: vc :: vd :: ve :: vf :: vg :: vh :: cs) := Reps.front hp rfl h rfl
theorem Reps.c10 {α : Type} {R : α → List Value → Prop} {ps : List α} {cs : List Value} {p : α} {va vb vc vd ve vf vg vh vi vj : Value} (hp : R p [va, vb, vc, vd, ve, vf, vg, vh, vi, vj]) (h : Reps R 10 ps cs) : Reps R 10 (p :: ps) (va :: vb :: vc :: vd :: ve :: vf :: vg :: vh :: vi :: vj :: cs) := Reps.front hp rfl h rfl
end Go.Proofs.YtccfmfifnbnlmaaGreatDoorW.PrintWords
end
section
-- PRINTED BY print.sh 35421559b90ae4d0a3588c463048766b98c2df88dd9212a6774a882060cdf62d: not written by this session
/-! ### 57. A region of open order by ONE relation over what is listed so far: each operation is shown once, whatever came up before it -/
namespace Go.Proofs.YtccfmfifnbnlmaaGreatDoorW.PrintLast
/-- Number i is listed too. -/
def up (b : Nat → Bool) (i : Nat) : Nat → Bool := fun j => if j = i then true else b j
/-- What is listed: O's operations by b, all else already. -/
def lof (n : Nat) (O : List Nat) (b : Nat → Bool) : List Bool := (List.range n).map fun j => if O.contains j then b j else true
/-- The destinations of what is listed are filled. -/
def putSel (a : Act) (b : Nat → Bool) : List (Nat × Tmp × Value) → Act
  | [] => a
  | e :: r => putSel (if b e.1 = true then a.put (some e.2.1) e.2.2 else a) b r
section
variable {P : Program} {ops : Array Oper} {Q : Exit → Act → World → Prop} {md : Region.Mode} {T : Bool × List (List Nat × List Nat)} {B : List Nat} {O : List Nat} {b : Nat → Bool} {i j n : Nat}
/-- The step of operation i: out of the relation, it not being listed, all it waits for being so, and nothing that waits for it. -/
def StepAt (P : Program) (ops : Array Oper) (Q : Exit → Act → World → Prop) (B : List Nat) (O : List Nat) (I : (Nat → Bool) → Act → World → Prop) (i : Nat) : Prop :=
  ∀ b a w, I b a w → b i = false → (∀ j, (O.contains j && (B.getD i 0).testBit j) = true → b j = true) → (∀ d, (O.contains d && (B.getD d 0).testBit i) = true → b d = false) →
    ∃ oi, ops[i]? = some oi ∧ ∀ K : Act → World → Prop, Shut (∀ a' w', I (up b i) a' w' → K a' w') → if Region.wanted oi (yielded ops a.tmps) = true then Oper.wp P oi a w K Q else K (a.put oi.dst undef) w
/-- Every edge goes to an earlier operation; what is listed already waits for nothing of O; O's numbers are the region's, each once. -/
def baseOk (T : List (List Nat × List Nat)) (O : List Nat) : Bool :=
  (List.range T.length).all (fun d => match T[d]? with
    | some r => (O.contains d || r.1.all fun n => !O.contains n) && r.1.all fun n => decide (n < d)
    | none => false) && O.all (fun i => decide (i < T.length)) && decide O.Nodup
def Closed (T : List (List Nat × List Nat)) (O : List Nat) (b : Nat → Bool) : Prop := ∀ d r, T[d]? = some r → O.contains d = true → b d = true → ∀ n ∈ r.1, O.contains n = true → b n = true
/-! The frame: what is listed has its destination filled. -/
end
end Go.Proofs.YtccfmfifnbnlmaaGreatDoorW.PrintLast
end
section
-- PRINTED BY print.sh 35421559b90ae4d0a3588c463048766b98c2df88dd9212a6774a882060cdf62d: not written by this session
namespace Go.Proofs.YtccfmfifnbnlmaaGreatDoorW.PrintWords
open Go.RowKit
end Go.Proofs.YtccfmfifnbnlmaaGreatDoorW.PrintWords
namespace Go.Proofs.YtccfmfifnbnlmaaGreatDoorW.PrintLast
section
variable {ops : Array Oper} {a : Act} {o og : Oper} {g : Nat} {t : Tmp} {u : Bool}
end
end Go.Proofs.YtccfmfifnbnlmaaGreatDoorW.PrintLast
end
section
-- PRINTED BY print.sh 35421559b90ae4d0a3588c463048766b98c2df88dd9212a6774a882060cdf62d: not written by this session
/-! ### 58. A guarded operation whose guard is known to want it: the same goal without the guard -/
namespace Go.Proofs.YtccfmfifnbnlmaaGreatDoorW.PrintWords
open Go.RowKit
section
variable {P : Program} {ops : Array Oper} {rest : List Oper} {o : Oper} {a : Act} {Q : Exit → Act → World → Prop} {W : World}
/-- The gate takes the guard off (hw: 'by rfl', 'by kernel_rfl': the guard's slot holds what is wanted). -/
theorem gate_guard (hw : Region.wanted o (yielded ops a.tmps) = true) (h : wpList P ops Q ({ o with guard := none } :: rest) a W) : wpList P ops Q (o :: rest) a W := by
  have h1 : Region.wanted { o with guard := none } (yielded ops a.tmps) = true := rfl
  unfold wpList at h ⊢
  rw [if_pos h1] at h
  rw [if_pos hw]
  exact h
end
end Go.Proofs.YtccfmfifnbnlmaaGreatDoorW.PrintWords
end
section
/- dossierref05.plain, walked: it writes into its own row. The text was printed by this session's program (p2, wip/p2/fake_plain.py). -/
set_option linter.unusedVariables false
set_option linter.unusedSimpArgs false
namespace Go.Proofs.YtccfmfifnbnlmaaGreatDoor.Pl
open Go.RowKit Go.Proofs.YtccfmfifnbnlmaaGreatDoorH Go.Proofs.YtccfmfifnbnlmaaGreatDoorW.PrintWords Go.Proofs.YtccfmfifnbnlmaaGreatDoorW.PrintLast Go.Proofs.YtccfmfifnbnlmaaGreatDoorW.PrintMore
attribute [local go_sem] max2_int min2_int max_two min_two max_three min_three max_four min_four
theorem info5 : (Tryz.prog.info? 5).map (fun i => (i.zero,i.size,i.bytes)) = some (some (.int .u8 0),1,1) := by kernel_rfl
/-! ### dossierref05_plain -/
mutual
def dossierref05_plain.l0 : Nat → List Int → Bool → List Int → List Int → Int → Int → Option (List Int)
 | 0,_,_,_,_,_,_ => none
 | k + 1,x0,x1,x5,x10,x11,x12 => if x12 < x11 then (if 0 ≤ x12 then (if x12 < (x10.length : Int) then (if (rd x10 x12) = 13 then (if (wrap64 (x12 + 1)) < (x0.length : Int) then (if 0 ≤ (wrap64 (x12 + 1)) then (dossierref05_plain.j1 k x0 x1 x5 (rd x10 x12) x10 x11 x12 ((rd x0 (wrap64 (x12 + 1))) == 10)) else (none)) else (dossierref05_plain.j1 k x0 x1 x5 (rd x10 x12) x10 x11 x12 false)) else (dossierref05_plain.j1 k x0 x1 x5 (rd x10 x12) x10 x11 x12 false)) else (none)) else (none)) else (dossierref05_plain.l1 k x1 x5 (x5.length : Int) 0)
def dossierref05_plain.j1 : Nat → List Int → Bool → List Int → Int → List Int → Int → Int → Bool → Option (List Int)
 | 0,_,_,_,_,_,_,_,_ => none
 | k + 1,x0,x1,x5,x7,x10,x11,x12,x21 => if x21 = true then (dossierref05_plain.l0 k x0 x1 x5 x10 x11 (wrap64 (x12 + 1))) else (if x7 = 13 then (if x5.length < 140737488355328 then (dossierref05_plain.l0 k x0 x1 (x5 ++ [10]) x10 x11 (wrap64 (x12 + 1))) else (none)) else (if x5.length < 140737488355328 then (dossierref05_plain.l0 k x0 x1 (x5 ++ [x7]) x10 x11 (wrap64 (x12 + 1))) else (none)))
def dossierref05_plain.l1 : Nat → Bool → List Int → Int → Int → Option (List Int)
 | 0,_,_,_,_ => none
 | k + 1,x1,x5,x47,x48 => if x48 < x47 then (if 0 ≤ x48 then (if x48 < (x5.length : Int) then (if x1 = true then (if (rd x5 x48) = 9 then (dossierref05_plain.l1 k x1 (x5.set (x48 : Int).toNat 32) x47 (wrap64 (x48 + 1))) else (if (rd x5 x48) = 10 then (dossierref05_plain.l1 k x1 (x5.set (x48 : Int).toNat 32) x47 (wrap64 (x48 + 1))) else (dossierref05_plain.l1 k x1 x5 x47 (wrap64 (x48 + 1))))) else (dossierref05_plain.l1 k x1 x5 x47 (wrap64 (x48 + 1)))) else (none)) else (none)) else (some x5)
end
def dossierref05_plain.f (k : Nat) (l0 : List Int) (a1 : Bool) : Option (List Int) := dossierref05_plain.l0 k l0 a1 ([] : List Int) l0 (l0.length : Int) 0
theorem dossierref05_plain.mono_l : ∀ k,(∀ y0 y1 y2 y3 y4 y5,LeO (dossierref05_plain.l0 k y0 y1 y2 y3 y4 y5) (dossierref05_plain.l0 (k + 1) y0 y1 y2 y3 y4 y5)) ∧ (∀ y0 y1 y2 y3 y4 y5 y6 y7,LeO (dossierref05_plain.j1 k y0 y1 y2 y3 y4 y5 y6 y7) (dossierref05_plain.j1 (k + 1) y0 y1 y2 y3 y4 y5 y6 y7)) ∧ (∀ y0 y1 y2 y3,LeO (dossierref05_plain.l1 k y0 y1 y2 y3) (dossierref05_plain.l1 (k + 1) y0 y1 y2 y3))
 | 0 => ⟨fun _ _ _ _ _ _ r h => by simp [dossierref05_plain.l0] at h,fun _ _ _ _ _ _ _ _ r h => by simp [dossierref05_plain.j1] at h,fun _ _ _ _ r h => by simp [dossierref05_plain.l1] at h⟩
 | k + 1 => by
  obtain ⟨ih0,ih1,ih2⟩ := dossierref05_plain.mono_l k
  refine ⟨?_,?_,?_⟩
  · intro y0 y1 y2 y3 y4 y5
    unfold dossierref05_plain.l0
    repeat' first
    | (with_reducible exact ih0 _ _ _ _ _ _)
    | (with_reducible exact ih1 _ _ _ _ _ _ _ _)
    | (with_reducible exact ih2 _ _ _ _)
    | (with_reducible exact LeO.refl _)
    | (with_reducible exact LeO.none _)
    | (with_reducible refine LeO.ite ?_ ?_)
    | (with_reducible refine LeO.bind ?_ (fun _ => ?_))
    | exact ih0 _ _ _ _ _ _
    | exact ih1 _ _ _ _ _ _ _ _
    | exact ih2 _ _ _ _
    | exact LeO.none _
    | refine LeO.ite ?_ ?_
    | refine LeO.bind ?_ (fun _ => ?_)
  · intro y0 y1 y2 y3 y4 y5 y6 y7
    unfold dossierref05_plain.j1
    repeat' first
    | (with_reducible exact ih0 _ _ _ _ _ _)
    | (with_reducible exact ih1 _ _ _ _ _ _ _ _)
    | (with_reducible exact ih2 _ _ _ _)
    | (with_reducible exact LeO.refl _)
    | (with_reducible exact LeO.none _)
    | (with_reducible refine LeO.ite ?_ ?_)
    | (with_reducible refine LeO.bind ?_ (fun _ => ?_))
    | exact ih0 _ _ _ _ _ _
    | exact ih1 _ _ _ _ _ _ _ _
    | exact ih2 _ _ _ _
    | exact LeO.none _
    | refine LeO.ite ?_ ?_
    | refine LeO.bind ?_ (fun _ => ?_)
  · intro y0 y1 y2 y3
    unfold dossierref05_plain.l1
    repeat' first
    | (with_reducible exact ih0 _ _ _ _ _ _)
    | (with_reducible exact ih1 _ _ _ _ _ _ _ _)
    | (with_reducible exact ih2 _ _ _ _)
    | (with_reducible exact LeO.refl _)
    | (with_reducible exact LeO.none _)
    | (with_reducible refine LeO.ite ?_ ?_)
    | (with_reducible refine LeO.bind ?_ (fun _ => ?_))
    | exact ih0 _ _ _ _ _ _
    | exact ih1 _ _ _ _ _ _ _ _
    | exact ih2 _ _ _ _
    | exact LeO.none _
    | refine LeO.ite ?_ ?_
    | refine LeO.bind ?_ (fun _ => ?_)
theorem dossierref05_plain.mono : ∀ a0 a1 k,LeO (dossierref05_plain.f k a0 a1) (dossierref05_plain.f (k + 1) a0 a1) := by
 intro a0 a1 k
 obtain ⟨ih0,ih1,ih2⟩ := dossierref05_plain.mono_l k
 unfold dossierref05_plain.f
 repeat' first
  | (with_reducible exact ih0 _ _ _ _ _ _)
  | (with_reducible exact ih1 _ _ _ _ _ _ _ _)
  | (with_reducible exact ih2 _ _ _ _)
  | (with_reducible exact LeO.refl _)
  | (with_reducible exact LeO.none _)
  | (with_reducible refine LeO.ite ?_ ?_)
  | (with_reducible refine LeO.bind ?_ (fun _ => ?_))
  | exact ih0 _ _ _ _ _ _
  | exact ih1 _ _ _ _ _ _ _ _
  | exact ih2 _ _ _ _
  | exact LeO.none _
  | refine LeO.ite ?_ ?_
  | refine LeO.bind ?_ (fun _ => ?_)
set_option maxHeartbeats 8000000 in
set_option maxRecDepth 100000 in
theorem dossierref05_plain.calls (k : Nat) (A0 : Option Addr) (c0 : Nat) (l0 : List Int) (a1 : Bool) (r : List Int) (w : World) (hr0 : Kd.C (Kd.int .u8) w A0 l0.length l0) (hc0 : l0.length ≤ c0) (h : dossierref05_plain.f k l0 a1 = some r) :
 Calls Tryz.prog 38 #[.slice A0 l0.length c0,.bool a1] w fun e w' => ∃ v0_ : Value,e = .returned (v0_) ∧ Kd.R (Kd.int .u8) 5 w' w.heap.size (fun _ => True) v0_ r ∧ Below w.heap.size w w' := by
 have HR0 := Aside0.mk hr0
 have HC0 := Aside0.mk hc0
 clear hr0 hc0
 have HB := Aside0.mk (Below.refl w.heap.size w)
 have H : (dossierref05_plain.l0 k l0 a1 ([] : List Int) l0 (l0.length : Int) 0) = some r := h
 clear h
 have H' := Aside0.mk H
 clear H
 go_enter Tryz.func38,Tryz.ntmps38
 go_wp2
 go_loopg [5,12] k (fun kq v5 v12 w' => ∃ (x5_1 : List Int) (x12_1 : Int),v12 = .int .i64 x12_1 ∧ Aside0 (dossierref05_plain.l0 kq l0 a1 x5_1 l0 (l0.length : Int) x12_1 = some r) ∧ Aside0 (kq ≤ k) ∧ Aside0 (Kd.R (Kd.int .u8) 5 w' w.heap.size (fun _ => True) v5 x5_1) ∧ Aside0 (Below w.heap.size w w'))
 case atStart => exact ⟨(([] : List Int)),(0),(by first | rfl | (simp; done) | (simp [*]; done)),H',⟨Nat.le_refl _⟩,⟨by first | exact Kd.R_nil _ _ _ _ _ | exact Kd.N_nil _ _ _ _ _ | exact Kd.V_nil _ _ _ _ _ | exact Kd.Q_nil _ _ _ _ _ | exact Kd.S_nil _ _ _ _ _⟩,⟨by repeat (first | (with_reducible first | exact HB.out | apply below_alloc | apply pw_below_drewN | apply below_drew1 | apply bytes_below1) | exact HB.out)⟩⟩
 case round =>
  clear H'
  try clear p2
  obtain ⟨x5_1,x12_1,rfl,HA,HK1,HO_5,HB⟩ := hrel
  cases gk with
  | zero => exact absurd HA.out (by simp [dossierref05_plain.l0])
  | succ k1 =>
   have H := HA.out
   clear HA
   simp only [dossierref05_plain.l0] at H
   by_cases c3 : x12_1 < (l0.length : Int)
   · rw [if_pos c3] at H
     have c3b0 : decide (x12_1 < (l0.length : Int)) = true := decide_eq_true c3
     clear c3
     by_cases c4 : 0 ≤ x12_1
     · rw [if_pos c4] at H
       have c4b0 : decide (0 ≤ x12_1) = true := decide_eq_true c4
       clear c4
       by_cases c5 : x12_1 < (l0.length : Int)
       · rw [if_pos c5] at H
         have c5b0 : decide (x12_1 < (l0.length : Int)) = true := decide_eq_true c5
         clear c5
         have HC6 := Aside0.mk H
         clear H
         have p316 : 0 ≤ (x12_1 : Int) := of_decide_eq_true (by first | (with_reducible assumption) | assumption)
         have q316 : x12_1 < (l0.length : Int) := of_decide_eq_true (by first | (with_reducible assumption) | assumption)
         obtain ⟨ad316,e316,hx316_0⟩ := Kd.at_int HR0.out x12_1 p316 q316
         cases e316
         replace hx316_0 := (HB.out.cell (World.block_lt_of_cell? w _ hx316_0)).trans hx316_0
         replace p316 := eq_true p316
         replace q316 := eq_true q316
         go_upto_region 6 with (fail)
         go_cut [21] (fun v21 wc => ∃ (kq : Nat) (x21_5 : Bool),v21 = .bool x21_5 ∧ Aside0 (dossierref05_plain.j1 kq l0 a1 x5_1 (rd l0 x12_1) l0 (l0.length : Int) x12_1 x21_5 = some r) ∧ Aside0 (kq ≤ k1) ∧ Aside0 (Kd.R (Kd.int .u8) 5 wc w.heap.size (fun _ => True) u5 x5_1) ∧ Aside0 (Below w.heap.size w wc))
         case first =>
          have H := HC6.out
          clear HC6
          by_cases c7 : (rd l0 x12_1) = 13
          · rw [if_pos c7] at H
            have c7b0 : ((rd l0 x12_1) == 13) = true := beq_iff_eq.mpr c7
            have c7b1 : ((rd l0 x12_1) != 13) = false := bne_eq_false_iff_eq.mpr c7
            clear c7
            (first | rw [c7b0] | (simp only [i64_w,i32_w]; rw [c7b0]) | skip)
            by_cases c8 : (wrap64 (x12_1 + 1)) < (l0.length : Int)
            · rw [if_pos c8] at H
              have c8b0 : decide ((wrap64 (x12_1 + 1)) < (l0.length : Int)) = true := decide_eq_true c8
              clear c8
              obtain ⟨ji9,hji9⟩ : ∃ j_ : Int,(wrap64 (x12_1 + 1)) = j_ := ⟨_,rfl⟩
              replace H : (if 0 ≤ (ji9) then (dossierref05_plain.j1 k1 l0 a1 x5_1 (rd l0 x12_1) l0 (l0.length : Int) x12_1 ((rd l0 (ji9)) == 10)) else (none)) = some r := by first | (rw [hji9] at H; exact H) | (simp only [hji9] at H ⊢; exact H)
              (try rw [hji9] at c8b0)
              have hji9w : (IntKind.i64.wrap (x12_1 + 1)) = ji9 := (i64_w _).trans hji9
              by_cases c10 : 0 ≤ (ji9)
              · rw [if_pos c10] at H
                have c10b0 : decide (0 ≤ (ji9)) = true := decide_eq_true c10
                clear c10
                have H' := Aside0.mk H
                clear H
                have p317 : 0 ≤ ((ji9) : Int) := of_decide_eq_true (by first | (with_reducible assumption) | assumption)
                have q317 : (ji9) < (l0.length : Int) := of_decide_eq_true (by first | (with_reducible assumption) | assumption)
                obtain ⟨ad317,e317,hx317_0⟩ := Kd.at_int HR0.out (ji9) p317 q317
                obtain rfl : ad316 = ad317 := (by injection e317)
                replace hx317_0 := (HB.out.cell (World.block_lt_of_cell? w _ hx317_0)).trans hx317_0
                replace p317 := eq_true p317
                replace q317 := eq_true q317
                go_wp2
                go_meet
                case rel => exact ⟨_,(((rd l0 (ji9)) == 10)),(by first | rfl | (simp; done) | (simp only [← hji9] <;> (first | rfl | simp)) | (simp [*]; done)),H',⟨by have := HK1.out; first | omega | exact Nat.le_refl _⟩,⟨by (with_reducible repeat (first | apply Kd.R_alloc | apply R_bytes | apply Kd.R_drewN | apply Kd.R_drew)); exact HO_5.out⟩,⟨by repeat (first | (with_reducible first | exact HB.out | apply below_alloc | apply pw_below_drewN | apply below_drew1 | apply bytes_below1) | exact HB.out)⟩⟩
              · rw [if_neg c10] at H
                exact absurd H (by simp)
            · rw [if_neg c8] at H
              have c8b0 : decide ((wrap64 (x12_1 + 1)) < (l0.length : Int)) = false := decide_eq_false c8
              clear c8
              have H' := Aside0.mk H
              clear H
              go_wp2
              go_meet
              case rel => exact ⟨_,(false),(by first | rfl | (simp; done) | (simp [*]; done)),H',⟨by have := HK1.out; first | omega | exact Nat.le_refl _⟩,⟨by (with_reducible repeat (first | apply Kd.R_alloc | apply R_bytes | apply Kd.R_drewN | apply Kd.R_drew)); exact HO_5.out⟩,⟨by repeat (first | (with_reducible first | exact HB.out | apply below_alloc | apply pw_below_drewN | apply below_drew1 | apply bytes_below1) | exact HB.out)⟩⟩
          · rw [if_neg c7] at H
            have c7b0 : ((rd l0 x12_1) == 13) = false := beq_eq_false_iff_ne.mpr c7
            have c7b1 : ((rd l0 x12_1) != 13) = true := bne_iff_ne.mpr c7
            (first | rw [c7b0] | (simp only [i64_w,i32_w]; rw [c7b0]) | skip)
            have H' := Aside0.mk H
            clear H
            go_wp2
            go_meet
            case rel => exact ⟨_,(false),(by first | rfl | (simp; done) | (simp [*]; done)),H',⟨by have := HK1.out; first | omega | exact Nat.le_refl _⟩,⟨by (with_reducible repeat (first | apply Kd.R_alloc | apply R_bytes | apply Kd.R_drewN | apply Kd.R_drew)); exact HO_5.out⟩,⟨by repeat (first | (with_reducible first | exact HB.out | apply below_alloc | apply pw_below_drewN | apply below_drew1 | apply bytes_below1) | exact HB.out)⟩⟩
         case rest =>
          clear HC6
          try clear c1
          try clear p2
          try clear c3
          try clear c3b0
          try clear p3
          try clear q3
          try clear hx3
          try clear c4
          try clear c4b0
          try clear c5
          try clear c5b0
          try clear p6
          try clear c7
          try clear c7b0
          try clear c7b1
          try clear c8
          try clear c8b0
          try clear c10
          try clear c10b0
          try clear hx316_0
          try clear hx317_0
          try clear p2
          try clear p316
          try clear p317
          try clear q316
          try clear q317
          obtain ⟨kq,x21_5,rfl,HA,HJ5,HO_5,HB⟩ := hcut
          cases kq with
          | zero => exact absurd HA.out (by simp [dossierref05_plain.j1])
          | succ kj5 =>
           have H := HA.out
           clear HA
           simp only [dossierref05_plain.j1] at H
           by_cases c11 : x21_5 = true
           · subst c11
             have H1 : (dossierref05_plain.l0 kj5 l0 a1 x5_1 l0 (l0.length : Int) (wrap64 (x12_1 + 1))) = some r := by rw [if_pos rfl] at H; exact H
             clear H
             have H := H1
             clear H1
             have H' := Aside0.mk H
             clear H
             go_wp2
             go_roundg kj5
             case measure => have := HK1.out; have := HJ5.out; omega
             case rel => exact ⟨(x5_1),(wrap64 (x12_1 + 1)),(by first | rfl | (simp; done) | (simp [*]; done)),H',⟨by have := HK1.out; have := HJ5.out; omega⟩,⟨by (with_reducible repeat (first | apply Kd.R_alloc | apply R_bytes | apply Kd.R_drewN | apply Kd.R_drew)); exact HO_5.out⟩,⟨by repeat (first | (with_reducible first | exact HB.out | apply below_alloc | apply pw_below_drewN | apply below_drew1 | apply bytes_below1) | exact HB.out)⟩⟩
           · replace c11 := Bool.eq_false_iff.mpr c11
             subst c11
             have H1 : (if (rd l0 x12_1) = 13 then (if x5_1.length < 140737488355328 then (dossierref05_plain.l0 kj5 l0 a1 (x5_1 ++ [10]) l0 (l0.length : Int) (wrap64 (x12_1 + 1))) else (none)) else (if x5_1.length < 140737488355328 then (dossierref05_plain.l0 kj5 l0 a1 (x5_1 ++ [(rd l0 x12_1)]) l0 (l0.length : Int) (wrap64 (x12_1 + 1))) else (none))) = some r := by rw [if_neg (show ¬ (false = true) by decide)] at H; exact H
             clear H
             have H := H1
             clear H1
             by_cases c12 : (rd l0 x12_1) = 13
             · rw [if_pos c12] at H
               have c12b0 : ((rd l0 x12_1) == 13) = true := beq_iff_eq.mpr c12
               have c12b1 : ((rd l0 x12_1) != 13) = false := bne_eq_false_iff_eq.mpr c12
               clear c12
               by_cases c13 : x5_1.length < 140737488355328
               · rw [if_pos c13] at H
                 have LMc13 := Aside0.mk c13
                 clear c13
                 obtain ⟨y318,hy318⟩ : ∃ y_ : List Int,y_ = (x5_1 ++ [10]) := ⟨_,rfl⟩
                 replace H : (dossierref05_plain.l0 kj5 l0 a1 y318 l0 (l0.length : Int) (wrap64 (x12_1 + 1))) = some r := by first | (rw [hy318]; with_reducible exact H) | (have H2_ := (Option.bind_some _ _).symm.trans H; rw [hy318]; with_reducible exact H2_) | (have H2_ := (Option.bind_some _ _).symm.trans H; with_reducible exact H2_) | with_reducible exact H | (rw [hy318]; exact H) | exact H
                 have Ny318 := Aside0.mk hy318
                 clear hy318
                 have H' := Aside0.mk H
                 clear H
                 go_wp2_with (first | ((with_reducible refine gate_builtin (b := .append) (xs := #[.tmp 42,.tmp 43]) rfl ?_); (try (refine gate_guard (by rfl) ?_; dsimp only)); at_builtin; refine Kd.R_append (Kd.int .u8) (w0 := w) w.heap.size rfl (.tmp 42) (.tmp 43) 22 5 (.int .u8 0) 1 rfl Tryz.underlying22 info5 rfl (by decide) (by omega) u5 x5_1 10 [.int .u8 10] (fun _ => True) (fun _ => False) rfl rfl ?aP (fun _ hk => hk.elim) ?aF ?aO ?aB ?aS ?aL ?_; (case aP => exact rfl); (case aB => exact (by repeat (first | (with_reducible first | exact HB.out | apply below_alloc | apply pw_below_drewN | apply below_drew1 | apply bytes_below1) | exact HB.out))); (case aF => exact (fun _ _ => trivial)); (case aO => exact (by (with_reducible repeat (first | apply Kd.R_alloc | apply R_bytes | apply Kd.R_drewN | apply Kd.R_drew)); exact HO_5.out)); (case aS => exact (below_size (by repeat (first | (with_reducible first | exact HB.out | apply below_alloc | apply pw_below_drewN | apply below_drew1 | apply bytes_below1) | exact HB.out)))); (case aL => have := LMc13.out; omega); intro v319 w14 ho hb hg hat; rw [← Ny318.out] at ho; have n0_ := Aside0.mk (hb); have n1_ := Aside0.mk (ho); clear HB; clear HO_5; have HB := n0_; have HO320 := n1_; clear n0_ n1_; clear ho hb hg hat))
                 go_roundg kj5
                 case measure => have := HK1.out; have := HJ5.out; omega
                 case rel => exact ⟨(y318),(wrap64 (x12_1 + 1)),(by first | rfl | (simp; done) | (simp [*]; done)),H',⟨by have := HK1.out; have := HJ5.out; omega⟩,⟨by (with_reducible repeat (first | apply Kd.R_alloc | apply R_bytes | apply Kd.R_drewN | apply Kd.R_drew)); exact HO320.out⟩,⟨by repeat (first | (with_reducible first | exact HB.out | apply below_alloc | apply pw_below_drewN | apply below_drew1 | apply bytes_below1) | exact HB.out)⟩⟩
               · rw [if_neg c13] at H
                 exact absurd H (by simp)
             · rw [if_neg c12] at H
               have c12b0 : ((rd l0 x12_1) == 13) = false := beq_eq_false_iff_ne.mpr c12
               have c12b1 : ((rd l0 x12_1) != 13) = true := bne_iff_ne.mpr c12
               by_cases c15 : x5_1.length < 140737488355328
               · rw [if_pos c15] at H
                 have LMc15 := Aside0.mk c15
                 clear c15
                 obtain ⟨y321,hy321⟩ : ∃ y_ : List Int,y_ = (x5_1 ++ [(rd l0 x12_1)]) := ⟨_,rfl⟩
                 replace H : (dossierref05_plain.l0 kj5 l0 a1 y321 l0 (l0.length : Int) (wrap64 (x12_1 + 1))) = some r := by first | (rw [hy321]; with_reducible exact H) | (have H2_ := (Option.bind_some _ _).symm.trans H; rw [hy321]; with_reducible exact H2_) | (have H2_ := (Option.bind_some _ _).symm.trans H; with_reducible exact H2_) | with_reducible exact H | (rw [hy321]; exact H) | exact H
                 have Ny321 := Aside0.mk hy321
                 clear hy321
                 have H' := Aside0.mk H
                 clear H
                 go_wp2_with (first | ((with_reducible refine gate_builtin (b := .append) (xs := #[.tmp 17,.tmp 19]) rfl ?_); (try (refine gate_guard (by rfl) ?_; dsimp only)); at_builtin; refine Kd.R_append (Kd.int .u8) (w0 := w) w.heap.size rfl (.tmp 17) (.tmp 19) 22 5 (.int .u8 0) 1 rfl Tryz.underlying22 info5 rfl (by decide) (by omega) u5 x5_1 (rd l0 x12_1) [.int .u8 (rd l0 x12_1)] (fun _ => True) (fun _ => False) rfl rfl ?aP (fun _ hk => hk.elim) ?aF ?aO ?aB ?aS ?aL ?_; (case aP => exact rfl); (case aB => exact (by repeat (first | (with_reducible first | exact HB.out | apply below_alloc | apply pw_below_drewN | apply below_drew1 | apply bytes_below1) | exact HB.out))); (case aF => exact (fun _ _ => trivial)); (case aO => exact (by (with_reducible repeat (first | apply Kd.R_alloc | apply R_bytes | apply Kd.R_drewN | apply Kd.R_drew)); exact HO_5.out)); (case aS => exact (below_size (by repeat (first | (with_reducible first | exact HB.out | apply below_alloc | apply pw_below_drewN | apply below_drew1 | apply bytes_below1) | exact HB.out)))); (case aL => have := LMc15.out; omega); intro v322 w16 ho hb hg hat; rw [← Ny321.out] at ho; have n0_ := Aside0.mk (hb); have n1_ := Aside0.mk (ho); clear HB; clear HO_5; have HB := n0_; have HO323 := n1_; clear n0_ n1_; clear ho hb hg hat))
                 go_roundg kj5
                 case measure => have := HK1.out; have := HJ5.out; omega
                 case rel => exact ⟨(y321),(wrap64 (x12_1 + 1)),(by first | rfl | (simp; done) | (simp [*]; done)),H',⟨by have := HK1.out; have := HJ5.out; omega⟩,⟨by (with_reducible repeat (first | apply Kd.R_alloc | apply R_bytes | apply Kd.R_drewN | apply Kd.R_drew)); exact HO323.out⟩,⟨by repeat (first | (with_reducible first | exact HB.out | apply below_alloc | apply pw_below_drewN | apply below_drew1 | apply bytes_below1) | exact HB.out)⟩⟩
               · rw [if_neg c15] at H
                 exact absurd H (by simp)
       · rw [if_neg c5] at H
         exact absurd H (by simp)
     · rw [if_neg c4] at H
       exact absurd H (by simp)
   · rw [if_neg c3] at H
     have c3b0 : decide (x12_1 < (l0.length : Int)) = false := decide_eq_false c3
     clear c3
     have H' := Aside0.mk H
     clear H
     obtain ⟨Ao17,co17,eo17⟩ := Kd.R_slice HO_5.out
     subst eo17
     go_wp2
     go_loopg [48] k1 (fun kq v48 w' => ∃ (x5_2 : List Int) (x48_2 : Int),v48 = .int .i64 x48_2 ∧ Aside0 (dossierref05_plain.l1 kq a1 x5_2 (x5_1.length : Int) x48_2 = some r) ∧ Aside0 (kq ≤ k1) ∧ Aside0 (Kd.R (Kd.int .u8) 5 w' w.heap.size (fun _ => True) (.slice Ao17 x5_1.length co17) x5_2) ∧ Aside0 (Below w.heap.size w w'))
     case atStart => exact ⟨(x5_1),(0),(by first | rfl | (simp; done) | (simp [*]; done)),H',⟨Nat.le_refl _⟩,⟨by (with_reducible repeat (first | apply Kd.R_alloc | apply R_bytes | apply Kd.R_drewN | apply Kd.R_drew)); exact HO_5.out⟩,⟨by repeat (first | (with_reducible first | exact HB.out | apply below_alloc | apply pw_below_drewN | apply below_drew1 | apply bytes_below1) | exact HB.out)⟩⟩
     case round =>
      clear H'
      try clear c1
      try clear p2
      try clear c3
      try clear c3b0
      try clear p3
      try clear q3
      try clear hx3
      try clear c4
      try clear c4b0
      try clear c5
      try clear c5b0
      try clear p6
      try clear c7
      try clear c7b0
      try clear c7b1
      try clear c8
      try clear c8b0
      try clear c10
      try clear c10b0
      try clear c11
      try clear c12
      try clear c12b0
      try clear c12b1
      try clear c13
      try clear c15
      try clear hx316_0
      try clear hx317_0
      try clear p2
      try clear p3
      try clear p316
      try clear p317
      try clear p6
      try clear q3
      try clear q316
      try clear q317
      obtain ⟨x5_2,x48_2,rfl,HA,HK2,HO_5,HB⟩ := hrel
      have hl5_2 := (Kd.R_reads' HO_5.out).1
      rw [hl5_2] at HO_5
      (try simp only [hl5_2])
      cases gk with
      | zero => exact absurd HA.out (by simp [dossierref05_plain.l1])
      | succ k2 =>
       have H := HA.out
       clear HA
       simp only [dossierref05_plain.l1] at H
       by_cases c18 : x48_2 < (x5_1.length : Int)
       · rw [if_pos c18] at H
         have c18b0 : decide (x48_2 < (x5_1.length : Int)) = true := decide_eq_true c18
         clear c18
         by_cases c19 : 0 ≤ x48_2
         · rw [if_pos c19] at H
           have c19b0 : decide (0 ≤ x48_2) = true := decide_eq_true c19
           clear c19
           by_cases c20 : x48_2 < (x5_2.length : Int)
           · rw [if_pos c20] at H
             have c20b0 : decide (x48_2 < (x5_2.length : Int)) = true := decide_eq_true c20
             clear c20
             by_cases c21 : a1 = true
             · subst c21
               have H1 : (if (rd x5_2 x48_2) = 9 then (dossierref05_plain.l1 k2 true (x5_2.set (x48_2 : Int).toNat 32) (x5_1.length : Int) (wrap64 (x48_2 + 1))) else (if (rd x5_2 x48_2) = 10 then (dossierref05_plain.l1 k2 true (x5_2.set (x48_2 : Int).toNat 32) (x5_1.length : Int) (wrap64 (x48_2 + 1))) else (dossierref05_plain.l1 k2 true x5_2 (x5_1.length : Int) (wrap64 (x48_2 + 1))))) = some r := by rw [if_pos rfl] at H; exact H
               clear H
               have H := H1
               clear H1
               by_cases c22 : (rd x5_2 x48_2) = 9
               · rw [if_pos c22] at H
                 have c22b0 : ((rd x5_2 x48_2) == 9) = true := beq_iff_eq.mpr c22
                 have c22b1 : ((rd x5_2 x48_2) != 9) = false := bne_eq_false_iff_eq.mpr c22
                 clear c22
                 obtain ⟨y325,hy325⟩ : ∃ y_ : List Int,y_ = (x5_2.set (x48_2 : Int).toNat 32) := ⟨_,rfl⟩
                 replace H : (dossierref05_plain.l1 k2 true y325 (x5_1.length : Int) (wrap64 (x48_2 + 1))) = some r := by first | (rw [hy325]; with_reducible exact H) | (have H2_ := (Option.bind_some _ _).symm.trans H; rw [hy325]; with_reducible exact H2_) | (have H2_ := (Option.bind_some _ _).symm.trans H; with_reducible exact H2_) | with_reducible exact H | (rw [hy325]; exact H) | exact H
                 have Ny325 := Aside0.mk hy325
                 clear hy325
                 have H' := Aside0.mk H
                 clear H
                 have p324 : 0 ≤ (x48_2 : Int) := of_decide_eq_true (by first | (with_reducible assumption) | assumption)
                 have q324 : x48_2 < (x5_2.length : Int) := of_decide_eq_true (by first | (with_reducible assumption) | assumption)
                 obtain ⟨ad324,e324,hx324_0⟩ := Kd.at_int (Kd.R_reads' HO_5.out).2.2 x48_2 p324 q324
                 cases e324
                 replace p324 := eq_true p324
                 replace q324 := eq_true q324
                 have p23 : 0 ≤ (x48_2 : Int) := of_decide_eq_true (by first | (with_reducible assumption) | assumption)
                 have q23 : (x48_2 : Int) < ((x5_2.length : Int) : Int) := of_decide_eq_true (by first | (with_reducible assumption) | assumption)
                 obtain ⟨go23,co23,eo23,gb23,gl23,cl23,HG23⟩ := Kd.R_form HO_5.out (by omega)
                 (first | cases eo23 | (injection eo23 with ea_ en_ ec_; (first | subst ea_ | (injection ea_ with ea_; subst ea_)); subst ec_; clear en_))
                 have GB23 := Aside0.mk gb23
                 have GG23 := Aside0.mk HG23
                 clear gb23 gl23 HG23
                 (first | simp only [add_plain] at hx324_0 | skip)
                 obtain ⟨hx23_0,hf23_0⟩ := Kd.R_celln 0 HO_5.out (x48_2 : Int) p23 q23
                 replace p23 := eq_true p23
                 replace q23 := eq_true q23
                 have HP24 := Kd.R_putg HO_5.out (x48_2 : Int) 32
                 go_wp2_with (first | ((with_reducible refine gate_store (t := 5) (p := 64) rfl ?_); refine store_event (t := 5) (p := 64) (v := ?vo_w25) (w1 := (wr.setCell ⟨go23,(x48_2 : Int).toNat,none⟩ (.int .u8 32))) ?hg ?ho ?hn ?hr ?_; (case ho => rfl); (case hg => rfl); (case hn => rfl); (case hr => first | (go_simp; done) | (go_simp; rfl)); intro w25 hw; have hg : wr.grownBy w25 (some go23) := (by rw [hw]; exact HP24.2); have hp_ : Kd.R (Kd.int .u8) 5 w25 w.heap.size (fun _ => True) (.slice (some ⟨go23,0,none⟩) x5_2.length co17) y325 := (by rw [hw,Ny325.out]; exact HP24.1); clear HP24; have n0_ := Aside0.mk (hp_); have n1_ := Aside0.mk ((by rw [hw]; exact below_set (HB.out) GB23.out : Below w.heap.size w w25)); clear HO_5; clear HB; have HO_5 := n0_; have HB := n1_; clear n0_ n1_; clear hg hw hp_))
                 (try simp only [← hl5_2])
                 go_roundg k2
                 case measure => have := HK1.out; have := HK2.out; omega
                 case rel => exact ⟨(y325),(wrap64 (x48_2 + 1)),(by first | rfl | (simp; done) | (simp [*]; done)),H',⟨by have := HK1.out; have := HK2.out; omega⟩,⟨by (try simp only [hl5_2]); (with_reducible repeat (first | apply Kd.R_alloc | apply R_bytes | apply Kd.R_drewN | apply Kd.R_drew)); exact HO_5.out⟩,⟨by repeat (first | (with_reducible first | exact HB.out | apply below_alloc | apply pw_below_drewN | apply below_drew1 | apply bytes_below1) | exact HB.out)⟩⟩
               · rw [if_neg c22] at H
                 have c22b0 : ((rd x5_2 x48_2) == 9) = false := beq_eq_false_iff_ne.mpr c22
                 have c22b1 : ((rd x5_2 x48_2) != 9) = true := bne_iff_ne.mpr c22
                 by_cases c26 : (rd x5_2 x48_2) = 10
                 · rw [if_pos c26] at H
                   have c26b0 : ((rd x5_2 x48_2) == 10) = true := beq_iff_eq.mpr c26
                   have c26b1 : ((rd x5_2 x48_2) != 10) = false := bne_eq_false_iff_eq.mpr c26
                   clear c26
                   obtain ⟨y326,hy326⟩ : ∃ y_ : List Int,y_ = (x5_2.set (x48_2 : Int).toNat 32) := ⟨_,rfl⟩
                   replace H : (dossierref05_plain.l1 k2 true y326 (x5_1.length : Int) (wrap64 (x48_2 + 1))) = some r := by first | (rw [hy326]; with_reducible exact H) | (have H2_ := (Option.bind_some _ _).symm.trans H; rw [hy326]; with_reducible exact H2_) | (have H2_ := (Option.bind_some _ _).symm.trans H; with_reducible exact H2_) | with_reducible exact H | (rw [hy326]; exact H) | exact H
                   have Ny326 := Aside0.mk hy326
                   clear hy326
                   have H' := Aside0.mk H
                   clear H
                   have p324 : 0 ≤ (x48_2 : Int) := of_decide_eq_true (by first | (with_reducible assumption) | assumption)
                   have q324 : x48_2 < (x5_2.length : Int) := of_decide_eq_true (by first | (with_reducible assumption) | assumption)
                   obtain ⟨ad324,e324,hx324_0⟩ := Kd.at_int (Kd.R_reads' HO_5.out).2.2 x48_2 p324 q324
                   cases e324
                   replace p324 := eq_true p324
                   replace q324 := eq_true q324
                   have p27 : 0 ≤ (x48_2 : Int) := of_decide_eq_true (by first | (with_reducible assumption) | assumption)
                   have q27 : (x48_2 : Int) < ((x5_2.length : Int) : Int) := of_decide_eq_true (by first | (with_reducible assumption) | assumption)
                   obtain ⟨go27,co27,eo27,gb27,gl27,cl27,HG27⟩ := Kd.R_form HO_5.out (by omega)
                   (first | cases eo27 | (injection eo27 with ea_ en_ ec_; (first | subst ea_ | (injection ea_ with ea_; subst ea_)); subst ec_; clear en_))
                   have GB27 := Aside0.mk gb27
                   have GG27 := Aside0.mk HG27
                   clear gb27 gl27 HG27
                   (first | simp only [add_plain] at hx324_0 | skip)
                   obtain ⟨hx27_0,hf27_0⟩ := Kd.R_celln 0 HO_5.out (x48_2 : Int) p27 q27
                   replace p27 := eq_true p27
                   replace q27 := eq_true q27
                   have HP28 := Kd.R_putg HO_5.out (x48_2 : Int) 32
                   go_wp2_with (first | ((with_reducible refine gate_store (t := 5) (p := 64) rfl ?_); refine store_event (t := 5) (p := 64) (v := ?vo_w29) (w1 := (wr.setCell ⟨go27,(x48_2 : Int).toNat,none⟩ (.int .u8 32))) ?hg ?ho ?hn ?hr ?_; (case ho => rfl); (case hg => rfl); (case hn => rfl); (case hr => first | (go_simp; done) | (go_simp; rfl)); intro w29 hw; have hg : wr.grownBy w29 (some go27) := (by rw [hw]; exact HP28.2); have hp_ : Kd.R (Kd.int .u8) 5 w29 w.heap.size (fun _ => True) (.slice (some ⟨go27,0,none⟩) x5_2.length co17) y326 := (by rw [hw,Ny326.out]; exact HP28.1); clear HP28; have n0_ := Aside0.mk (hp_); have n1_ := Aside0.mk ((by rw [hw]; exact below_set (HB.out) GB27.out : Below w.heap.size w w29)); clear HO_5; clear HB; have HO_5 := n0_; have HB := n1_; clear n0_ n1_; clear hg hw hp_))
                   (try simp only [← hl5_2])
                   go_roundg k2
                   case measure => have := HK1.out; have := HK2.out; omega
                   case rel => exact ⟨(y326),(wrap64 (x48_2 + 1)),(by first | rfl | (simp; done) | (simp [*]; done)),H',⟨by have := HK1.out; have := HK2.out; omega⟩,⟨by (try simp only [hl5_2]); (with_reducible repeat (first | apply Kd.R_alloc | apply R_bytes | apply Kd.R_drewN | apply Kd.R_drew)); exact HO_5.out⟩,⟨by repeat (first | (with_reducible first | exact HB.out | apply below_alloc | apply pw_below_drewN | apply below_drew1 | apply bytes_below1) | exact HB.out)⟩⟩
                 · rw [if_neg c26] at H
                   have c26b0 : ((rd x5_2 x48_2) == 10) = false := beq_eq_false_iff_ne.mpr c26
                   have c26b1 : ((rd x5_2 x48_2) != 10) = true := bne_iff_ne.mpr c26
                   have H' := Aside0.mk H
                   clear H
                   have p324 : 0 ≤ (x48_2 : Int) := of_decide_eq_true (by first | (with_reducible assumption) | assumption)
                   have q324 : x48_2 < (x5_2.length : Int) := of_decide_eq_true (by first | (with_reducible assumption) | assumption)
                   obtain ⟨ad324,e324,hx324_0⟩ := Kd.at_int (Kd.R_reads' HO_5.out).2.2 x48_2 p324 q324
                   cases e324
                   replace p324 := eq_true p324
                   replace q324 := eq_true q324
                   go_wp2
                   (try simp only [← hl5_2])
                   go_roundg k2
                   case measure => have := HK1.out; have := HK2.out; omega
                   case rel => exact ⟨(x5_2),(wrap64 (x48_2 + 1)),(by first | rfl | (simp; done) | (simp [*]; done)),H',⟨by have := HK1.out; have := HK2.out; omega⟩,⟨by (try simp only [hl5_2]); (with_reducible repeat (first | apply Kd.R_alloc | apply R_bytes | apply Kd.R_drewN | apply Kd.R_drew)); exact HO_5.out⟩,⟨by repeat (first | (with_reducible first | exact HB.out | apply below_alloc | apply pw_below_drewN | apply below_drew1 | apply bytes_below1) | exact HB.out)⟩⟩
             · replace c21 := Bool.eq_false_iff.mpr c21
               subst c21
               have H1 : (dossierref05_plain.l1 k2 false x5_2 (x5_1.length : Int) (wrap64 (x48_2 + 1))) = some r := by rw [if_neg (show ¬ (false = true) by decide)] at H; exact H
               clear H
               have H := H1
               clear H1
               have H' := Aside0.mk H
               clear H
               have p324 : 0 ≤ (x48_2 : Int) := of_decide_eq_true (by first | (with_reducible assumption) | assumption)
               have q324 : x48_2 < (x5_2.length : Int) := of_decide_eq_true (by first | (with_reducible assumption) | assumption)
               obtain ⟨ad324,e324,hx324_0⟩ := Kd.at_int (Kd.R_reads' HO_5.out).2.2 x48_2 p324 q324
               cases e324
               replace p324 := eq_true p324
               replace q324 := eq_true q324
               go_wp2
               (try simp only [← hl5_2])
               go_roundg k2
               case measure => have := HK1.out; have := HK2.out; omega
               case rel => exact ⟨(x5_2),(wrap64 (x48_2 + 1)),(by first | rfl | (simp; done) | (simp [*]; done)),H',⟨by have := HK1.out; have := HK2.out; omega⟩,⟨by (try simp only [hl5_2]); (with_reducible repeat (first | apply Kd.R_alloc | apply R_bytes | apply Kd.R_drewN | apply Kd.R_drew)); exact HO_5.out⟩,⟨by repeat (first | (with_reducible first | exact HB.out | apply below_alloc | apply pw_below_drewN | apply below_drew1 | apply bytes_below1) | exact HB.out)⟩⟩
           · rw [if_neg c20] at H
             exact absurd H (by simp)
         · rw [if_neg c19] at H
           exact absurd H (by simp)
       · rw [if_neg c18] at H
         have c18b0 : decide (x48_2 < (x5_1.length : Int)) = false := decide_eq_false c18
         clear c18
         have c18c := c18b0
         rw [hl5_2] at c18c
         obtain rfl := Option.some.inj H
         go_wp2
         go_ret
         exact ⟨_,by first | rfl | (simp [errW_none,errW_some] <;> rfl) | (simp [*,errW_none,errW_some] <;> rfl),by (with_reducible repeat (first | apply Kd.R_alloc | apply R_bytes | apply Kd.R_drewN | apply Kd.R_drew)); exact HO_5.out,by repeat (first | (with_reducible first | exact HB.out | apply below_alloc | apply pw_below_drewN | apply below_drew1 | apply bytes_below1) | exact HB.out)⟩
end Go.Proofs.YtccfmfifnbnlmaaGreatDoor.Pl
end
section
/- What is known of each function: its word; and the contexts in which it is reckoned. -/
-- prev xmllex_instruction
-- irreducible fullX trimX linesX numX namedX commX instX cutX containsX replX Chars.enc skipX
set_option linter.unusedVariables false
namespace Go.Proofs.YtccfmfifnbnlmaaGreatDoor.Ev
open Go
/-- How many bytes the comment or the instruction has that others begin with; -1: there is none. -/
def markW (r : List Int) : Int := if r.take 4 = [60,33,45,45] then commW r else if r.take 2 = [60,63] then instW r else -1
def skipGo : Nat → List Int → Int → Int × Int
 | 0,_,p => (p,0)
 | d + 1,b,p => if markW (b.drop p.toNat) = -1 then (p,0) else if markW (b.drop p.toNat) = 0 then (p,11) else skipGo d b (p + markW (b.drop p.toNat))
def skipW (b : List Int) (p : Int) : Int × Int := if p < 0 ∨ p > b.length then (0,1) else skipGo (b.length + 1) b p
def skipX (b : List Int) (p : Int) : Option (Int × Int) := if okB b then some (skipW b p) else none
noncomputable def cx_xmllex_Skip := cxOf specs_xmllex_instruction
noncomputable def xmllex_Skip.spec : Spec := fun args st K => match args,st.box,st.nt with
 | [.sl (.int .u8) b .no,.int .i64 p],[],0 => (skipX b p).bind fun v => K (.ret (.tup [.int .i64 v.1,.int .i64 v.2])) (lcRet [] [] 0)
 | _,_,_ => none
noncomputable def specs_xmllex_Skip : SpecL := (12,false,xmllex_Skip.spec) :: specs_xmllex_instruction
noncomputable def cx_dossierref05_Skip := cxOf specs_xmllex_Skip
noncomputable def dossierref05_Skip.spec : Spec := fun args st K => match args,st.box,st.nt with
 | [.sl (.int .u8) b .no,.int .i64 p],[],0 => (skipX b p).bind fun v => K (.ret (.tup [.int .i64 v.1,.int .i64 v.2])) (lcRet [] [] 0)
 | _,_,_ => none
noncomputable def specs_dossierref05_Skip : SpecL := (13,false,dossierref05_Skip.spec) :: specs_xmllex_Skip
end Go.Proofs.YtccfmfifnbnlmaaGreatDoor.Ev
end
section
/- What each function comes to, one step of it at a time: the kernel's own reckoning. -/
set_option linter.unusedVariables false
set_option maxRecDepth 100000
namespace Go.Proofs.YtccfmfifnbnlmaaGreatDoor.Ev
open Go Go.RowKit
open Go.IntKind (i64 u8 i32 u64)
noncomputable def xmllex_Skip.L0 (n k0 : Nat) (b : List Int) (p : Int) (j0 : List Int) (j1 : Int) : Option (Rr U0) := loopF cx_xmllex_Skip noCalls k0 0 ([(0,false),(1,false)]) ((siteC (Tryz.f12.body.getD .skip) [1,1,0]).getD .skip) (siteK cx_xmllex_Skip noCalls n [] (Tryz.f12.body.getD .skip) [1,1,0] (bodyK cx_xmllex_Skip Tryz.f12 (lcSt [] 0) (callK false [] [] (lcSt [] 0) out))) (St.mk [(0,.sl (.int .u8) j0 .no),(1,.int .i64 j1)] [] [] 0 0 0 0 0 12 [] 40)
theorem xmllex_Skip.L0_s (n k0 : Nat) (b : List Int) (p : Int) (j0 : List Int) (j1 : Int) : xmllex_Skip.L0 n (k0 + 1) b p j0 j1 = if 0 ≤ j1 then if j1 ≤ (↑j0.length : Int) then ((Q.bytes_HasPrefix.f (List.drop j1.toNat j0) [(60 : Int),(33 : Int),(45 : Int),(45 : Int)]).bind fun v0 => if v0 = true then ((commX (List.drop j1.toNat j0)).bind fun v1 => if (v1 == 0) = true then some (.ret (.tup [.int .i64 j1,.int .i64 11]),lcRet [] [] 0) else (xmllex_Skip.L0 n k0 b p j0 (i64.wrap (j1 + v1)))) else ((Q.bytes_HasPrefix.f (List.drop j1.toNat j0) [(60 : Int),(63 : Int)]).bind fun v2 => if v2 = true then ((instX (List.drop j1.toNat j0)).bind fun v3 => if (v3 == 0) = true then some (.ret (.tup [.int .i64 j1,.int .i64 11]),lcRet [] [] 0) else (xmllex_Skip.L0 n k0 b p j0 (i64.wrap (j1 + v3)))) else some (.ret (.tup [.int .i64 j1,.int .i64 0]),lcRet [] [] 0))) else none else none := by kernel_rfl
theorem xmllex_Skip.top (n : Nat) (b : List Int) (p : Int) : callX false (fnF cx_xmllex_Skip noCalls n 12) ([.sl (.int .u8) b .no,.int .i64 p]) (lcSt [] 0) out = if (if decide (p < 0) = true then true else decide (p > (↑b.length : Int))) = true then some (.ret (.tup [.int .i64 0,.int .i64 1]),lcRet [] [] 0) else (xmllex_Skip.L0 n n b p b p) := by kernel_rfl
noncomputable def dossierref05_Skip.L0 (n k0 : Nat) (b : List Int) (p : Int) (j0 : List Int) (j1 : Int) : Option (Rr U0) := loopF cx_dossierref05_Skip noCalls k0 0 ([(0,false),(1,false)]) ((siteC (Tryz.f13.body.getD .skip) [1,1,0]).getD .skip) (siteK cx_dossierref05_Skip noCalls n [] (Tryz.f13.body.getD .skip) [1,1,0] (bodyK cx_dossierref05_Skip Tryz.f13 (lcSt [] 0) (callK false [] [] (lcSt [] 0) out))) (St.mk [(0,.sl (.int .u8) j0 .no),(1,.int .i64 j1)] [] [] 0 0 0 0 0 13 [] 80)
theorem dossierref05_Skip.L0_s (n k0 : Nat) (b : List Int) (p : Int) (j0 : List Int) (j1 : Int) : dossierref05_Skip.L0 n (k0 + 1) b p j0 j1 = if 0 ≤ j1 then if j1 ≤ (↑j0.length : Int) then ((Q.dossierref05_begins.f (List.drop j1.toNat j0) (ByteArray.mk #[60,33,45,45])).bind fun v0 => if v0 = true then if (4 : Int) ≤ (↑(List.drop j1.toNat j0).length : Int) then ((lim fun k => Q.dossierref05_find.f k (List.drop (Int.toNat (4 : Int)) (List.drop j1.toNat j0)) (ByteArray.mk #[45,45])).bind fun v1 => if decide (v1 < 0) = true then some (.ret (.tup [.int .i64 j1,.int .i64 11]),lcRet [] [] 0) else if 0 ≤ i64.wrap ((4 : Int) + v1) then if i64.wrap ((4 : Int) + v1) ≤ (↑(List.drop j1.toNat j0).length : Int) then ((Q.dossierref05_begins.f (List.drop (i64.wrap ((4 : Int) + v1)).toNat (List.drop j1.toNat j0)) (ByteArray.mk #[45,45,62])).bind fun v2 => if (if false = true then true else !v2) = true then some (.ret (.tup [.int .i64 j1,.int .i64 11]),lcRet [] [] 0) else (dossierref05_Skip.L0 n k0 b p j0 (i64.wrap (j1 + i64.wrap (v1 + 7))))) else none else none) else none else ((Q.dossierref05_begins.f (List.drop j1.toNat j0) (ByteArray.mk #[60,63])).bind fun v3 => if v3 = true then if (2 : Int) ≤ (↑(List.drop j1.toNat j0).length : Int) then ((lim fun k => Q.dossierref01_NameAt.f k (List.drop (Int.toNat (2 : Int)) (List.drop j1.toNat j0))).bind fun v4 => if (v4 == 0) = true then some (.ret (.tup [.int .i64 j1,.int .i64 11]),lcRet [] [] 0) else if 0 ≤ i64.wrap ((2 : Int) + v4) then if i64.wrap ((2 : Int) + v4) ≤ (↑(List.drop j1.toNat j0).length : Int) then ((Q.dossierref05_begins.f (List.drop (i64.wrap ((2 : Int) + v4)).toNat (List.drop j1.toNat j0)) (ByteArray.mk #[63,62])).bind fun v5 => if (!v5) = true then if 0 ≤ i64.wrap ((2 : Int) + v4) then if i64.wrap ((2 : Int) + v4) ≤ (↑(List.drop j1.toNat j0).length : Int) then ((lim fun k => Q.dossierref05_blanks.f k (List.drop (i64.wrap ((2 : Int) + v4)).toNat (List.drop j1.toNat j0))).bind fun v6 => if (if false = true then true else if true = true then v6 == 0 else false) = true then some (.ret (.tup [.int .i64 j1,.int .i64 11]),lcRet [] [] 0) else if 0 ≤ i64.wrap ((2 : Int) + v4) then if i64.wrap ((2 : Int) + v4) ≤ (↑(List.drop j1.toNat j0).length : Int) then ((lim fun k => Q.dossierref05_find.f k (List.drop (i64.wrap ((2 : Int) + v4)).toNat (List.drop j1.toNat j0)) (ByteArray.mk #[63,62])).bind fun v7 => if decide (v7 < 0) = true then some (.ret (.tup [.int .i64 j1,.int .i64 11]),lcRet [] [] 0) else (dossierref05_Skip.L0 n k0 b p j0 (i64.wrap (j1 + i64.wrap (v7 + i64.wrap (v4 + 4)))))) else none else none) else none else none else if 0 ≤ i64.wrap ((2 : Int) + v4) then if i64.wrap ((2 : Int) + v4) ≤ (↑(List.drop j1.toNat j0).length : Int) then ((lim fun k => Q.dossierref05_find.f k (List.drop (i64.wrap ((2 : Int) + v4)).toNat (List.drop j1.toNat j0)) (ByteArray.mk #[63,62])).bind fun v8 => if decide (v8 < 0) = true then some (.ret (.tup [.int .i64 j1,.int .i64 11]),lcRet [] [] 0) else (dossierref05_Skip.L0 n k0 b p j0 (i64.wrap (j1 + i64.wrap (v8 + i64.wrap (v4 + 4)))))) else none else none) else none else none) else none else some (.ret (.tup [.int .i64 j1,.int .i64 0]),lcRet [] [] 0))) else none else none := by kernel_rfl
theorem dossierref05_Skip.top (n : Nat) (b : List Int) (p : Int) : callX false (fnF cx_dossierref05_Skip noCalls n 13) ([.sl (.int .u8) b .no,.int .i64 p]) (lcSt [] 0) out = if (if decide (p < 0) = true then true else decide (p > (↑b.length : Int))) = true then some (.ret (.tup [.int .i64 0,.int .i64 1]),lcRet [] [] 0) else (dossierref05_Skip.L0 n n b p b p) := by kernel_rfl
end Go.Proofs.YtccfmfifnbnlmaaGreatDoor.Ev
end
section
/- The reference's searches: where a text stands, whether bytes begin with it, blanks. -/
set_option linter.unusedVariables false
set_option linter.unusedSimpArgs false
namespace Go.Proofs.YtccfmfifnbnlmaaGreatDoor.Ev
open Go Go.RowKit Go.Proofs.YtccfmfifnbnlmaaGreatDoorW.PrintWords
theorem strOf_toBytes (s : ByteArray) : (strOfNums (toBytes s)).toList = s.toList := by
 rw [ByteArray.toList_eq,ByteArray.toList_eq]
 unfold strOfNums toBytes
 simp only [List.map_map]
 have : ((fun n : Int => UInt8.ofNat n.toNat) ∘ fun b : UInt8 => (b.toNat : Int)) = id := by funext b; simp
 rw [this,List.map_id]
theorem beg_spec {l : List Int} (hl : byteB l = true) (s : ByteArray) : Q.dossierref05_begins.f l s = some (decide (l.take s.size = toBytes s)) := by
 unfold Q.dossierref05_begins.f
 by_cases h : (l.length : Int) ≥ (s.size : Int)
 · rw [if_pos h,if_pos (by omega),if_pos (by omega),Int.toNat_natCast]
   congr 1
   rw [Bool.eq_iff_iff,decide_eq_true_eq,beq_iff_eq,← strOf_toBytes s]
   exact Chars.str_inj (Chars.Bytes.take (byteB_all hl) _) (byteB_all (byteB_to s))
 · rw [if_neg h,decide_eq_false]
   intro q
   have := congrArg List.length q
   rw [List.length_take,toBytes_len] at this
   omega
theorem beg_at {l : List Int} (hl : byteB l = true) (s : ByteArray) (m : List Int) (n : Nat) (h : toBytes s = m) (hn : m.length = n) : Q.dossierref05_begins.f l s = some (decide (l.take n = m)) := by
 subst h hn
 rw [beg_spec hl,toBytes_len]
theorem pre_bytes {l m : List Int} (hl : byteB l = true) (hm : byteB m = true) : (Lib.bytesOf m).isPrefixOf (Lib.bytesOf l) = decide (l.take m.length = m) := by
 rw [Bool.eq_iff_iff,decide_eq_true_eq,List.isPrefixOf_iff_prefix,List.prefix_iff_eq_take]
 unfold Lib.bytesOf
 rw [List.length_map,← List.map_take]
 constructor
 · intro h
   have : ∀ (x y : List Int),byteB x = true → byteB y = true → x.map (fun n => UInt8.ofNat n.toNat) = y.map (fun n => UInt8.ofNat n.toNat) → x = y := by
    intro x
    induction x with
    | nil => intro y _ _ h; cases y with | nil => rfl | cons _ _ => cases h
    | cons a x ih =>
     intro y hx hy h
     cases y with
     | nil => cases h
     | cons b y =>
      rw [List.map_cons,List.map_cons] at h
      injection h with h1 h2
      have ha := byteB_all hx a (List.mem_cons_self ..)
      have hb := byteB_all hy b (List.mem_cons_self ..)
      unfold byteB at hx hy
      rw [List.all_cons,Bool.and_eq_true] at hx hy
      rw [u8_inj ha hb h1,ih y hx.2 hy.2 h2]
   exact (this _ _ hm (byteB_take hl _) h).symm
 · intro h
   rw [h]
theorem bIndex_nil {m : List Int} (h : 0 < m.length) : bIndexW [] m = -1 := by
 have := bIndex_lt (l := []) (m := m)
 by_cases q : bIndexW [] m = -1
 · exact q
 · rw [if_neg q,List.length_nil] at this; omega
theorem find_at {b : List Int} (hb : byteB b = true) (s : ByteArray) (hs : 0 < s.size) (hl : b.length ≤ 8000000) : ∀ (d i k : Nat),i + d = b.length → Q.dossierref05_find.l0 (k + d + 1) b s (b.length : Int) (i : Int) = some (if bIndexW (b.drop i) (toBytes s) = -1 then -1 else bIndexW (b.drop i) (toBytes s) + i) := by
 intro d
 induction d with
 | zero =>
  intro i k hi
  rw [show k + 0 + 1 = k + 1 from rfl,Q.dossierref05_find.l0,if_neg (by omega),List.drop_of_length_le (by omega),bIndex_nil (by rw [toBytes_len]; exact hs),if_pos rfl]
 | succ d ih =>
  intro i k hi
  have hlt : i < b.length := by omega
  rw [show k + (d + 1) + 1 = (k + d + 1) + 1 from rfl,Q.dossierref05_find.l0,if_pos (by omega),if_pos (by omega),if_pos (by omega),Int.toNat_natCast,beg_spec (byteB_drop hb i),Option.bind_some]
  have e : b.drop i = b[i]'hlt :: b.drop (i + 1) := List.drop_eq_getElem_cons hlt
  have e2 : bIndexW (b.drop i) (toBytes s) = if decide ((b.drop i).take s.size = toBytes s) then 0 else if bIndexW (b.drop (i + 1)) (toBytes s) = -1 then -1 else bIndexW (b.drop (i + 1)) (toBytes s) + 1 := by
   conv => lhs; rw [e]
   rw [bIndex_cons,← e,pre_bytes (byteB_drop hb i) (byteB_to s),toBytes_len]
  have hge := bIndex_ge (b.drop (i + 1)) (toBytes s)
  rw [e2,show wrap64 ((i : Int) + 1) = ((i + 1 : Nat) : Int) by unfold wrap64; omega,ih (i + 1) k (by omega)]
  generalize bIndexW (b.drop (i + 1)) (toBytes s) = j at hge
  by_cases c : (b.drop i).take s.size = toBytes s
  · have c' : decide ((b.drop i).take s.size = toBytes s) = true := decide_eq_true c
    simp only [if_pos c']; rw [if_neg (by omega)]; congr 1; omega
  · have c' : ¬ (decide ((b.drop i).take s.size = toBytes s) = true) := by simpa using c
    by_cases c2 : j = -1
    · simp only [if_neg c',if_pos c2]; rfl
    · simp only [if_neg c',if_neg c2]; rw [if_neg (by omega)]; congr 1; omega
theorem find_lim {b : List Int} (hb : byteB b = true) (s : ByteArray) (hs : 0 < s.size) (hl : b.length ≤ 8000000) : (lim fun k => Q.dossierref05_find.f k b s) = some (bIndexW b (toBytes s)) := by
 refine lim_of (fun k => Q.dossierref05_find.mono b s k) (k := 0 + b.length + 1) (by omega) ?_
 have := find_at hb s hs hl b.length 0 0 (by omega)
 unfold Q.dossierref05_find.f
 refine this.trans ?_
 rw [List.drop_zero]
 split
 · rename_i h; rw [h]
 · congr 1; omega
theorem find_to {b : List Int} (hb : byteB b = true) (s : ByteArray) (m : List Int) (h : toBytes s = m) (hs : 0 < m.length) (hl : b.length ≤ 8000000) : (lim fun k => Q.dossierref05_find.f k b s) = some (bIndexW b m) := by
 subst h
 exact find_lim hb s (by rwa [toBytes_len] at hs) hl
/-- How many blanks bytes begin with. -/
def blankN : List Int → Nat
 | [] => 0
 | x :: t => if blankC x then blankN t + 1 else 0
theorem blankN_le : ∀ l : List Int,blankN l ≤ l.length
 | [] => Nat.le_refl _
 | x :: t => by
  unfold blankN
  have := blankN_le t
  split
  · rw [List.length_cons]; omega
  · omega
theorem rspace_spec (x : Int) : Q.dossierref01_Space.f x = some (blankC x) := by
 unfold Q.dossierref01_Space.f blankC
 by_cases h2 : x = 9
 · simp [h2]
 by_cases h3 : x = 10
 · simp [h3]
 by_cases h4 : x = 13
 · simp [h4]
 have e2 : (x == 9) = false := beq_eq_false_iff_ne.2 h2
 have e3 : (x == 10) = false := beq_eq_false_iff_ne.2 h3
 have e4 : (x == 13) = false := beq_eq_false_iff_ne.2 h4
 simp [h2,h3,h4,e2,e3,e4]
theorem blanks_at {b : List Int} (hb : byteB b = true) (hl : b.length ≤ 8000000) : ∀ (d i k : Nat),i + d = b.length → Q.dossierref05_blanks.l0 (k + d + 1) b (i : Int) = some ((blankN (b.drop i) : Int) + i) := by
 intro d
 induction d with
 | zero =>
  intro i k hi
  rw [show k + 0 + 1 = k + 1 from rfl,Q.dossierref05_blanks.l0,if_neg (by omega),List.drop_of_length_le (by omega)]
  congr 1
  show (i : Int) = ((0 : Nat) : Int) + i
  omega
 | succ d ih =>
  intro i k hi
  have hlt : i < b.length := by omega
  have hx := byteB_all hb (b[i]'hlt) (List.getElem_mem hlt)
  have er : rd b (i : Int) = b[i]'hlt := by unfold rd; rw [Int.toNat_natCast,List.getD_eq_getElem?_getD,List.getElem?_eq_getElem hlt]; rfl
  rw [show k + (d + 1) + 1 = (k + d + 1) + 1 from rfl,Q.dossierref05_blanks.l0,if_pos (by omega),if_pos (by omega),er,show wrap64 (b[i]'hlt) = b[i]'hlt by unfold wrap64; omega,rspace_spec,Option.bind_some,show wrap64 ((i : Int) + 1) = ((i + 1 : Nat) : Int) by unfold wrap64; omega,ih (i + 1) k (by omega),List.drop_eq_getElem_cons hlt]
  rw [blankN]
  by_cases c : blankC (b[i]'hlt) = true
  · rw [if_pos c,if_pos c]; congr 1; omega
  · rw [if_neg c,if_neg c]; congr 1; omega
theorem blanks_lim {b : List Int} (hb : byteB b = true) (hl : b.length ≤ 8000000) : (lim fun k => Q.dossierref05_blanks.f k b) = some (blankN b : Int) := by
 refine lim_of (fun k => Q.dossierref05_blanks.mono b k) (k := 0 + b.length + 1) (by omega) ?_
 have := blanks_at hb hl b.length 0 0 (by omega)
 unfold Q.dossierref05_blanks.f
 refine this.trans ?_
 rw [List.drop_zero]
 congr 1
theorem nameAt_lim {b : List Int} (hb : byteB b = true) (hl : b.length ≤ 8000000) : (lim fun k => Q.dossierref01_NameAt.f k b) = some (Xm.nameL b : Int) :=
 lim_of (fun k => Q.dossierref01_NameAt.mono b k) (k := 0 + b.length + 70) (by omega) (Xm.nameAt_spec b (byteB_bytes hb) (by omega) 0)
/-- Blanks taken off. -/
theorem trim_blank : ∀ {l : List Int},byteB l = true → bTrimW l ⟨#[32,9,10,13]⟩ = l.drop (blankN l)
 | [],_ => rfl
 | x :: t,h => by
  have hx := byteB_all h x (List.mem_cons_self ..)
  have ht : byteB t = true := by unfold byteB at h ⊢; rw [List.all_cons,Bool.and_eq_true] at h; exact h.2
  have e : (⟨#[32,9,10,13]⟩ : ByteArray).data.toList.contains (UInt8.ofNat x.toNat) = blankC x := by
   have f : ∀ n : Fin 256,([32,9,10,13] : List UInt8).contains (UInt8.ofNat n.val) = blankC (n.val : Int) := by decide +kernel
   have := f ⟨x.toNat,by omega⟩
   simp only [Int.toNat_of_nonneg hx.1] at this
   exact this
  unfold bTrimW
  rw [List.dropWhile_cons,e,blankN]
  by_cases c : blankC x = true
  · rw [if_pos c,if_pos c,List.drop_succ_cons]
    exact trim_blank ht
  · rw [if_neg c,if_neg c]; rfl
end Go.Proofs.YtccfmfifnbnlmaaGreatDoor.Ev
end
section
/- The evaluator's trees are the functions: comments and instructions skipped. -/
set_option linter.unusedVariables false
set_option linter.unusedSimpArgs false
namespace Go.Proofs.YtccfmfifnbnlmaaGreatDoor.Ev
open Go Go.RowKit Go.Proofs.YtccfmfifnbnlmaaGreatDoorW.PrintWords
theorem take_len {l m : List Int} {n : Nat} (h : l.take n = m) : m.length ≤ l.length := by
 have := congrArg List.length h
 rw [List.length_take] at this
 omega
theorem comm_pos (r : List Int) : commW r = 0 ∨ (7 ≤ commW r ∧ commW r ≤ r.length) := by
 obtain ⟨q1,q2⟩ := bIndex_lt (l := r.drop 4) (m := [45,45])
 unfold commW
 split
 · exact .inl rfl
 · rename_i h
   have h1 : ¬ bIndexW (r.drop 4) [45,45] < 0 := fun q => h (.inl q)
   have h2 := Classical.byContradiction fun q => h (.inr q)
   have := take_len h2
   rw [List.length_drop] at this
   refine .inr ⟨by omega,?_⟩
   simp only [List.length_cons,List.length_nil] at this
   omega
theorem inst_pos (r : List Int) : instW r = 0 ∨ (4 ≤ instW r ∧ instW r ≤ r.length) := by
 unfold instW
 dsimp only
 obtain ⟨q1,q2⟩ := bIndex_lt (l := r.drop (2 + Xm.nameL (r.drop 2))) (m := [63,62])
 split
 · exact .inl rfl
 · rename_i h
   have h1 : ¬ bIndexW (r.drop (2 + Xm.nameL (r.drop 2))) [63,62] < 0 := fun q => h (.inr (.inl q))
   rw [if_neg (by omega),List.length_drop] at q2
   simp only [List.length_cons,List.length_nil] at q2
   exact .inr ⟨by omega,by omega⟩
/-- What a round of the skipping comes to. -/
theorem skip_step {b : List Int} {p : Int} {d : Nat} (h0 : 0 ≤ p) (h1 : p ≤ b.length) :
 (((b.drop p.toNat).take 4 = [60,33,45,45] ∧ skipGo (d + 1) b p = (if commW (b.drop p.toNat) = 0 then (p,11) else skipGo d b (p + commW (b.drop p.toNat))) ∧ 4 ≤ (b.drop p.toNat).length) ∨
 (¬ (b.drop p.toNat).take 4 = [60,33,45,45] ∧ (b.drop p.toNat).take 2 = [60,63] ∧ skipGo (d + 1) b p = (if instW (b.drop p.toNat) = 0 then (p,11) else skipGo d b (p + instW (b.drop p.toNat))) ∧ 2 ≤ (b.drop p.toNat).length) ∨
 (¬ (b.drop p.toNat).take 4 = [60,33,45,45] ∧ ¬ (b.drop p.toNat).take 2 = [60,63] ∧ skipGo (d + 1) b p = (p,0))) := by
 rw [skipGo]
 unfold markW
 have c := comm_pos (b.drop p.toNat)
 have i := inst_pos (b.drop p.toNat)
 by_cases a1 : (b.drop p.toNat).take 4 = [60,33,45,45]
 · refine .inl ⟨a1,?_,take_len a1⟩
   rw [if_pos a1,if_neg (by omega)]
 · by_cases a2 : (b.drop p.toNat).take 2 = [60,63]
   · refine .inr (.inl ⟨a1,a2,?_,take_len a2⟩)
     rw [if_neg a1,if_pos a2,if_neg (by omega)]
   · refine .inr (.inr ⟨a1,a2,?_⟩)
     rw [if_neg a1,if_neg a2,if_pos rfl]
theorem skip_L0 (n : Nat) (b : List Int) (p0 : Int) (hb : okB b) : ∀ (d k : Nat) (p : Int),0 ≤ p → p ≤ b.length → (b.length : Int) - p < d →
 xmllex_Skip.L0 n (k + d) b p0 b p = (some (.ret (.tup [.int .i64 (skipGo d b p).1,.int .i64 (skipGo d b p).2]),lcRet [] [] 0) : Option (Rr U0)) := by
 intro d
 induction d with
 | zero => intro k p h0 h1 h2; omega
 | succ d ih =>
  intro k p h0 h1 h2
  obtain ⟨hb1,hb2⟩ := hb
  have hr := byteB_drop hb1 p.toNat
  have hrl : (b.drop p.toNat).length = b.length - p.toNat := List.length_drop ..
  have c := comm_pos (b.drop p.toNat)
  have i := inst_pos (b.drop p.toNat)
  rw [show k + (d + 1) = (k + d) + 1 from rfl,xmllex_Skip.L0_s,if_pos h0,if_pos h1,preP_spec hr (by decide),Option.bind_some]
  rcases skip_step (d := d) h0 h1 with ⟨a1,e,a2⟩ | ⟨a1,a2,e,a3⟩ | ⟨a1,a2,e⟩
  · rw [if_pos (decide_eq_true (show (b.drop p.toNat).take ([60,33,45,45] : List Int).length = [60,33,45,45] from a1)),e]
    unfold commX
    rw [if_pos ⟨⟨hr,by omega⟩,a2⟩,Option.bind_some]
    by_cases z : commW (b.drop p.toNat) = 0
    · rw [if_pos (by rw [z]; rfl),if_pos z]
    · rw [if_neg (by rw [beq_iff_eq]; exact z),if_neg z,show IntKind.i64.wrap (p + commW (b.drop p.toNat)) = p + commW (b.drop p.toNat) by rw [wrap_64]; unfold wrap64; omega]
      exact ih k _ (by omega) (by omega) (by omega)
  · rw [if_neg (by rw [decide_eq_true_eq]; exact a1),preP_spec hr (by decide),Option.bind_some,if_pos (decide_eq_true (show (b.drop p.toNat).take ([60,63] : List Int).length = [60,63] from a2)),e]
    unfold instX
    rw [if_pos ⟨⟨hr,by omega⟩,a3⟩,Option.bind_some]
    by_cases z : instW (b.drop p.toNat) = 0
    · rw [if_pos (by rw [z]; rfl),if_pos z]
    · rw [if_neg (by rw [beq_iff_eq]; exact z),if_neg z,show IntKind.i64.wrap (p + instW (b.drop p.toNat)) = p + instW (b.drop p.toNat) by rw [wrap_64]; unfold wrap64; omega]
      exact ih k _ (by omega) (by omega) (by omega)
  · rw [if_neg (by rw [decide_eq_true_eq]; exact a1),preP_spec hr (by decide),Option.bind_some,if_neg (by rw [decide_eq_true_eq]; exact a2),e]
theorem xmllex_Skip.ok : AllOk specs_xmllex_Skip := okS (cx := cx_xmllex_Skip) rfl xmllex_instruction.ok (by kernel_rfl) fun args cs n K r g => by
 unfold xmllex_Skip.spec at g
 dsimp only [lcSt] at g
 split at g
 · rename_i b p
   obtain ⟨v,h,h2⟩ := bind2 g
   clear g
   refine okG h2 ?_
   clear h2
   refine ⟨0 + (b.length + 1),?_⟩
   rw [xmllex_Skip.top]
   unfold skipX at h
   split at h
   · rename_i hs
     obtain rfl := Option.some.inj h
     unfold skipW
     by_cases c : p < 0 ∨ p > b.length
     · rw [if_pos (by rw [ite_or,decide_eq_true_eq,decide_eq_true_eq]; exact c),if_pos c]
     · rw [if_neg (by rw [ite_or,decide_eq_true_eq,decide_eq_true_eq]; exact c),if_neg c]
       exact skip_L0 _ b p hs (b.length + 1) 0 p (by omega) (by omega) (by omega)
   · cases h
 · cases g
theorem rskip_L0 (n : Nat) (b : List Int) (p0 : Int) (hb : okB b) : ∀ (d k : Nat) (p : Int),0 ≤ p → p ≤ b.length → (b.length : Int) - p < d →
 dossierref05_Skip.L0 n (k + d) b p0 b p = (some (.ret (.tup [.int .i64 (skipGo d b p).1,.int .i64 (skipGo d b p).2]),lcRet [] [] 0) : Option (Rr U0)) := by
 intro d
 induction d with
 | zero => intro k p h0 h1 h2; omega
 | succ d ih =>
  intro k p h0 h1 h2
  obtain ⟨hb1,hb2⟩ := hb
  have hr := byteB_drop hb1 p.toNat
  have hrl : (b.drop p.toNat).length = b.length - p.toNat := List.length_drop ..
  have c := comm_pos (b.drop p.toNat)
  have i := inst_pos (b.drop p.toNat)
  have next : ∀ v,IntKind.i64.wrap (p + v) = p + v → 4 ≤ v → v ≤ (b.drop p.toNat).length → dossierref05_Skip.L0 n (k + d) b p0 b (IntKind.i64.wrap (p + v)) = (some (.ret (.tup [.int .i64 (skipGo d b (p + v)).1,.int .i64 (skipGo d b (p + v)).2]),lcRet [] [] 0) : Option (Rr U0)) :=
   fun v e v1 v2 => by rw [e]; exact ih k _ (by omega) (by omega) (by omega)
  rw [show k + (d + 1) = (k + d) + 1 from rfl,dossierref05_Skip.L0_s,if_pos h0,if_pos h1,beg_at hr _ [60,33,45,45] 4 rfl rfl,Option.bind_some]
  generalize hrr : b.drop p.toNat = r at hr hrl c i next
  rcases skip_step (d := d) h0 h1 with ⟨a1,e,a2⟩ | ⟨a1,a2,e,a3⟩ | ⟨a1,a2,e⟩ <;> simp only [hrr] at a1 a2 e <;> try simp only [hrr] at a3
  · rw [if_pos (decide_eq_true (show r.take 4 = _ from a1)),e,if_pos (by omega),show Int.toNat 4 = 4 from rfl,find_to (byteB_drop hr 4) _ [45,45] rfl (by decide) (by rw [List.length_drop]; omega),Option.bind_some]
    unfold commW at c ⊢
    obtain ⟨q1,q2⟩ := bIndex_lt (l := r.drop 4) (m := [45,45])
    rw [List.length_drop] at q2
    generalize bIndexW (r.drop 4) [45,45] = j at c q1 q2 ⊢
    by_cases c0 : j < 0
    · rw [if_pos (decide_eq_true c0),if_pos (if_pos (.inl c0))]
    have e0 : (if j = -1 then 0 else ([45,45] : List Int).length) = 2 := if_neg (by omega)
    rw [e0] at q2
    have e1 : IntKind.i64.wrap (4 + j) = ((4 + j.toNat : Nat) : Int) := by rw [wrap_64]; unfold wrap64; omega
    have e2 : IntKind.i64.wrap (j + 7) = j + 7 := by rw [wrap_64]; unfold wrap64; omega
    rw [if_neg (by simpa using c0),e1,if_pos (by omega),if_pos (by omega),Int.toNat_natCast,beg_at (byteB_drop hr _) _ [45,45,62] 3 rfl rfl,Option.bind_some,e2]
    by_cases c1 : (r.drop (4 + j.toNat)).take 3 = [45,45,62]
    · rw [if_neg (by rw [false_or_b,Bool.not_eq_true',decide_eq_true (show (r.drop (4 + j.toNat)).take 3 = [45,45,62] from c1)]; decide)]
      have h3 : ¬ (j < 0 ∨ (r.drop (4 + j.toNat)).take 3 ≠ [45,45,62]) := by
       rintro (q | q)
       · exact c0 q
       · exact q c1
      rw [if_neg h3] at c
      rw [if_neg h3,if_neg (by omega)]
      exact next _ (by rw [wrap_64]; unfold wrap64; omega) (by omega) (by omega)
    · rw [if_pos (by rw [false_or_b,Bool.not_eq_true',decide_eq_false (show ¬ (r.drop (4 + j.toNat)).take 3 = [45,45,62] from c1)]),if_pos (if_pos (.inr c1))]
  · rw [if_neg (by rw [decide_eq_true_eq]; exact a1),beg_at hr _ [60,63] 2 rfl rfl,Option.bind_some,if_pos (decide_eq_true (show r.take 2 = _ from a2)),e,if_pos (by omega),show Int.toNat 2 = 2 from rfl,nameAt_lim (byteB_drop hr 2) (by rw [List.length_drop]; omega),Option.bind_some]
    unfold instW at i ⊢
    have hle := Xm.nameL_le (byteB_bytes (byteB_drop hr 2))
    rw [List.length_drop] at hle
    generalize Xm.nameL (r.drop 2) = t at hle i ⊢
    dsimp only at i ⊢
    by_cases t0 : t = 0
    · rw [if_pos (by rw [beq_iff_eq]; omega),if_pos (if_pos (.inl t0))]
    have e2 : IntKind.i64.wrap (2 + (t : Int)) = ((2 + t : Nat) : Int) := by rw [wrap_64]; unfold wrap64; omega
    have e4 : IntKind.i64.wrap ((t : Int) + 4) = (t : Int) + 4 := by rw [wrap_64]; unfold wrap64; omega
    have hb2' := byteB_drop hr (2 + t)
    have hd2 : (r.drop (2 + t)).length = r.length - (2 + t) := List.length_drop ..
    rw [if_neg (by rw [beq_iff_eq]; omega),e2,e4,if_pos (by omega),if_pos (by omega),Int.toNat_natCast,beg_at hb2' _ [63,62] 2 rfl rfl,Option.bind_some]
    obtain ⟨q1,q2⟩ := bIndex_lt (l := r.drop (2 + t)) (m := [63,62])
    rw [hd2] at q2
    have hz : (r.drop (2 + t)).take 2 = [63,62] ↔ bIndexW (r.drop (2 + t)) [63,62] = 0 := by
     cases hx : r.drop (2 + t) with
     | nil => rw [bIndex_nil (by decide)]; simp
     | cons x u =>
      rw [bIndex_cons,← hx,pre_bytes hb2' (by decide)]
      have hg := bIndex_ge u [63,62]
      by_cases q : (r.drop (2 + t)).take 2 = [63,62]
      · rw [if_pos (decide_eq_true (show (r.drop (2 + t)).take ([63,62] : List Int).length = [63,62] from q))]
        exact ⟨fun _ => rfl,fun _ => q⟩
      · rw [if_neg (by rw [decide_eq_true_eq]; exact q)]
        refine ⟨fun z => absurd z q,fun z => ?_⟩
        split at z <;> omega
    have hbl : blankN (r.drop (2 + t)) = 0 ↔ blankC ((r.drop (2 + t)).getD 0 0) = false := by
     cases r.drop (2 + t) with
     | nil => exact ⟨fun _ => rfl,fun _ => rfl⟩
     | cons x u =>
      rw [blankN]
      show _ ↔ blankC x = false
      cases blankC x <;> simp
    have fin : ∀ {A : Option (Rr U0)},(∀ j,j = bIndexW (r.drop (2 + t)) [63,62] → A = (if decide (j < (0 : Int)) = true then some (Res.ret (AVal.tup [AVal.int IntKind.i64 p,AVal.int IntKind.i64 (11 : Int)]),lcRet [] [] 0)
     else dossierref05_Skip.L0 n (k + d) b p0 b (IntKind.i64.wrap (p + IntKind.i64.wrap (j + ((t : Int) + 4)))))) → ((r.drop (2 + t)).take 2 = [63,62] ∨ blankC ((r.drop (2 + t)).getD 0 0) = true) →
     A = (some (.ret (.tup [.int .i64 (if (if t = 0 ∨ bIndexW (r.drop (2 + t)) [63,62] < 0 ∨ bIndexW (r.drop (2 + t)) [63,62] > 0 ∧ blankC ((r.drop (2 + t)).getD 0 0) = false then 0 else 2 + (t : Int) + bIndexW (r.drop (2 + t)) [63,62] + 2) = 0 then (p,11) else skipGo d b (p + (if t = 0 ∨ bIndexW (r.drop (2 + t)) [63,62] < 0 ∨ bIndexW (r.drop (2 + t)) [63,62] > 0 ∧ blankC ((r.drop (2 + t)).getD 0 0) = false then 0 else 2 + (t : Int) + bIndexW (r.drop (2 + t)) [63,62] + 2))).1,
      .int .i64 (if (if t = 0 ∨ bIndexW (r.drop (2 + t)) [63,62] < 0 ∨ bIndexW (r.drop (2 + t)) [63,62] > 0 ∧ blankC ((r.drop (2 + t)).getD 0 0) = false then 0 else 2 + (t : Int) + bIndexW (r.drop (2 + t)) [63,62] + 2) = 0 then (p,11) else skipGo d b (p + (if t = 0 ∨ bIndexW (r.drop (2 + t)) [63,62] < 0 ∨ bIndexW (r.drop (2 + t)) [63,62] > 0 ∧ blankC ((r.drop (2 + t)).getD 0 0) = false then 0 else 2 + (t : Int) + bIndexW (r.drop (2 + t)) [63,62] + 2))).2]),lcRet [] [] 0) : Option (Rr U0)) := by
     intro A hA hor
     rw [hA _ rfl]
     generalize bIndexW (r.drop (2 + t)) [63,62] = j at q1 q2 hz i ⊢
     by_cases j0 : j < 0
     · rw [if_pos (decide_eq_true j0),if_pos (if_pos (.inr (.inl j0)))]
     · have e0 : (if j = -1 then 0 else ([63,62] : List Int).length) = 2 := if_neg (by omega)
       rw [e0] at q2
       have h3 : ¬ (t = 0 ∨ j < 0 ∨ j > 0 ∧ blankC ((r.drop (2 + t)).getD 0 0) = false) := by
        rintro (q | q | ⟨q,q'⟩)
        · exact t0 q
        · exact j0 q
        · rcases hor with z | z
          · have := hz.1 z; omega
          · rw [q'] at z; cases z
       rw [if_neg h3] at i
       rw [if_neg (by simpa using j0),if_neg h3,if_neg (by omega),show IntKind.i64.wrap (j + ((t : Int) + 4)) = 2 + (t : Int) + j + 2 by rw [wrap_64]; unfold wrap64; omega]
       exact next _ (by rw [wrap_64]; unfold wrap64; omega) (by omega) (by omega)
    by_cases s0 : (r.drop (2 + t)).take 2 = [63,62]
    · rw [if_neg (by rw [decide_eq_true s0]; decide),if_pos (by omega),if_pos (by omega),find_to hb2' _ [63,62] rfl (by decide) (by omega),Option.bind_some]
      exact fin (fun j hj => by rw [hj]) (.inl s0)
    · rw [if_pos (by rw [decide_eq_false s0]; rfl),if_pos (by omega),if_pos (by omega),blanks_lim hb2' (by omega),Option.bind_some]
      by_cases s1 : blankC ((r.drop (2 + t)).getD 0 0) = true
      · have : blankN (r.drop (2 + t)) ≠ 0 := fun z => by rw [hbl] at z; rw [z] at s1; cases s1
        rw [if_neg (by rw [false_or_b,true_and_b,beq_iff_eq]; omega),if_pos (by omega),if_pos (by omega),find_to hb2' _ [63,62] rfl (by decide) (by omega),Option.bind_some]
        exact fin (fun j hj => by rw [hj]) (.inr s1)
      · have s2 : blankC ((r.drop (2 + t)).getD 0 0) = false := by simpa using s1
        have s3 := hbl.2 s2
        rw [if_pos (by rw [false_or_b,true_and_b,beq_iff_eq]; omega)]
        have h3 : t = 0 ∨ bIndexW (r.drop (2 + t)) [63,62] < 0 ∨ bIndexW (r.drop (2 + t)) [63,62] > 0 ∧ blankC ((r.drop (2 + t)).getD 0 0) = false := by
         rcases Int.lt_trichotomy (bIndexW (r.drop (2 + t)) [63,62]) 0 with z | z | z
         · exact .inr (.inl z)
         · exact absurd (hz.2 z) s0
         · exact .inr (.inr ⟨z,s2⟩)
        rw [if_pos (if_pos h3)]
  · rw [if_neg (by rw [decide_eq_true_eq]; exact a1),beg_at hr _ [60,63] 2 rfl rfl,Option.bind_some,if_neg (by rw [decide_eq_true_eq]; exact a2),e]
theorem dossierref05_Skip.ok : AllOk specs_dossierref05_Skip := okS (cx := cx_dossierref05_Skip) rfl xmllex_Skip.ok (by kernel_rfl) fun args cs n K r g => by
 unfold dossierref05_Skip.spec at g
 dsimp only [lcSt] at g
 split at g
 · rename_i b p
   obtain ⟨v,h,h2⟩ := bind2 g
   clear g
   refine okG h2 ?_
   clear h2
   refine ⟨0 + (b.length + 1),?_⟩
   rw [dossierref05_Skip.top]
   unfold skipX at h
   split at h
   · rename_i hs
     obtain rfl := Option.some.inj h
     unfold skipW
     by_cases c : p < 0 ∨ p > b.length
     · rw [if_pos (by rw [ite_or,decide_eq_true_eq,decide_eq_true_eq]; exact c),if_pos c]
     · rw [if_neg (by rw [ite_or,decide_eq_true_eq,decide_eq_true_eq]; exact c),if_neg c]
       exact rskip_L0 _ b p hs (b.length + 1) 0 p (by omega) (by omega) (by omega)
   · cases h
 · cases g
end Go.Proofs.YtccfmfifnbnlmaaGreatDoor.Ev
end
section
/- dossierref05.plain as a sealed word. -/
set_option linter.unusedVariables false
set_option linter.unusedSimpArgs false
namespace Go.Proofs.YtccfmfifnbnlmaaGreatDoor.Ev
open Go Go.RowKit Go.Proofs.YtccfmfifnbnlmaaGreatDoorW.PrintWords Go.Proofs.YtccfmfifnbnlmaaGreatDoor.Pl
theorem crlf_skip (t : List Int) : crlf (13 :: 10 :: t) = crlf (10 :: t) := by
 rw [crlf,if_pos ⟨rfl,rfl⟩]
 cases t with
 | nil => rfl
 | cons y t => rw [crlf,if_neg (fun q => absurd q.1 (by decide))]
theorem crlf_go {x : Int} {t : List Int} (h : ¬ (x = 13 ∧ t.getD 0 0 = 10)) : crlf (x :: t) = x :: crlf t := by
 cases t with
 | nil => rfl
 | cons y t => rw [crlf,if_neg (by simpa using h)]
def blankG (v : Bool) (x : Int) : Int := if v = true ∧ (x = 9 ∨ x = 10) then 32 else x
theorem plain_l1 (v : Bool) : ∀ (d i k : Nat) (l : List Int),i + d = l.length → l.length ≤ 8000000 → dossierref05_plain.l1 (k + d + 1) v l (l.length : Int) (i : Int) = some (l.take i ++ (l.drop i).map (blankG v)) := by
 intro d
 induction d with
 | zero =>
  intro i k l hi hl
  rw [show k + 0 + 1 = k + 1 from rfl,dossierref05_plain.l1,if_neg (by omega),List.drop_of_length_le (by omega),List.take_of_length_le (by omega),List.map_nil,List.append_nil]
 | succ d ih =>
  intro i k l hi hl
  have hlt : i < l.length := by omega
  have er : rd l (i : Int) = l[i]'hlt := by unfold rd; rw [Int.toNat_natCast,List.getD_eq_getElem?_getD,List.getElem?_eq_getElem hlt]; rfl
  have ew : wrap64 ((i : Int) + 1) = ((i + 1 : Nat) : Int) := by unfold wrap64; omega
  rw [show k + (d + 1) + 1 = (k + d + 1) + 1 from rfl,dossierref05_plain.l1,if_pos (by omega),if_pos (by omega),if_pos (by omega),er,ew,Int.toNat_natCast]
  have e1 : l.drop i = l[i]'hlt :: l.drop (i + 1) := List.drop_eq_getElem_cons hlt
  have e2 : l.take (i + 1) = l.take i ++ [l[i]'hlt] := (List.take_append_getElem hlt).symm
  have keep : blankG v (l[i]'hlt) = l[i]'hlt → dossierref05_plain.l1 (k + d + 1) v l (l.length : Int) ((i + 1 : Nat) : Int) = some (l.take i ++ (l.drop i).map (blankG v)) := by
   intro hg
   rw [ih (i + 1) k l (by omega) hl,e2,e1,List.map_cons,hg,List.append_assoc]; rfl
  have put : blankG v (l[i]'hlt) = 32 → dossierref05_plain.l1 (k + d + 1) v (l.set i 32) (l.length : Int) ((i + 1 : Nat) : Int) = some (l.take i ++ (l.drop i).map (blankG v)) := by
   intro hg
   have := ih (i + 1) k (l.set i 32) (by rw [List.length_set]; omega) (by rw [List.length_set]; omega)
   rw [List.length_set] at this
   rw [this,e1,List.map_cons,hg,List.drop_set_of_lt (by omega)]
   have e3 : (l.set i 32).take (i + 1) = l.take i ++ [32] := by
    have hlt2 : i < (l.set i 32).length := by rw [List.length_set]; exact hlt
    rw [← List.take_append_getElem hlt2,List.take_set_of_le (Nat.le_refl i),List.getElem_set_self]
   rw [e3,List.append_assoc]; rfl
  cases v with
  | false => rw [if_neg (by decide)]; exact keep (by unfold blankG; rw [if_neg (fun q => by cases q.1)])
  | true =>
   rw [if_pos rfl]
   by_cases c1 : l[i]'hlt = 9
   · rw [if_pos c1]; exact put (by unfold blankG; rw [if_pos ⟨rfl,.inl c1⟩])
   · rw [if_neg c1]
     by_cases c2 : l[i]'hlt = 10
     · rw [if_pos c2]; exact put (by unfold blankG; rw [if_pos ⟨rfl,.inr c2⟩])
     · rw [if_neg c2]; exact keep (by unfold blankG; rw [if_neg (fun q => q.2.elim c1 c2)])
theorem crlf_len : ∀ l : List Int,(crlf l).length ≤ l.length
 | [] => Nat.le_refl _
 | [x] => Nat.le_refl _
 | x :: y :: t => by
  rw [crlf]
  split
  · have := crlf_len t; simp only [List.length_cons]; omega
  · have := crlf_len (y :: t); simp only [List.length_cons] at this ⊢; omega
theorem plain_l0 (l : List Int) (v : Bool) (hl : l.length ≤ 8000000) : ∀ (d i k : Nat) (acc : List Int),i + d = l.length → acc.length ≤ i → dossierref05_plain.l0 (k + l.length + 2 * d + 2) l v acc l (l.length : Int) (i : Int) = some ((acc ++ (crlf (l.drop i)).map r2n).map (blankG v)) := by
 intro d
 induction d with
 | zero =>
  intro i k acc hi ha
  rw [show k + l.length + 2 * 0 + 2 = (k + (l.length - acc.length) + acc.length + 1) + 1 by omega,dossierref05_plain.l0,if_neg (by omega),List.drop_of_length_le (by omega)]
  have := plain_l1 v acc.length 0 (k + (l.length - acc.length)) acc (by omega) (by omega)
  refine this.trans ?_
  rw [show crlf [] = [] from rfl,List.map_nil,List.append_nil,List.take_zero,List.drop_zero,List.nil_append]
 | succ d ih =>
  intro i k acc hi ha
  have hlt : i < l.length := by omega
  have er : rd l (i : Int) = l[i]'hlt := by unfold rd; rw [Int.toNat_natCast,List.getD_eq_getElem?_getD,List.getElem?_eq_getElem hlt]; rfl
  have ew : wrap64 ((i : Int) + 1) = ((i + 1 : Nat) : Int) := by unfold wrap64; omega
  have e1 : l.drop i = l[i]'hlt :: l.drop (i + 1) := List.drop_eq_getElem_cons hlt
  have eh : (l.drop (i + 1)).getD 0 0 = l.getD (i + 1) 0 := by rw [List.getD_eq_getElem?_getD,List.getElem?_drop,List.getD_eq_getElem?_getD]
  have next : ∀ (acc' : List Int),acc'.length ≤ i + 1 → (acc' ++ (crlf (l.drop (i + 1))).map r2n) = (acc ++ (crlf (l.drop i)).map r2n) → dossierref05_plain.l0 (k + l.length + 2 * d + 2) l v acc' l (l.length : Int) ((i + 1 : Nat) : Int) = some ((acc ++ (crlf (l.drop i)).map r2n).map (blankG v)) := by
   intro acc' h1 h2
   rw [ih (i + 1) k acc' (by omega) h1,h2]
  rw [show k + l.length + 2 * (d + 1) + 2 = ((k + l.length + 2 * d + 2) + 1) + 1 by omega,dossierref05_plain.l0,if_pos (by omega),if_pos (by omega),if_pos (by omega),er,ew]
  by_cases c1 : l[i]'hlt = 13
  · rw [if_pos c1]
    have noskip : ¬ (l.drop (i + 1)).getD 0 0 = 10 → dossierref05_plain.j1 ((k + l.length + 2 * d + 2) + 1) l v acc (l[i]'hlt) l (l.length : Int) (i : Int) false = some ((acc ++ (crlf (l.drop i)).map r2n).map (blankG v)) := by
     intro hn
     rw [dossierref05_plain.j1,if_neg (by decide),if_pos c1,if_pos (by omega),ew]
     refine next _ (by rw [List.length_append]; simp; omega) ?_
     rw [e1,crlf_go (fun q => hn q.2),List.map_cons,c1,List.append_assoc]; rfl
    by_cases c2 : i + 1 < l.length
    · rw [if_pos (by omega),if_pos (by omega)]
      have er2 : rd l ((i + 1 : Nat) : Int) = l.getD (i + 1) 0 := rfl
      rw [er2]
      by_cases c3 : l.getD (i + 1) 0 = 10
      · rw [c3,dossierref05_plain.j1,if_pos (by decide),ew]
        refine next _ (by omega) ?_
        have hlt2 : i + 1 < l.length := c2
        have e4 : l.drop (i + 1) = 10 :: l.drop (i + 2) := by
         rw [List.drop_eq_getElem_cons hlt2]
         congr 1
         rw [List.getD_eq_getElem?_getD,List.getElem?_eq_getElem hlt2] at c3
         exact c3
        rw [e1,c1,e4,crlf_skip]
      · rw [beq_eq_false_iff_ne.2 c3]
        exact noskip (by rw [eh]; exact c3)
    · rw [if_neg (by omega)]
      exact noskip (by rw [List.drop_of_length_le (by omega)]; decide)
  · rw [if_neg c1,dossierref05_plain.j1,if_neg (by decide),if_neg c1,if_pos (by omega),ew]
    refine next _ (by rw [List.length_append]; simp; omega) ?_
    rw [e1,crlf_go (fun q => c1 q.1),List.map_cons,List.append_assoc]
    unfold r2n
    rw [if_neg c1]; rfl
theorem plain_spec {l : List Int} (v : Bool) (hl : l.length ≤ 8000000) : dossierref05_plain.f (0 + l.length + 2 * l.length + 2) l v = some (linesW l v) := by
 unfold dossierref05_plain.f
 have := plain_l0 l v hl l.length 0 0 [] (by omega) (by simp)
 refine this.trans ?_
 rw [List.drop_zero,List.nil_append]
 unfold linesW
 cases v with
 | false =>
  rw [if_neg (by decide),show blankG false = id from funext fun x => by unfold blankG; rw [if_neg (fun q => by cases q.1)]; rfl,List.map_id]
 | true =>
  rw [if_pos rfl,List.map_map (g := t2s)]
  congr 1
  refine List.map_congr_left fun x _ => ?_
  show blankG true x = t2s (n2s x)
  unfold blankG t2s n2s
  by_cases c1 : x = 10
  · simp [c1]
  · by_cases c2 : x = 9
    · simp [c2]
    · simp [c1,c2]
section
variable {U : Nat → Type} {C : Codec U}
theorem newOf_R {w w' : World} {e : Nat} {v : Value} {xs : List Int} (h : Kd.R (Kd.int .u8) e w' w.heap.size (fun _ => True) v xs) : NewOf w w' xs v := by
 have h0 := h
 obtain ⟨_,inner,ho,hr⟩ := h
 obtain ⟨h1,h2⟩ := ho
 rcases h2 with ⟨rfl,hn⟩ | ⟨g,cap,cur,rfl,hg,hh,hle,hmax,hcs,htake⟩
 · exact .inl ⟨rfl,List.eq_nil_of_length_eq_zero hn⟩
 · refine .inr ⟨g,cap,rfl,hg,hle,fun i hi => ?_⟩
   obtain ⟨ad,e1,e2⟩ := Kd.at_int (Kd.R_reads' h0).2.2 (i : Int) (by omega) (by omega)
   obtain rfl := Option.some.inj e1
   rw [Lib.addr_add,Int.toNat_natCast] at e2
   rw [e2]
   unfold rd
   rw [Int.toNat_natCast]
theorem C_bytes8 {w : World} {blk off : Nat} {l : List Int} (hl : l.length ≤ 9223372036854775807) (h : ∀ i,i < l.length → w.cell? ⟨blk,off + i,none⟩ = some (.int .u8 (l.getD i 0))) : Kd.C (Kd.int .u8) w (some ⟨blk,off,none⟩) l.length l := by
 refine ⟨rfl,hl,fun _ => ⟨_,rfl,fun j p hj => ⟨[.int .u8 p],rfl,?_,fun i u hu => ?_⟩⟩⟩
 · exact rfl
 · have hlt := (List.getElem?_eq_some_iff.1 hj).1
   have := h j hlt
   rw [List.getD_eq_getElem?_getD,hj] at this
   cases i with
   | zero =>
    obtain rfl : Value.int .u8 p = u := by simpa using hu
    rw [Lib.addr_add]
    show w.cell? ⟨blk,off + (j * 1 + 0),none⟩ = _
    rw [Nat.mul_one,Nat.add_zero]
    exact this
   | succ i => simp at hu
theorem C_none8 {w : World} (A : Option Addr) : Kd.C (Kd.int .u8) w A 0 [] := ⟨rfl,by omega,fun h => absurd h (Nat.lt_irrefl 0)⟩
def plainF : List (AVal U) → Option (AVal U)
 | [.sl (.int .u8) l _,.bool v] => if okB l then some (.sl (.int .u8) (linesW l v) .no) else none
 | _ => none
theorem plain_ok : CallOk (R := Rr U) Tryz.prog C 38 (asExt plainF) := by
 refine callOk_ext fun args v h g w cs ha hi hw => ?_
 unfold plainF at h
 split at h
 · rename_i l _ b
   split at h
   · rename_i hs
     obtain rfl := Option.some.inj h
     obtain ⟨hb,hl⟩ := hs
     obtain ⟨c,d,rfl,hc,hd⟩ := RelVs.two ha
     cases hd
     cases hc with
     | sl0 =>
      refine (dossierref05_plain.calls _ none 0 [] b _ w (C_none8 _) (Nat.le_refl _) (plain_spec b hl)).mono fun e w' ⟨v0,h1,h2,h3⟩ => ?_
      exact ⟨v0,h1,h3,newOf_rel (newOf_R h2)⟩
     | sle =>
      refine (dossierref05_plain.calls _ _ 0 [] b _ w (C_none8 _) (Nat.le_refl _) (plain_spec b hl)).mono fun e w' ⟨v0,h1,h2,h3⟩ => ?_
      exact ⟨v0,h1,h3,newOf_rel (newOf_R h2)⟩
     | sl hs1 hm1 hl1 hp1 =>
      rename_i blk off cap vs
      obtain rfl := RelVs.nums hs1
      have hx : ∀ i,i < l.length → w.cell? ⟨blk,off + i,none⟩ = some (.int .u8 (l.getD i 0)) := fun i hlt => by
       refine hi _ _ _ (hm1 i _ ?_)
       rw [List.getElem?_map,List.getElem?_eq_getElem hlt,List.getD_eq_getElem?_getD,List.getElem?_eq_getElem hlt]; rfl
      refine (dossierref05_plain.calls _ _ cap l b _ w (C_bytes8 (by omega) hx) hl1 (plain_spec b hl)).mono fun e w' ⟨v0,h1,h2,h3⟩ => ?_
      exact ⟨v0,h1,h3,newOf_rel (newOf_R h2)⟩
   · cases h
 · cases h
def plainS {R : Type} : List (AVal U) → St U → (Res U → St U → Option R) → Option R := fun args st K => match args with
 | [.sl (.int .u8) l _,.bool v] => (linesX l v).bind fun r => K (.ret (.sl (.int .u8) r .no)) st
 | _ => none
theorem plainS_ok : CallOkL (R := Rr U) Tryz.prog C 38 plainS := callOk_by plain_ok fun args st K r h => by
 unfold plainS at h
 unfold asExt plainF
 split at h
 · unfold linesX at h
   split at h
   · rename_i h1
     rw [if_pos h1]; exact h
   · cases h
 · cases h
end
noncomputable def specs_plainS : SpecL := (38,false,plainS) :: specs_dossierref05_Skip
theorem plainS.ok : AllOk specs_plainS := allOk_cons dossierref05_Skip.ok (fnOk_of (by kernel_rfl)) plainS_ok
end Go.Proofs.YtccfmfifnbnlmaaGreatDoor.Ev
end
