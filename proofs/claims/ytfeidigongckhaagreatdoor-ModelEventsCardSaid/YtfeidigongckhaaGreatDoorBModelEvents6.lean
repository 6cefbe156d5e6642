/- Several texts in one, in their order. -/
import Derived.Test.YtfeidigongckhaaGreatDoorBModelEvents5
import Derived.WalkKit
import Derived.Lib.ConvBytes
import Derived.Shelf.Unicode.DecodeSlow
import Derived.Lib.LaidU8T
import Derived.Lib.Join
import Derived.Lib.SlTrimSet
import Derived.RowKit
import Derived.Shelf.Lays7
import Derived.Shelf.Spec.DecodeRune
import Derived.Shelf.Spec.NilArms
import Derived.Shelf.Small.Strs
import Derived.Shelf.Strings.SlTrimAscii
import Derived.Test.YtfeidigongckhaaGreatDoorProg
import Derived.Shelf.Strings.OnBuilder
section
-- PRINTED BY print.sh 35421559b90ae4d0a3588c463048766b98c2df88dd9212a6774a882060cdf62d: not written by this session
/-! ### 40. Elements whose inner rows lie apart: what is stored into one says nothing of the others.
   S: as R, with an owner function f (block to element's index). H: as S with a hole: of element i its cells alone are told, its blocks are oki. -/
namespace Go.Proofs.YtfeidigongckhaaGreatDoorW.PrintWords
open Go.RowKit
namespace Kd
/-- An element with its index: its blocks are those that f gives to it. -/
def tag {α : Type} (f : Nat → Nat) (d : Kd α) : Kd (α × Nat) where
  sz := d.sz
  E := d.E
  K := fun w x cs => d.K w x.1 cs
  M := fun w base ok x cs => d.M w base (fun k => ok k ∧ f k = x.2) x.1 cs
  K_len := fun h => d.K_len h
  K_one := fun h => d.K_one h
  K_below := fun hb h => d.K_below hb h
  K_of_M := fun h => d.K_of_M h
  M_mono := fun hok h => d.M_mono (fun k hk => ⟨hok k hk.1, hk.2⟩) h
  M_bound := fun h => d.M_mono (fun _ hk => ⟨⟨hk.1.1, hk.2⟩, hk.1.2⟩) (d.M_bound h)
  M_move := fun hm h => d.M_move (fun k hk => hm k hk.1) h
  M_lower := fun hb h => d.M_lower hb h
/-- Nothing but its cells: no block is said of it. -/
def bare {α : Type} (d : Kd α) : Kd α where
  sz := d.sz
  E := d.E
  K := d.K
  M := fun w base _ x cs => d.M w base (fun _ => False) x cs
  K_len := fun h => d.K_len h
  K_one := fun h => d.K_one h
  K_below := fun hb h => d.K_below hb h
  K_of_M := fun h => d.K_of_M h
  M_mono := fun _ h => h
  M_bound := fun h => h
  M_move := fun _ h => d.M_move (fun _ hk => hk.elim) h
  M_lower := fun hb h => d.M_lower hb h
/-- The cells themselves. -/
def raw (sz : Nat) : Kd (List Value) where
  sz := sz
  E := []
  K := fun _ x cs => cs = x ∧ cs.length = sz ∧ ∀ u ∈ cs, u.oneCell' = true
  M := fun _ _ _ x cs => cs = x ∧ cs.length = sz ∧ ∀ u ∈ cs, u.oneCell' = true
  K_len := fun h => h.2.1
  K_one := fun h => h.2.2
  K_below := fun _ h => h
  K_of_M := fun h => h
  M_mono := fun _ h => h
  M_bound := fun h => h
  M_move := fun _ h => h
  M_lower := fun _ h => h
/-- A row of elements (type e) of the call's own, no two of which lead to one block. -/
def S {α : Type} (d : Kd α) (e : Nat) (w : World) (base : Nat) (ok : Nat → Prop) (v : Value) (xs : List α) : Prop := ∃ f, (tag f d).R e w base ok v xs.zipIdx
section
variable {α β : Type} {d : Kd α} {d' : Kd β} {e e' : Nat} {w w1 W : World} {base b : Nat} {ok ok' okv oku : Nat → Prop} {u v : Value} {xs : List α} {ys : List β}
end
section
variable {α β : Type} {d : Kd α} {d' : Kd β} {e e' g : Nat} {w w1 W : World} {base b : Nat} {ok ok' okv oku : Nat → Prop} {u v : Value} {xs : List α} {ys : List β}
end
/-! #### append, make, literals: the new element's blocks are none of the elder ones' -/
section
variable {P : Program} {ops : Array Oper} {rest : List Oper} {o : Oper} {a : Act} {Q : Exit → Act → World → Prop} {Kc : Act → World → Prop} {α : Type}
end
/-! #### a row with a hole: element i is lent, its blocks are oki; of it the row says its cells alone -/
/-- Element i is these cells; the others are d's. -/
def gap {α : Type} (f : Nat → Nat) (d : Kd α) (i : Nat) (c : List Value) : Kd (α × Nat) where
  sz := d.sz
  E := d.E
  K := fun w x cs => (x.2 = i → cs = c ∧ cs.length = d.sz ∧ ∀ u ∈ cs, u.oneCell' = true) ∧ (x.2 ≠ i → d.K w x.1 cs)
  M := fun w base ok x cs => (x.2 = i → cs = c ∧ cs.length = d.sz ∧ ∀ u ∈ cs, u.oneCell' = true) ∧ (x.2 ≠ i → d.M w base (fun k => ok k ∧ f k = x.2) x.1 cs)
  K_len := fun {w x cs} h => by
    by_cases hx : x.2 = i
    · exact (h.1 hx).2.1
    · exact d.K_len (h.2 hx)
  K_one := fun {w x cs} h => by
    by_cases hx : x.2 = i
    · exact (h.1 hx).2.2
    · exact d.K_one (h.2 hx)
  K_below := fun hb h => ⟨h.1, fun hx => d.K_below hb (h.2 hx)⟩
  K_of_M := fun h => ⟨h.1, fun hx => d.K_of_M (h.2 hx)⟩
  M_mono := fun hok h => ⟨h.1, fun hx => d.M_mono (fun k hk => ⟨hok k hk.1, hk.2⟩) (h.2 hx)⟩
  M_bound := fun h => ⟨h.1, fun hx => d.M_mono (fun _ hk => ⟨⟨hk.1.1, hk.2⟩, hk.1.2⟩) (d.M_bound (h.2 hx))⟩
  M_move := fun hm h => ⟨h.1, fun hx => d.M_move (fun k hk => hm k hk.1) (h.2 hx)⟩
  M_lower := fun hb h => ⟨h.1, fun hx => d.M_lower hb (h.2 hx)⟩
def H {α : Type} (d : Kd α) (e : Nat) (w : World) (base : Nat) (ok : Nat → Prop) (v : Value) (xs : List α) (i : Int) (oki : Nat → Prop) (c : List Value) : Prop :=
  (∀ k, oki k → ok k) ∧ ∃ f, (gap f d i.toNat c).R e w base (fun k => ok k ∧ ¬ oki k) v xs.zipIdx
section
variable {α β : Type} {d : Kd α} {e e' g n cap : Nat} {w w1 W : World} {base : Nat} {ok ok' oki okp : Nat → Prop} {u v : Value} {xs : List α} {i : Int} {c : List Value}
end
section
variable {P : Program} {ops : Array Oper} {rest : List Oper} {o : Oper} {a : Act} {Q : Exit → Act → World → Prop} {α : Type}
end
end Kd
end Go.Proofs.YtfeidigongckhaaGreatDoorW.PrintWords
end
section
-- PRINTED BY print.sh 35421559b90ae4d0a3588c463048766b98c2df88dd9212a6774a882060cdf62d: not written by this session
/-! ### 41. Arrays '[n]T' as_ values: a kind (a field, an element of a row), an element read, an element set -/
namespace Go.Proofs.YtfeidigongckhaaGreatDoorW.PrintWords
open Go.RowKit
namespace Kd
theorem reps_one {α : Type} {R : α → List Value → Prop} {size : Nat} {ps : List α} {cs : List Value} (h : Reps R size ps cs) (hs0 : 0 < size) (hR : ∀ p c, R p c → ∀ u ∈ c, u.oneCell' = true) : ∀ u ∈ cs, u.oneCell' = true := by
  intro u hu
  obtain ⟨q, hq, rfl⟩ := List.mem_iff_getElem.1 hu
  have hql : q / size < ps.length := by
    rw [Nat.div_lt_iff_lt_mul hs0, ← h.1]
    exact hq
  refine hR _ _ (h.2 (q / size) _ (List.getElem?_eq_getElem hql)) _ ?_
  rw [List.mem_iff_getElem?]
  refine ⟨q % size, ?_⟩
  rw [List.getElem?_take, if_pos (Nat.mod_lt _ hs0), List.getElem?_drop, Nat.mul_comm, Nat.div_add_mod, List.getElem?_eq_getElem hq]
/-- An array of n elements of kind d. -/
def arr {α : Type} (n : Nat) (d : Kd α) (hs : 0 < d.sz) : Kd (List α) where
  sz := n * d.sz
  E := d.E
  K := fun w xs cs => xs.length = n ∧ Reps (d.K w) d.sz xs cs
  M := fun w base ok xs cs => xs.length = n ∧ Reps (d.M w base ok) d.sz xs cs
  K_len := fun h => by rw [← h.1]; exact h.2.1
  K_one := fun h => reps_one h.2 hs (fun _ _ hk => d.K_one hk)
  K_below := fun hb h => ⟨h.1, h.2.imp_ (fun _ _ hk => d.K_below hb hk)⟩
  K_of_M := fun h => ⟨h.1, h.2.imp_ (fun _ _ hk => d.K_of_M hk)⟩
  M_mono := fun hok h => ⟨h.1, h.2.imp_ (fun _ _ hk => d.M_mono hok hk)⟩
  M_bound := fun h => ⟨h.1, h.2.imp_ (fun _ _ hk => d.M_bound hk)⟩
  M_move := fun hm h => ⟨h.1, h.2.imp_ (fun _ _ hk => d.M_move hm hk)⟩
  M_lower := fun hb h => ⟨h.1, h.2.imp_ (fun _ _ hk => d.M_lower hb hk)⟩
section
variable {α : Type} {n : Nat} {d : Kd α} {hs : 0 < d.sz} {w : World} {base : Nat} {ok : Nat → Prop} {xs : List α} {cs : List Value}
end
section
variable {α : Type} {n : Nat} {enc : α → Value} {h1 : ∀ x, (enc x).oneCell' = true} {hs : 0 < (scalar enc h1).sz} {w : World} {base : Nat} {ok : Nat → Prop} {xs : List α} {cs : List Value}
end
end Kd
end Go.Proofs.YtfeidigongckhaaGreatDoorW.PrintWords
end
section
-- PRINTED BY print.sh 35421559b90ae4d0a3588c463048766b98c2df88dd9212a6774a882060cdf62d: not written by this session
/-! ### 42. append(v, make([]T, n)...): the operation comes as_ append with the number in the second place -/
namespace Go.Proofs.YtfeidigongckhaaGreatDoorW.PrintWords
open Go.RowKit
section
variable {P : Program}
end
namespace Kd
section
variable {P : Program} {ops : Array Oper} {rest : List Oper} {o : Oper} {a : Act} {Q : Exit → Act → World → Prop} {Kc : Act → World → Prop} {α : Type}
end
/-! #### the same for rows whose elements lie apart -/
/-- As_ tag; an element without index leads to nothing. -/
def tagO {α : Type} (f : Nat → Nat) (d : Kd α) : Kd (α × Option Nat) where
  sz := d.sz
  E := d.E
  K := fun w x cs => d.K w x.1 cs
  M := fun w base ok x cs => d.M w base (fun k => ok k ∧ some (f k) = x.2) x.1 cs
  K_len := fun h => d.K_len h
  K_one := fun h => d.K_one h
  K_below := fun hb h => d.K_below hb h
  K_of_M := fun h => d.K_of_M h
  M_mono := fun hok h => d.M_mono (fun k hk => ⟨hok k hk.1, hk.2⟩) h
  M_bound := fun h => d.M_mono (fun _ hk => ⟨⟨hk.1.1, hk.2⟩, hk.1.2⟩) (d.M_bound h)
  M_move := fun hm h => d.M_move (fun k hk => hm k hk.1) h
  M_lower := fun hb h => d.M_lower hb h
section
variable {α : Type} {d : Kd α} {e : Nat} {w : World} {base : Nat} {ok : Nat → Prop} {v : Value} {xs : List α}
def zipO (xs : List α) (z : α) (m : Nat) : List (α × Option Nat) := xs.zipIdx.map (fun p => (p.1, some p.2)) ++ List.replicate m (z, none)
end
section
variable {P : Program} {ops : Array Oper} {rest : List Oper} {o : Oper} {a : Act} {Q : Exit → Act → World → Prop} {Kc : Act → World → Prop} {α : Type}
end
end Kd
end Go.Proofs.YtfeidigongckhaaGreatDoorW.PrintWords
end
section
-- PRINTED BY print.sh 35421559b90ae4d0a3588c463048766b98c2df88dd9212a6774a882060cdf62d: not written by this session
/-! ### 43. What is read beside a state: it stays read whatever the state's calls turn ('∀ W', KeepBut w W' g none → d.C W' A n xs') -/
namespace Go.Proofs.YtfeidigongckhaaGreatDoorW.PrintWords
open Go.RowKit
namespace Kd
/-- What a kind reads lies in the blocks: nothing else of the world is looked at. -/
structure Heap {α : Type} (d : Kd α) : Prop where
  K : ∀ {w w1 : World} {x : α} {cs : List Value}, (∀ k, k < w.heap.size → w1.heap[k]? = w.heap[k]?) → d.K w x cs → d.K w1 x cs
theorem cell_heap {w w1 : World} (hb : ∀ k, k < w.heap.size → w1.heap[k]? = w.heap[k]?) {a : Addr} {v : Value} (h : w.cell? a = some v) : w1.cell? a = some v := by
  have := hb a.block (World.block_lt_of_cell? w a h)
  simpa [World.cell?, this] using h
theorem Heap.C {α : Type} {d : Kd α} (hd : Heap d) {w w1 : World} {A : Option Addr} {n : Nat} {xs : List α} (hb : ∀ k, k < w.heap.size → w1.heap[k]? = w.heap[k]?) (h : d.C w A n xs) : d.C w1 A n xs :=
  ⟨h.1, h.2.1, fun hn => by
    obtain ⟨ad, e, hc⟩ := h.2.2 hn
    refine ⟨ad, e, fun j p hj => ?_⟩
    obtain ⟨c, hs, hr, hcell⟩ := hc j p hj
    exact ⟨c, hs, hd.K hb hr, fun i u hu => cell_heap hb (hcell i u hu)⟩⟩
section
variable {α : Type} {d : Kd α} {e base g n c : Nat} {ok : Nat → Prop} {w w0 W : World} {A : Option Addr} {xs : List α}
end
end Kd
end Go.Proofs.YtfeidigongckhaaGreatDoorW.PrintWords
end
section
-- PRINTED BY print.sh 35421559b90ae4d0a3588c463048766b98c2df88dd9212a6774a882060cdf62d: not written by this session
/-! ### 45. What a call keeps: all but the blocks of S (the rows that it was given to write) and what is new since -/
namespace Go.Proofs.YtfeidigongckhaaGreatDoorW.PrintWords
open Go.RowKit
def Kept (w W : World) (S : Nat → Prop) : Prop := w.heap.size ≤ W.heap.size ∧ ∀ i, i < w.heap.size → ¬ S i → W.heap[i]? = w.heap[i]?
section
variable {w W W2 : World} {S S2 S' : Nat → Prop}
theorem Kept.refl (w : World) (S : Nat → Prop) : Kept w w S := ⟨Nat.le_refl _, fun _ _ _ => rfl⟩
theorem Kept.of_below (h : Below w.heap.size w W) (S : Nat → Prop) : Kept w W S := ⟨h.size, fun i hi _ => h.block i hi⟩
theorem Kept.mono (h : Kept w W S) (hs : ∀ k, S k → S' k) : Kept w W S' := ⟨h.1, fun i hi hn => h.2 i hi (fun hk => hn (hs i hk))⟩
theorem Kept.then_ (h : Kept w W S) (k : Kept W W2 S2) (hs : ∀ k, S2 k → S k ∨ w.heap.size ≤ k) : Kept w W2 S :=
  ⟨Nat.le_trans h.1 k.1, fun i hi hn => (k.2 i (Nat.lt_of_lt_of_le hi h.1) (fun h2 => (hs i h2).elim hn (fun h3 => by omega))).trans (h.2 i hi hn)⟩
theorem Kept.below (h : Kept w W S) (hb : Below W.heap.size W W2) : Kept w W2 S := h.then_ (Kept.of_below hb (fun _ => False)) (fun _ hk => hk.elim)
theorem Kept.alloc (h : Kept w W S) (o : Obj) : Kept w (W.alloc o) S := h.below (below_alloc (Below.refl _ _) o)
theorem Kept.drew (h : Kept w W S) : Kept w W.drew S := h
theorem Kept.drewN (h : Kept w W S) (m : Nat) : Kept w (W.drewN m) S := h
theorem Kept.setCell (h : Kept w W S) {p : Addr} (hp : S p.block ∨ w.heap.size ≤ p.block) (u : Value) : Kept w (W.setCell p u) S :=
  h.then_ (S2 := fun k => k = p.block) ⟨by simp [World.setCell], fun i _ hn => Below.heap_setCell W p u i hn⟩ (fun k hk => by rw [hk]; exact hp)
/-- Beside a state: what was written is new since. -/
theorem Kept.keep {g : Nat} (h : KeepBut w W g none) (k : Kept W W2 S2) (hs : ∀ k, S2 k → w.heap.size ≤ k) : KeepBut w W2 g none :=
  ⟨Nat.le_trans h.1 k.1, fun i hi hg hr => (k.2 i (Nat.lt_of_lt_of_le hi h.1) (fun h2 => by have := hs i h2; omega)).trans (h.2 i hi hg hr)⟩
end
namespace Kd
section
variable {α : Type} {d : Kd α} {e base n c : Nat} {ok oki S S2 : Nat → Prop} {w w0 W W1 W2 : World} {v : Value} {A : Option Addr} {xs : List α} {i : Int} {cs : List Value}
end
end Kd
end Go.Proofs.YtfeidigongckhaaGreatDoorW.PrintWords
end
section
-- PRINTED BY print.sh 35421559b90ae4d0a3588c463048766b98c2df88dd9212a6774a882060cdf62d: not written by this session
/-! ### 46. Values that share: what is only read, with the blocks it lies in (its footprint 'ok'): Foot, F (a row that is read), FK (an element's cells) -/
namespace Go.Proofs.YtfeidigongckhaaGreatDoorW.PrintWords
open Go.RowKit
/-- P holds in W and in every world that has W's blocks of ok. -/
def Foot (P : World → Prop) (W : World) (ok : Nat → Prop) : Prop := ∀ W' : World, (∀ k, ok k → k < W.heap.size → W'.heap[k]? = W.heap[k]?) → P W'
theorem heap_lt {W W1 : World} {k : Nat} (h : W1.heap[k]? = W.heap[k]?) (hlt : k < W.heap.size) : k < W1.heap.size := by
  rw [Array.getElem?_eq_getElem hlt] at h
  exact (Array.getElem?_eq_some_iff.1 h).1
namespace Foot
variable {P Q : World → Prop} {W W1 : World} {ok ok' : Nat → Prop}
theorem mono (h : Foot P W ok) (hok : ∀ k, ok k → ok' k) : Foot P W ok' := fun W' hW => h W' (fun k hk hlt => hW k (hok k hk) hlt)
theorem bound (h : Foot P W ok) : Foot P W (fun k => ok k ∧ k < W.heap.size) := fun W' hW => h W' (fun k hk hlt => hW k ⟨hk, hlt⟩ hlt)
theorem step (h : Foot P W ok) (hm : ∀ k, ok k → k < W.heap.size → W1.heap[k]? = W.heap[k]?) : Foot P W1 ok := fun W' hW => h W' (fun k hk hlt => (hW k hk (heap_lt (hm k hk hlt) hlt)).trans (hm k hk hlt))
theorem imp (h : Foot P W ok) (hi : ∀ W', P W' → Q W') : Foot Q W ok := fun W' hW => hi W' (h W' hW)
/-- Moved, and still elder than what is new since W. -/
theorem old (h : Foot P W ok) (hb : Below W.heap.size W W1) : Foot P W1 (fun k => ok k ∧ k < W.heap.size) := (h.bound).step (fun k _ hlt => hb.block k hlt)
end Foot
namespace Kd
/-- A row that is only read: what it leads to lies in ok. -/
def F {α : Type} (d : Kd α) (W : World) (ok : Nat → Prop) (A : Option Addr) (n : Nat) (xs : List α) : Prop := Foot (fun W => d.C W A n xs) W ok
/-- An element's cells: what they lead to lies in ok. -/
def FK {α : Type} (d : Kd α) (W : World) (ok : Nat → Prop) (x : α) (c : List Value) : Prop := Foot (fun W => d.K W x c) W ok
section
variable {α β : Type} {d : Kd α} {e base n n' cc g N : Nat} {ok ok' okp S : Nat → Prop} {w w0 w1 W W1 : World} {A A' : Option Addr} {u v v1 : Value} {xs : List α} {xs' : List β} {d' : Kd β} {x : α} {c : List Value}
end
end Kd
end Go.Proofs.YtfeidigongckhaaGreatDoorW.PrintWords
end
section
-- PRINTED BY print.sh 35421559b90ae4d0a3588c463048766b98c2df88dd9212a6774a882060cdf62d: not written by this session
/-! ### 47. N: a row of the call's own whose elements share (what they lead to is only read) -/
namespace Go.Proofs.YtfeidigongckhaaGreatDoorW.PrintWords
open Go.RowKit
namespace Kd
/-- The cells one behind the other, element by element. -/
def chunks (sz : Nat) (n : Nat) (inner : List Value) : List (List Value) := (List.range n).map fun j => (inner.drop (j * sz)).take sz
section
variable {α : Type} {d : Kd α} {e base n cc g : Nat} {ok ok' okp S : Nat → Prop} {w w1 W W1 : World} {A : Option Addr} {u v v1 : Value} {xs : List α} {x : α} {c : List Value}
/-- A row of elements (type e) of the call's own; what the elements lead to is only read, and is not this row. -/
def N {α : Type} (d : Kd α) (e : Nat) (w : World) (base : Nat) (ok : Nat → Prop) (v : Value) (xs : List α) : Prop :=
  (∀ k, v.ownBlock = some k → ok k) ∧ ∃ rows : List (List Value), rows.length = xs.length ∧ (raw d.sz).R e w base (fun k => some k = v.ownBlock) v rows ∧ ∀ (j : Nat) (x : α) (c : List Value), xs[j]? = some x → rows[j]? = some c → FK d w (fun k => ok k ∧ some k ≠ v.ownBlock) x c
end
end Kd
end Go.Proofs.YtfeidigongckhaaGreatDoorW.PrintWords
end
section
-- PRINTED BY print.sh 35421559b90ae4d0a3588c463048766b98c2df88dd9212a6774a882060cdf62d: not written by this session
/-! ### 48. N's events: append, a whole row appended, zeros appended, literals, make, stores, cuts, an element taken out -/
namespace Go.Proofs.YtfeidigongckhaaGreatDoorW.PrintWords
open Go.RowKit
namespace Kd
section
variable {α : Type} {d : Kd α} {e base n cap g : Nat} {ok ok' okp : Nat → Prop} {w w1 W : World} {v v1 : Value} {xs ys : List α}
end
section
variable {P : Program} {ops : Array Oper} {rest : List Oper} {o : Oper} {a : Act} {Q : Exit → Act → World → Prop} {Kc : Act → World → Prop} {α : Type}
end
end Kd
end Go.Proofs.YtfeidigongckhaaGreatDoorW.PrintWords
end
section
-- PRINTED BY print.sh 35421559b90ae4d0a3588c463048766b98c2df88dd9212a6774a882060cdf62d: not written by this session
-- PRINTED WORDS (module Derived/Print/More.lean): go-gate-2's additions: an AI agent of Go's test side, Tue Nov 17 2026; no person has read it. Lean checks it.
namespace Go.Proofs.YtfeidigongckhaaGreatDoorW.PrintMore
open Go.RowKit Go.Proofs.YtfeidigongckhaaGreatDoorW.PrintWords
namespace Kd
open Go.Proofs.YtfeidigongckhaaGreatDoorW.PrintWords.Kd
end Kd

namespace Kd
open Go.Proofs.YtfeidigongckhaaGreatDoorW.PrintWords.Kd
section
variable {α : Type} {d : Kd α} {e base g N : Nat} {ok : Nat → Prop} {W w1 : World} {u v : Value} {xs : List α}
end
end Kd
end Go.Proofs.YtfeidigongckhaaGreatDoorW.PrintMore
namespace Go.Proofs.YtfeidigongckhaaGreatDoorW.PrintWords
open Go.RowKit
section
variable {P : Program} {ops : Array Oper} {rest : List Oper} {o : Oper} {a : Act} {Q : Exit → Act → World → Prop} {W : World}
end
/-- The greater of two whole numbers, as Go's max tells it. -/
def mx (a b : Int) : Int := if a < b then b else a
/-- The smaller of two whole numbers, as Go's min tells it. -/
def mn (a b : Int) : Int := if b < a then b else a
/-- A shift to the left, as Go tells it: a count beyond the width leaves nothing. -/
def shl (k : IntKind) (x y : Int) : Int := k.wrap (x * 2 ^ min y.toNat k.bits)
/-- A shift to the right: a count beyond the width leaves the sign. -/
def shr (k : IntKind) (x y : Int) : Int := x / 2 ^ min y.toNat k.bits
namespace Kd
section
variable {α : Type} {d : Kd α} {e base : Nat} {ok : Nat → Prop} {W w1 : World} {v : Value} {xs : List α}
end
section
variable {α : Type} {d : Kd α} {e base g n cap : Nat} {ok oki okp : Nat → Prop} {W : World} {xs : List α} {i : Int} {c : List Value}
end
section
variable {α : Type} {d : Kd α} {e base b b' g N : Nat} {ok ok1 : Nat → Prop} {W W2 w1 : World} {u v : Value} {xs ys : List α} {S : Nat → Prop}
end
end Kd
end Go.Proofs.YtfeidigongckhaaGreatDoorW.PrintWords
namespace Go.Proofs.YtfeidigongckhaaGreatDoorW.PrintWords
open Go.RowKit
namespace Kd
/-- A row that is only read, told by its value: its form, its length, what it leads to (in ok). e and base say nothing; they make it as the others are. -/
def V {α : Type} (d : Kd α) (_e : Nat) (W : World) (_base : Nat) (ok : Nat → Prop) (v : Value) (xs : List α) : Prop := ∃ A c, v = .slice A xs.length c ∧ xs.length ≤ c ∧ F d W ok A xs.length xs
section
variable {α β : Type} {d : Kd α} {e base base' n m c g N' lo hi : Nat} {ok ok' S : Nat → Prop} {w W w1 : World} {A : Option Addr} {ad : Addr} {u v v1 : Value} {xs : List α}
end
end Kd
end Go.Proofs.YtfeidigongckhaaGreatDoorW.PrintWords
end
section
/- Words that this session's own contracts use: what is of no program. -/
namespace Go.Proofs.YtfeidigongckhaaGreatDoorH
open Go.RowKit Go.Proofs.YtfeidigongckhaaGreatDoorW.PrintWords Go.Proofs.YtfeidigongckhaaGreatDoorW.PrintLast Go.Proofs.YtfeidigongckhaaGreatDoorW.PrintMore

/-! Bytes of a string, as a row that is read: what was there stays. -/
section
variable {α : Type} {d : Kd α} {e : Nat} {w : World} {base : Nat} {ok : Nat → Prop} {v : Value} {xs : List α}
end
theorem bytesLess_turn : ∀ a b : List UInt8, (!(Op.bytesLess a b || a == b)) = Op.bytesLess b a
  | [], [] => rfl
  | [], _ :: _ => rfl
  | _ :: _, [] => rfl
  | x :: a, y :: b => by
    have ih := bytesLess_turn a b
    rcases Nat.lt_trichotomy x.toNat y.toNat with h | h | h
    · have h1 : x < y := UInt8.lt_iff_toNat_lt.2 h
      have h2 : ¬ y < x := fun z => by have := UInt8.lt_iff_toNat_lt.1 z; omega
      have h3 : ¬ y = x := fun z => by subst z; omega
      simp [Op.bytesLess, h1, h2, h3]
    · obtain rfl : x = y := UInt8.toNat_inj.1 h
      have h2 : ¬ x < x := fun z => by have := UInt8.lt_iff_toNat_lt.1 z; omega
      simp only [Op.bytesLess, h2, decide_false, Bool.false_or, beq_self_eq_true, Bool.true_and]
      rw [← ih]
      simp
    · have h1 : y < x := UInt8.lt_iff_toNat_lt.2 h
      have h2 : ¬ x < y := fun z => by have := UInt8.lt_iff_toNat_lt.1 z; omega
      have h3 : ¬ x = y := fun z => by subst z; omega
      simp [Op.bytesLess, h1, h2, h3]
@[go_sem] theorem binOp_str_gtr (t : TypeId) (a b : ByteArray) : binOp .gtr t (.string a) (.string b) = pure (.bool (Op.bytesLess b.toList a.toList)) := by
  rw [← bytesLess_turn]; simp [binOp, Op.stringOp]
@[go_sem] theorem binOp_str_leq (t : TypeId) (a b : ByteArray) : binOp .leq t (.string a) (.string b) = pure (.bool (!Op.bytesLess b.toList a.toList)) := by
  rw [← bytesLess_turn]; simp [binOp, Op.stringOp]
@[go_sem] theorem binOp_str_geq (t : TypeId) (a b : ByteArray) : binOp .geq t (.string a) (.string b) = pure (.bool (!Op.bytesLess a.toList b.toList)) := by
  simp [binOp, Op.stringOp]
theorem strOfNums_get! (l : List Int) (j : Nat) (hj : j < l.length) : (strOfNums l).get! j = UInt8.ofNat (l[j]).toNat := by
  simp [ByteArray.get!, strOfNums, hj]
/-! What the program lays: the two tables of unicode/utf8. -/
def Laid (w : World) : Prop := Lib.Utf8Tabs 0 1 w
theorem Laid_below {w W : World} (h : Laid w) (hb : Below w.heap.size w W) : Laid W := by
  have c : ∀ {a : Addr} {v : Value}, w.cell? a = some v → W.cell? a = some v := fun hv => (hb.cell (World.block_lt_of_cell? w _ hv)).trans hv
  exact ⟨fun i hi => c (h.1 i hi), fun i hi => ⟨c (h.2 i hi).1, c (h.2 i hi).2⟩⟩
end Go.Proofs.YtfeidigongckhaaGreatDoorH
end
section
set_option linter.unusedVariables false
namespace Go.Proofs.YtfeidigongckhaaGreatDoor.Q
open Go.RowKit Go.Proofs.YtfeidigongckhaaGreatDoorH Go.Proofs.YtfeidigongckhaaGreatDoorW.PrintWords Go.Proofs.YtfeidigongckhaaGreatDoorW.PrintLast Go.Proofs.YtfeidigongckhaaGreatDoorW.PrintMore
def errW : Option Int → Value
  | none => .nilIface
  | some c => .iface 0 (.int .i64 c)
def rd_L3 (xs : List (List Int)) (i : Int) : (List Int) := xs.getD i.toNat ([] : List Int)
structure S101 where
  f0 : Int
  f1 : Int
def z101 : S101 := ⟨(0 : Int), (0 : Int)⟩
def rd_T101 (xs : List S101) (i : Int) : S101 := xs.getD i.toNat z101
structure S77 where
  f0 : ByteArray
  f1 : ByteArray
  f2 : Int
def z77 : S77 := ⟨(⟨#[]⟩ : ByteArray), (⟨#[]⟩ : ByteArray), (0 : Int)⟩
def rd_T77 (xs : List S77) (i : Int) : S77 := xs.getD i.toNat z77
def rd_L7 (xs : List (List S77)) (i : Int) : (List S77) := xs.getD i.toNat ([] : List S77)
structure S62 where
  f0 : (List S77)
  f1 : ByteArray
def z62 : S62 := ⟨([] : List S77), (⟨#[]⟩ : ByteArray)⟩
def rd_T62 (xs : List S62) (i : Int) : S62 := xs.getD i.toNat z62
def rd_L9 (xs : List (List S62)) (i : Int) : (List S62) := xs.getD i.toNat ([] : List S62)
def rd_L11 (xs : List (List ByteArray)) (i : Int) : (List ByteArray) := xs.getD i.toNat ([] : List ByteArray)
structure S37 where
  f0 : ByteArray
  f1 : ByteArray
  f2 : Int
  f3 : (List S62)
  f4 : (List S62)
  f5 : ByteArray
  f6 : ByteArray
  f7 : ByteArray
  f8 : Bool
  f9 : Bool
  f10 : Int
  f11 : (List ByteArray)
  f12 : (List S37)
  f13 : (List S37)
def z37 : S37 := ⟨(⟨#[]⟩ : ByteArray), (⟨#[]⟩ : ByteArray), (0 : Int), ([] : List S62), ([] : List S62), (⟨#[]⟩ : ByteArray), (⟨#[]⟩ : ByteArray), (⟨#[]⟩ : ByteArray), false, false, (0 : Int), ([] : List ByteArray), ([] : List S37), ([] : List S37)⟩
def rd_T37 (xs : List S37) (i : Int) : S37 := xs.getD i.toNat z37
structure S120 where
  f0 : Int
  f1 : ByteArray
  f2 : Int
def z120 : S120 := ⟨(0 : Int), (⟨#[]⟩ : ByteArray), (0 : Int)⟩
def rd_T120 (xs : List S120) (i : Int) : S120 := xs.getD i.toNat z120
structure S87 where
  f0 : Int
  f1 : Int
  f2 : Bool
  f3 : ByteArray
def z87 : S87 := ⟨(0 : Int), (0 : Int), false, (⟨#[]⟩ : ByteArray)⟩
def rd_T87 (xs : List S87) (i : Int) : S87 := xs.getD i.toNat z87
structure S90 where
  f0 : Int
  f1 : S87
  f2 : ByteArray
  f3 : Int
  f4 : (List S90)
def z90 : S90 := ⟨(0 : Int), z87, (⟨#[]⟩ : ByteArray), (0 : Int), ([] : List S90)⟩
def rd_T90 (xs : List S90) (i : Int) : S90 := xs.getD i.toNat z90
def dossierref13_names.f  : Option (List ByteArray) := some (([(⟨#[]⟩ : ByteArray), (⟨#[99, 114, 101, 97, 116, 101]⟩ : ByteArray), (⟨#[101, 110, 97, 98, 108, 101]⟩ : ByteArray), (⟨#[100, 105, 115, 97, 98, 108, 101]⟩ : ByteArray), (⟨#[114, 101, 101, 110, 97, 98, 108, 101]⟩ : ByteArray), (⟨#[115, 116, 97, 114, 116]⟩ : ByteArray), (⟨#[109, 97, 110, 117, 97, 108, 83, 116, 97, 114, 116]⟩ : ByteArray), (⟨#[99, 111, 109, 112, 108, 101, 116, 101]⟩ : ByteArray), (⟨#[102, 97, 117, 108, 116]⟩ : ByteArray), (⟨#[114, 101, 97, 99, 116, 105, 118, 97, 116, 101]⟩ : ByteArray), (⟨#[115, 117, 115, 112, 101, 110, 100]⟩ : ByteArray), (⟨#[114, 101, 115, 117, 109, 101]⟩ : ByteArray), (⟨#[116, 101, 114, 109, 105, 110, 97, 116, 101]⟩ : ByteArray), (⟨#[101, 120, 105, 116]⟩ : ByteArray), (⟨#[112, 97, 114, 101, 110, 116, 84, 101, 114, 109, 105, 110, 97, 116, 101]⟩ : ByteArray), (⟨#[112, 97, 114, 101, 110, 116, 83, 117, 115, 112, 101, 110, 100]⟩ : ByteArray), (⟨#[112, 97, 114, 101, 110, 116, 82, 101, 115, 117, 109, 101]⟩ : ByteArray), (⟨#[111, 99, 99, 117, 114]⟩ : ByteArray), (⟨#[99, 108, 111, 115, 101]⟩ : ByteArray), (⟨#[]⟩ : ByteArray), (⟨#[]⟩ : ByteArray), (⟨#[114, 101, 112, 108, 97, 99, 101]⟩ : ByteArray), (⟨#[117, 112, 100, 97, 116, 101]⟩ : ByteArray), (⟨#[100, 101, 108, 101, 116, 101]⟩ : ByteArray), (⟨#[97, 100, 100, 67, 104, 105, 108, 100]⟩ : ByteArray), (⟨#[114, 101, 109, 111, 118, 101, 67, 104, 105, 108, 100]⟩ : ByteArray), (⟨#[97, 100, 100, 82, 101, 102, 101, 114, 101, 110, 99, 101]⟩ : ByteArray), (⟨#[114, 101, 109, 111, 118, 101, 82, 101, 102, 101, 114, 101, 110, 99, 101]⟩ : ByteArray)] : List ByteArray))
def dossierref13_EventOf.l0 : Nat → ByteArray → List ByteArray → Int → Int → Option (Int × Bool)
  | 0, _, _, _, _ => none
  | k + 1, x0, x6, x7, x8 => if x8 < x7 then (if 0 ≤ x8 then (if x8 < (x6.length : Int) then (if (rdOf ByteArray.empty x6 x8).toList = ([] : List UInt8) then (dossierref13_EventOf.l0 k x0 x6 x7 (wrap64 (x8 + 1))) else (if (rdOf ByteArray.empty x6 x8).toList = x0.toList then (some (x8, true)) else (dossierref13_EventOf.l0 k x0 x6 x7 (wrap64 (x8 + 1))))) else (none)) else (none)) else (some (0, false))
def dossierref13_EventOf.f (k : Nat) (a0 : ByteArray) : Option (Int × Bool) := (dossierref13_names.f).bind fun t104 => (dossierref13_EventOf.l0 k a0 t104 (t104.length : Int) 0)
theorem dossierref13_EventOf.mono_l : ∀ k, (∀ y0 y1 y2 y3, LeO (dossierref13_EventOf.l0 k y0 y1 y2 y3) (dossierref13_EventOf.l0 (k + 1) y0 y1 y2 y3))
  | 0 => fun _ _ _ _ r h => by simp [dossierref13_EventOf.l0] at h
  | k + 1 => by
    have ih0 := dossierref13_EventOf.mono_l k
    · intro y0 y1 y2 y3
      unfold dossierref13_EventOf.l0
      repeat' first
      | (with_reducible exact ih0 _ _ _ _)
      | (with_reducible exact LeO.refl _)
      | (with_reducible exact LeO.none _)
      | (with_reducible refine LeO.ite ?_ ?_)
      | (with_reducible refine LeO.bind ?_ (fun _ => ?_))
      | exact ih0 _ _ _ _
      | exact LeO.none _
      | refine LeO.ite ?_ ?_
      | refine LeO.bind ?_ (fun _ => ?_)
theorem dossierref13_EventOf.mono : ∀ a0 k, LeO (dossierref13_EventOf.f k a0) (dossierref13_EventOf.f (k + 1) a0) := by
  intro a0 k
  have ih0 := dossierref13_EventOf.mono_l k
  unfold dossierref13_EventOf.f
  repeat' first
      | (with_reducible exact ih0 _ _ _ _)
      | (with_reducible exact LeO.refl _)
      | (with_reducible exact LeO.none _)
      | (with_reducible refine LeO.ite ?_ ?_)
      | (with_reducible refine LeO.bind ?_ (fun _ => ?_))
      | exact ih0 _ _ _ _
      | exact LeO.none _
      | refine LeO.ite ?_ ?_
      | refine LeO.bind ?_ (fun _ => ?_)
def dossierref13_EventName.f (a0 : Int) : Option (ByteArray) := if a0 < 0 then (some (⟨#[]⟩ : ByteArray)) else ((dossierref13_names.f).bind fun t108 => (if a0 ≥ (t108.length : Int) then (some (⟨#[]⟩ : ByteArray)) else ((dossierref13_names.f).bind fun t111 => (if 0 ≤ a0 then (if a0 < (t111.length : Int) then (some (rdOf ByteArray.empty t111 a0)) else (none)) else (none)))))
def model_Task.f (a0 : Int) : Option (Bool) := if a0 = 1 then (some true) else (if a0 = 2 then (some true) else (if a0 = 3 then (some true) else (if a0 = 4 then (some true) else (some false))))
def model_Works.f (a0 : Int) : Option (Bool) := if a0 = 0 then (some true) else ((model_Task.f a0).bind fun t115 => (some t115))
def slices_Index_int_int.l0 : Nat → List Int → Int → Int → Int → Option (Int)
  | 0, _, _, _, _ => none
  | k + 1, x0, x1, x7, x8 => if x8 < x7 then (if 0 ≤ x8 then (if x8 < (x0.length : Int) then (if x1 = (rd x0 x8) then (some x8) else (slices_Index_int_int.l0 k x0 x1 x7 (wrap64 (x8 + 1)))) else (none)) else (none)) else (some (-1))
def slices_Index_int_int.f (k : Nat) (l0 : List Int) (a1 : Int) : Option (Int) := slices_Index_int_int.l0 k l0 a1 (l0.length : Int) 0
theorem slices_Index_int_int.mono_l : ∀ k, (∀ y0 y1 y2 y3, LeO (slices_Index_int_int.l0 k y0 y1 y2 y3) (slices_Index_int_int.l0 (k + 1) y0 y1 y2 y3))
  | 0 => fun _ _ _ _ r h => by simp [slices_Index_int_int.l0] at h
  | k + 1 => by
    have ih0 := slices_Index_int_int.mono_l k
    · intro y0 y1 y2 y3
      unfold slices_Index_int_int.l0
      repeat' first
      | (with_reducible exact ih0 _ _ _ _)
      | (with_reducible exact LeO.refl _)
      | (with_reducible exact LeO.none _)
      | (with_reducible refine LeO.ite ?_ ?_)
      | (with_reducible refine LeO.bind ?_ (fun _ => ?_))
      | exact ih0 _ _ _ _
      | exact LeO.none _
      | refine LeO.ite ?_ ?_
      | refine LeO.bind ?_ (fun _ => ?_)
theorem slices_Index_int_int.mono : ∀ a0 a1 k, LeO (slices_Index_int_int.f k a0 a1) (slices_Index_int_int.f (k + 1) a0 a1) := by
  intro a0 a1 k
  have ih0 := slices_Index_int_int.mono_l k
  unfold slices_Index_int_int.f
  repeat' first
      | (with_reducible exact ih0 _ _ _ _)
      | (with_reducible exact LeO.refl _)
      | (with_reducible exact LeO.none _)
      | (with_reducible refine LeO.ite ?_ ?_)
      | (with_reducible refine LeO.bind ?_ (fun _ => ?_))
      | exact ih0 _ _ _ _
      | exact LeO.none _
      | refine LeO.ite ?_ ?_
      | refine LeO.bind ?_ (fun _ => ?_)
def slices_Contains_int_int.f (k : Nat) (l0 : List Int) (a1 : Int) : Option (Bool) := (slices_Index_int_int.f k l0 a1).bind fun t117 => (some (decide (t117 ≥ 0)))
theorem slices_Contains_int_int.mono : ∀ a0 a1 k, LeO (slices_Contains_int_int.f k a0 a1) (slices_Contains_int_int.f (k + 1) a0 a1) := by
  intro a0 a1 k
  unfold slices_Contains_int_int.f
  repeat' first
      | (with_reducible exact slices_Index_int_int.mono _ _ _)
      | (with_reducible exact LeO.refl _)
      | (with_reducible exact LeO.none _)
      | (with_reducible refine LeO.ite ?_ ?_)
      | (with_reducible refine LeO.bind ?_ (fun _ => ?_))
      | exact slices_Index_int_int.mono _ _ _
      | exact LeO.none _
      | refine LeO.ite ?_ ?_
      | refine LeO.bind ?_ (fun _ => ?_)
def model_Events.f (k : Nat) (a0 : Int) (a1 : Int) : Option (Bool) := (model_Works.f a0).bind fun t118 => (if t118 = true then (if a1 ≥ 1 then (some (decide (a1 ≤ 16))) else (some false)) else (if a0 = 5 then ((slices_Contains_int_int.f k (([1, 10, 11, 12, 14, 15, 16, 17] : List Int)) a1).bind fun t122 => (some t122)) else (if a0 = 6 then ((slices_Contains_int_int.f k (([1, 10, 11, 12, 14, 15, 16, 17] : List Int)) a1).bind fun t126 => (some t126)) else (if a0 = 7 then ((slices_Contains_int_int.f k (([1, 10, 11, 12, 14, 15, 16, 17] : List Int)) a1).bind fun t130 => (some t130)) else (some false)))))
theorem model_Events.mono : ∀ a0 a1 k, LeO (model_Events.f k a0 a1) (model_Events.f (k + 1) a0 a1) := by
  intro a0 a1 k
  unfold model_Events.f
  repeat' first
      | (with_reducible exact slices_Contains_int_int.mono _ _ _)
      | (with_reducible exact LeO.refl _)
      | (with_reducible exact LeO.none _)
      | (with_reducible refine LeO.ite ?_ ?_)
      | (with_reducible refine LeO.bind ?_ (fun _ => ?_))
      | exact slices_Contains_int_int.mono _ _ _
      | exact LeO.none _
      | refine LeO.ite ?_ ?_
      | refine LeO.bind ?_ (fun _ => ?_)
def dossierref13_Task.f (a0 : Int) : Option (Bool) := if a0 ≥ 1 then (some (decide (a0 ≤ 4))) else (some false)
def dossierref13_works.f (a0 : Int) : Option (Bool) := if a0 = 0 then (some true) else ((dossierref13_Task.f a0).bind fun t131 => (some t131))
def dossierref13_Events.j0 : Nat → Int → Bool → Option (Bool)
  | 0, _, _ => none
  | k + 1, x1, x18 => if x18 = true then (some false) else (if x1 = 1 then (some true) else (if x1 = 10 then (some true) else (if x1 = 11 then (some true) else (if x1 = 12 then (some true) else (if x1 = 14 then (some true) else (if x1 = 15 then (some true) else (if x1 = 16 then (some true) else (if x1 = 17 then (some true) else (some false)))))))))
def dossierref13_Events.f (k : Nat) (a0 : Int) (a1 : Int) : Option (Bool) := (dossierref13_works.f a0).bind fun t132 => (if t132 = true then (if a1 ≥ 1 then (some (decide (a1 ≤ 16))) else (some false)) else (if a0 < 5 then (dossierref13_Events.j0 k a1 true) else (dossierref13_Events.j0 k a1 (decide (a0 > 7)))))
theorem dossierref13_Events.mono_l : ∀ k, (∀ y0 y1, LeO (dossierref13_Events.j0 k y0 y1) (dossierref13_Events.j0 (k + 1) y0 y1))
  | 0 => fun _ _ r h => by simp [dossierref13_Events.j0] at h
  | k + 1 => by
    have ih0 := dossierref13_Events.mono_l k
    · intro y0 y1
      unfold dossierref13_Events.j0
      repeat' first
      | (with_reducible exact ih0 _ _)
      | (with_reducible exact LeO.refl _)
      | (with_reducible exact LeO.none _)
      | (with_reducible refine LeO.ite ?_ ?_)
      | (with_reducible refine LeO.bind ?_ (fun _ => ?_))
      | exact ih0 _ _
      | exact LeO.none _
      | refine LeO.ite ?_ ?_
      | refine LeO.bind ?_ (fun _ => ?_)
theorem dossierref13_Events.mono : ∀ a0 a1 k, LeO (dossierref13_Events.f k a0 a1) (dossierref13_Events.f (k + 1) a0 a1) := by
  intro a0 a1 k
  have ih0 := dossierref13_Events.mono_l k
  unfold dossierref13_Events.f
  repeat' first
      | (with_reducible exact ih0 _ _)
      | (with_reducible exact LeO.refl _)
      | (with_reducible exact LeO.none _)
      | (with_reducible refine LeO.ite ?_ ?_)
      | (with_reducible refine LeO.bind ?_ (fun _ => ?_))
      | exact ih0 _ _
      | exact LeO.none _
      | refine LeO.ite ?_ ?_
      | refine LeO.bind ?_ (fun _ => ?_)
def model_FileEvent.f (a0 : Int) : Option (Bool) := if a0 = 1 then (some true) else (if a0 ≥ 21 then (some (decide (a0 ≤ 27))) else (some false))
def dossierref13_FileEvent.f (a0 : Int) : Option (Bool) := if a0 = 1 then (some true) else (if a0 ≥ 21 then (some (decide (a0 ≤ 27))) else (some false))
def strings_IndexByte.f (a0 : ByteArray) (a1 : Int) : Option Int := some (Lib.indexByte a0.data.toList a1.toNat.toUInt8)
def lexer_is.f (a0 : Int) (a1 : ByteArray) : Option (Bool) := (strings_IndexByte.f a1 a0).bind fun t133 => (some (decide (t133 ≥ 0)))
def lexer_run.l0 : Nat → ByteArray → ByteArray → Int → Option (ByteArray)
  | 0, _, _, _ => none
  | k + 1, x0, x1, x5 => if x5 < (x0.size : Int) then (if 0 ≤ x5 then ((lexer_is.f (bt x0 x5) x1).bind fun t134 => (if t134 = true then (lexer_run.l0 k x0 x1 (wrap64 (x5 + 1))) else (if x5 ≤ (x0.size : Int) then (some (x0.extract 0 (x5 : Int).toNat)) else (none)))) else (none)) else (if 0 ≤ x5 then (if x5 ≤ (x0.size : Int) then (some (x0.extract 0 (x5 : Int).toNat)) else (none)) else (none))
def lexer_run.f (k : Nat) (a0 : ByteArray) (a1 : ByteArray) : Option (ByteArray) := lexer_run.l0 k a0 a1 0
theorem lexer_run.mono_l : ∀ k, (∀ y0 y1 y2, LeO (lexer_run.l0 k y0 y1 y2) (lexer_run.l0 (k + 1) y0 y1 y2))
  | 0 => fun _ _ _ r h => by simp [lexer_run.l0] at h
  | k + 1 => by
    have ih0 := lexer_run.mono_l k
    · intro y0 y1 y2
      unfold lexer_run.l0
      repeat' first
      | (with_reducible exact ih0 _ _ _)
      | (with_reducible exact LeO.refl _)
      | (with_reducible exact LeO.none _)
      | (with_reducible refine LeO.ite ?_ ?_)
      | (with_reducible refine LeO.bind ?_ (fun _ => ?_))
      | exact ih0 _ _ _
      | exact LeO.none _
      | refine LeO.ite ?_ ?_
      | refine LeO.bind ?_ (fun _ => ?_)
theorem lexer_run.mono : ∀ a0 a1 k, LeO (lexer_run.f k a0 a1) (lexer_run.f (k + 1) a0 a1) := by
  intro a0 a1 k
  have ih0 := lexer_run.mono_l k
  unfold lexer_run.f
  repeat' first
      | (with_reducible exact ih0 _ _ _)
      | (with_reducible exact LeO.refl _)
      | (with_reducible exact LeO.none _)
      | (with_reducible refine LeO.ite ?_ ?_)
      | (with_reducible refine LeO.bind ?_ (fun _ => ?_))
      | exact ih0 _ _ _
      | exact LeO.none _
      | refine LeO.ite ?_ ?_
      | refine LeO.bind ?_ (fun _ => ?_)
def lexer_Plain.f (k : Nat) (a0 : ByteArray) : Option (Bool) := if a0.toList = ([] : List UInt8) then (some false) else (if 0 < (a0.size : Int) then ((lexer_is.f (bt a0 0) (⟨#[65, 66, 67, 68, 69, 70, 71, 72, 73, 74, 75, 76, 77, 78, 79, 80, 81, 82, 83, 84, 85, 86, 87, 88, 89, 90, 97, 98, 99, 100, 101, 102, 103, 104, 105, 106, 107, 108, 109, 110, 111, 112, 113, 114, 115, 116, 117, 118, 119, 120, 121, 122, 95]⟩ : ByteArray)).bind fun t135 => (if t135 = true then ((lexer_run.f k a0 (⟨#[65, 66, 67, 68, 69, 70, 71, 72, 73, 74, 75, 76, 77, 78, 79, 80, 81, 82, 83, 84, 85, 86, 87, 88, 89, 90, 97, 98, 99, 100, 101, 102, 103, 104, 105, 106, 107, 108, 109, 110, 111, 112, 113, 114, 115, 116, 117, 118, 119, 120, 121, 122, 95, 48, 49, 50, 51, 52, 53, 54, 55, 56, 57]⟩ : ByteArray)).bind fun t136 => (some ((t136.size : Int) == (a0.size : Int)))) else (some false))) else (none))
theorem lexer_Plain.mono : ∀ a0 k, LeO (lexer_Plain.f k a0) (lexer_Plain.f (k + 1) a0) := by
  intro a0 k
  unfold lexer_Plain.f
  repeat' first
      | (with_reducible exact lexer_run.mono _ _ _)
      | (with_reducible exact LeO.refl _)
      | (with_reducible exact LeO.none _)
      | (with_reducible refine LeO.ite ?_ ?_)
      | (with_reducible refine LeO.bind ?_ (fun _ => ?_))
      | exact lexer_run.mono _ _ _
      | exact LeO.none _
      | refine LeO.ite ?_ ?_
      | refine LeO.bind ?_ (fun _ => ?_)
def expr_Keyword.f (a0 : ByteArray) : Option (Bool) := if a0.toList = ([97, 110, 100] : List UInt8) then (some true) else (if a0.toList = ([111, 114] : List UInt8) then (some true) else (if a0.toList = ([110, 111, 116] : List UInt8) then (some true) else (if a0.toList = ([116, 114, 117, 101] : List UInt8) then (some true) else (if a0.toList = ([102, 97, 108, 115, 101] : List UInt8) then (some true) else (if a0.toList = ([99, 111, 117, 110, 116] : List UInt8) then (some true) else (if a0.toList = ([110, 117, 109, 98, 101, 114] : List UInt8) then (some true) else (some false)))))))
def expr_Named.f (k : Nat) (a0 : ByteArray) : Option (Bool) := (lexer_Plain.f k a0).bind fun t137 => (if t137 = true then ((expr_Keyword.f a0).bind fun t138 => (some (!t138))) else (some false))
theorem expr_Named.mono : ∀ a0 k, LeO (expr_Named.f k a0) (expr_Named.f (k + 1) a0) := by
  intro a0 k
  unfold expr_Named.f
  repeat' first
      | (with_reducible exact lexer_Plain.mono _ _)
      | (with_reducible exact LeO.refl _)
      | (with_reducible exact LeO.none _)
      | (with_reducible refine LeO.ite ?_ ?_)
      | (with_reducible refine LeO.bind ?_ (fun _ => ?_))
      | exact lexer_Plain.mono _ _
      | exact LeO.none _
      | refine LeO.ite ?_ ?_
      | refine LeO.bind ?_ (fun _ => ?_)
def shape_Fits.f (k : Nat) (a0 : ByteArray) : Option (Bool) := if (a0.size : Int) ≤ 64 then ((expr_Named.f k a0).bind fun t139 => (some t139)) else (some false)
theorem shape_Fits.mono : ∀ a0 k, LeO (shape_Fits.f k a0) (shape_Fits.f (k + 1) a0) := by
  intro a0 k
  unfold shape_Fits.f
  repeat' first
      | (with_reducible exact expr_Named.mono _ _)
      | (with_reducible exact LeO.refl _)
      | (with_reducible exact LeO.none _)
      | (with_reducible refine LeO.ite ?_ ?_)
      | (with_reducible refine LeO.bind ?_ (fun _ => ?_))
      | exact expr_Named.mono _ _
      | exact LeO.none _
      | refine LeO.ite ?_ ?_
      | refine LeO.bind ?_ (fun _ => ?_)
def utf8_DecodeRune.f (l0 : List Int) : Option (Int × Int) := if (l0.all fun x => decide (0 ≤ x) && decide (x < 256)) = true then some (((Lib.decodeGo (strOfNums l0)).1 : Int), ((Lib.decodeGo (strOfNums l0)).2 : Int)) else none
def chars_Decode.f (l0 : List Int) : Option (Int × Int) := (utf8_DecodeRune.f l0).bind fun bt140 => (if bt140.1 = 65533 then (if bt140.2 ≤ 1 then (some (0, 0)) else (some (wrap64 (bt140.1), bt140.2))) else (some (wrap64 (bt140.1), bt140.2)))
def chars_in.l0 : Nat → Int → List (S101) → Int → Int → Option (Bool)
  | 0, _, _, _, _ => none
  | k + 1, x0, x7, x8, x9 => if x9 < x8 then (if 0 ≤ x9 then (if x9 < (x7.length : Int) then (if ((rd_T101 x7 x9).f0) ≤ x0 then (if x0 ≤ ((rd_T101 x7 x9).f1) then (some true) else (chars_in.l0 k x0 x7 x8 (wrap64 (x9 + 1)))) else (chars_in.l0 k x0 x7 x8 (wrap64 (x9 + 1)))) else (none)) else (none)) else (some false)
def chars_in.f (k : Nat) (a0 : Int) (l1 : List (S101)) : Option (Bool) := chars_in.l0 k a0 l1 (l1.length : Int) 0
theorem chars_in.mono_l : ∀ k, (∀ y0 y1 y2 y3, LeO (chars_in.l0 k y0 y1 y2 y3) (chars_in.l0 (k + 1) y0 y1 y2 y3))
  | 0 => fun _ _ _ _ r h => by simp [chars_in.l0] at h
  | k + 1 => by
    have ih0 := chars_in.mono_l k
    · intro y0 y1 y2 y3
      unfold chars_in.l0
      repeat' first
      | (with_reducible exact ih0 _ _ _ _)
      | (with_reducible exact LeO.refl _)
      | (with_reducible exact LeO.none _)
      | (with_reducible refine LeO.ite ?_ ?_)
      | (with_reducible refine LeO.bind ?_ (fun _ => ?_))
      | exact ih0 _ _ _ _
      | exact LeO.none _
      | refine LeO.ite ?_ ?_
      | refine LeO.bind ?_ (fun _ => ?_)
theorem chars_in.mono : ∀ a0 a1 k, LeO (chars_in.f k a0 a1) (chars_in.f (k + 1) a0 a1) := by
  intro a0 a1 k
  have ih0 := chars_in.mono_l k
  unfold chars_in.f
  repeat' first
      | (with_reducible exact ih0 _ _ _ _)
      | (with_reducible exact LeO.refl _)
      | (with_reducible exact LeO.none _)
      | (with_reducible refine LeO.ite ?_ ?_)
      | (with_reducible refine LeO.bind ?_ (fun _ => ?_))
      | exact ih0 _ _ _ _
      | exact LeO.none _
      | refine LeO.ite ?_ ?_
      | refine LeO.bind ?_ (fun _ => ?_)
def chars_ofXML.f (k : Nat) (a0 : Int) : Option (Bool) := (chars_in.f k a0 (([(⟨32, 55295⟩ : S101), (⟨9, 10⟩ : S101), (⟨13, 13⟩ : S101), (⟨57344, 65533⟩ : S101), (⟨65536, 1114111⟩ : S101)] : List (S101)))).bind fun t147 => (some t147)
theorem chars_ofXML.mono : ∀ a0 k, LeO (chars_ofXML.f k a0) (chars_ofXML.f (k + 1) a0) := by
  intro a0 k
  unfold chars_ofXML.f
  repeat' first
      | (with_reducible exact chars_in.mono _ _ _)
      | (with_reducible exact LeO.refl _)
      | (with_reducible exact LeO.none _)
      | (with_reducible refine LeO.ite ?_ ?_)
      | (with_reducible refine LeO.bind ?_ (fun _ => ?_))
      | exact chars_in.mono _ _ _
      | exact LeO.none _
      | refine LeO.ite ?_ ?_
      | refine LeO.bind ?_ (fun _ => ?_)
def chars_Wrong.l0 : Nat → List Int → Int → Option (Int)
  | 0, _, _ => none
  | k + 1, x0, x3 => if x3 < (x0.length : Int) then (if 0 ≤ x3 then (if x3 ≤ (x0.length : Int) then ((chars_Decode.f (x0.drop (x3 : Int).toNat)).bind fun bt149 => (if bt149.2 = 0 then (some x3) else ((chars_ofXML.f k bt149.1).bind fun t151 => (if t151 = true then (chars_Wrong.l0 k x0 (wrap64 (x3 + bt149.2))) else (some x3))))) else (none)) else (none)) else (some (-1))
def chars_Wrong.f (k : Nat) (l0 : List Int) : Option (Int) := chars_Wrong.l0 k l0 0
theorem chars_Wrong.mono_l : ∀ k, (∀ y0 y1, LeO (chars_Wrong.l0 k y0 y1) (chars_Wrong.l0 (k + 1) y0 y1))
  | 0 => fun _ _ r h => by simp [chars_Wrong.l0] at h
  | k + 1 => by
    have ih0 := chars_Wrong.mono_l k
    · intro y0 y1
      unfold chars_Wrong.l0
      repeat' first
      | (with_reducible exact ih0 _ _)
      | (with_reducible exact chars_ofXML.mono _ _)
      | (with_reducible exact LeO.refl _)
      | (with_reducible exact LeO.none _)
      | (with_reducible refine LeO.ite ?_ ?_)
      | (with_reducible refine LeO.bind ?_ (fun _ => ?_))
      | exact ih0 _ _
      | exact chars_ofXML.mono _ _
      | exact LeO.none _
      | refine LeO.ite ?_ ?_
      | refine LeO.bind ?_ (fun _ => ?_)
theorem chars_Wrong.mono : ∀ a0 k, LeO (chars_Wrong.f k a0) (chars_Wrong.f (k + 1) a0) := by
  intro a0 k
  have ih0 := chars_Wrong.mono_l k
  unfold chars_Wrong.f
  repeat' first
      | (with_reducible exact ih0 _ _)
      | (with_reducible exact chars_ofXML.mono _ _)
      | (with_reducible exact LeO.refl _)
      | (with_reducible exact LeO.none _)
      | (with_reducible refine LeO.ite ?_ ?_)
      | (with_reducible refine LeO.bind ?_ (fun _ => ?_))
      | exact ih0 _ _
      | exact chars_ofXML.mono _ _
      | exact LeO.none _
      | refine LeO.ite ?_ ?_
      | refine LeO.bind ?_ (fun _ => ?_)
def model_title.f (k : Nat) (a0 : ByteArray) : Option (Bool) := if (a0.size : Int) ≤ 64 then (if a0.size < 140737488355328 then ((chars_Wrong.f k (bytesOf a0)).bind fun t152 => (some (decide (t152 < 0)))) else (none)) else (some false)
theorem model_title.mono : ∀ a0 k, LeO (model_title.f k a0) (model_title.f (k + 1) a0) := by
  intro a0 k
  unfold model_title.f
  repeat' first
      | (with_reducible exact chars_Wrong.mono _ _)
      | (with_reducible exact LeO.refl _)
      | (with_reducible exact LeO.none _)
      | (with_reducible refine LeO.ite ?_ ?_)
      | (with_reducible refine LeO.bind ?_ (fun _ => ?_))
      | exact chars_Wrong.mono _ _
      | exact LeO.none _
      | refine LeO.ite ?_ ?_
      | refine LeO.bind ?_ (fun _ => ?_)
def slices_Index_string_string.l0 : Nat → List ByteArray → ByteArray → Int → Int → Option (Int)
  | 0, _, _, _, _ => none
  | k + 1, x0, x1, x7, x8 => if x8 < x7 then (if 0 ≤ x8 then (if x8 < (x0.length : Int) then (if x1.toList = (rdOf ByteArray.empty x0 x8).toList then (some x8) else (slices_Index_string_string.l0 k x0 x1 x7 (wrap64 (x8 + 1)))) else (none)) else (none)) else (some (-1))
def slices_Index_string_string.f (k : Nat) (l0 : List ByteArray) (a1 : ByteArray) : Option (Int) := slices_Index_string_string.l0 k l0 a1 (l0.length : Int) 0
theorem slices_Index_string_string.mono_l : ∀ k, (∀ y0 y1 y2 y3, LeO (slices_Index_string_string.l0 k y0 y1 y2 y3) (slices_Index_string_string.l0 (k + 1) y0 y1 y2 y3))
  | 0 => fun _ _ _ _ r h => by simp [slices_Index_string_string.l0] at h
  | k + 1 => by
    have ih0 := slices_Index_string_string.mono_l k
    · intro y0 y1 y2 y3
      unfold slices_Index_string_string.l0
      repeat' first
      | (with_reducible exact ih0 _ _ _ _)
      | (with_reducible exact LeO.refl _)
      | (with_reducible exact LeO.none _)
      | (with_reducible refine LeO.ite ?_ ?_)
      | (with_reducible refine LeO.bind ?_ (fun _ => ?_))
      | exact ih0 _ _ _ _
      | exact LeO.none _
      | refine LeO.ite ?_ ?_
      | refine LeO.bind ?_ (fun _ => ?_)
theorem slices_Index_string_string.mono : ∀ a0 a1 k, LeO (slices_Index_string_string.f k a0 a1) (slices_Index_string_string.f (k + 1) a0 a1) := by
  intro a0 a1 k
  have ih0 := slices_Index_string_string.mono_l k
  unfold slices_Index_string_string.f
  repeat' first
      | (with_reducible exact ih0 _ _ _ _)
      | (with_reducible exact LeO.refl _)
      | (with_reducible exact LeO.none _)
      | (with_reducible refine LeO.ite ?_ ?_)
      | (with_reducible refine LeO.bind ?_ (fun _ => ?_))
      | exact ih0 _ _ _ _
      | exact LeO.none _
      | refine LeO.ite ?_ ?_
      | refine LeO.bind ?_ (fun _ => ?_)
def slices_Contains_string_string.f (k : Nat) (l0 : List ByteArray) (a1 : ByteArray) : Option (Bool) := (slices_Index_string_string.f k l0 a1).bind fun t154 => (some (decide (t154 ≥ 0)))
theorem slices_Contains_string_string.mono : ∀ a0 a1 k, LeO (slices_Contains_string_string.f k a0 a1) (slices_Contains_string_string.f (k + 1) a0 a1) := by
  intro a0 a1 k
  unfold slices_Contains_string_string.f
  repeat' first
      | (with_reducible exact slices_Index_string_string.mono _ _ _)
      | (with_reducible exact LeO.refl _)
      | (with_reducible exact LeO.none _)
      | (with_reducible refine LeO.ite ?_ ?_)
      | (with_reducible refine LeO.bind ?_ (fun _ => ?_))
      | exact slices_Index_string_string.mono _ _ _
      | exact LeO.none _
      | refine LeO.ite ?_ ?_
      | refine LeO.bind ?_ (fun _ => ?_)
def model_twice.l0 : Nat → List ByteArray → List ByteArray → Int → Int → Option (Bool)
  | 0, _, _, _, _ => none
  | k + 1, x0, x5, x6, x7 => if x7 < x6 then (if 0 ≤ x7 then (if x7 < (x5.length : Int) then (if x7 ≤ (x0.length : Int) then ((slices_Contains_string_string.f k (x0.take (x7 : Int).toNat) (rdOf ByteArray.empty x5 x7)).bind fun t157 => (if t157 = true then (some true) else (model_twice.l0 k x0 x5 x6 (wrap64 (x7 + 1))))) else (none)) else (none)) else (none)) else (some false)
def model_twice.f (k : Nat) (l0 : List ByteArray) : Option (Bool) := model_twice.l0 k l0 l0 (l0.length : Int) 0
theorem model_twice.mono_l : ∀ k, (∀ y0 y1 y2 y3, LeO (model_twice.l0 k y0 y1 y2 y3) (model_twice.l0 (k + 1) y0 y1 y2 y3))
  | 0 => fun _ _ _ _ r h => by simp [model_twice.l0] at h
  | k + 1 => by
    have ih0 := model_twice.mono_l k
    · intro y0 y1 y2 y3
      unfold model_twice.l0
      repeat' first
      | (with_reducible exact ih0 _ _ _ _)
      | (with_reducible exact slices_Contains_string_string.mono _ _ _)
      | (with_reducible exact LeO.refl _)
      | (with_reducible exact LeO.none _)
      | (with_reducible refine LeO.ite ?_ ?_)
      | (with_reducible refine LeO.bind ?_ (fun _ => ?_))
      | exact ih0 _ _ _ _
      | exact slices_Contains_string_string.mono _ _ _
      | exact LeO.none _
      | refine LeO.ite ?_ ?_
      | refine LeO.bind ?_ (fun _ => ?_)
theorem model_twice.mono : ∀ a0 k, LeO (model_twice.f k a0) (model_twice.f (k + 1) a0) := by
  intro a0 k
  have ih0 := model_twice.mono_l k
  unfold model_twice.f
  repeat' first
      | (with_reducible exact ih0 _ _ _ _)
      | (with_reducible exact slices_Contains_string_string.mono _ _ _)
      | (with_reducible exact LeO.refl _)
      | (with_reducible exact LeO.none _)
      | (with_reducible refine LeO.ite ?_ ?_)
      | (with_reducible refine LeO.bind ?_ (fun _ => ?_))
      | exact ih0 _ _ _ _
      | exact slices_Contains_string_string.mono _ _ _
      | exact LeO.none _
      | refine LeO.ite ?_ ?_
      | refine LeO.bind ?_ (fun _ => ?_)
def bytealg_Cutover.f (a0 : Int) : Option (Int) := some (wrap64 (Int.tdiv (wrap64 (a0 + 16)) 8))
mutual
def bytealg_hashStr_string.l0 : Nat → ByteArray → Int → Int → Option (Int × Int)
  | 0, _, _, _ => none
  | k + 1, x0, x4, x5 => if x5 < (x0.size : Int) then (if 0 ≤ x5 then (bytealg_hashStr_string.l0 k x0 ((((x4 * 16777619) % 4294967296) + ((bt x0 x5) % 4294967296)) % 4294967296) (wrap64 (x5 + 1))) else (none)) else (bytealg_hashStr_string.l1 k x4 1 16777619 (x0.size : Int))
def bytealg_hashStr_string.l1 : Nat → Int → Int → Int → Int → Option (Int × Int)
  | 0, _, _, _, _ => none
  | k + 1, x4, x6, x7, x8 => if x8 > 0 then (if (Go.bits .and .i64 x8 1) = 0 then (bytealg_hashStr_string.l1 k x4 x6 ((x7 * x7) % 4294967296) (x8 / 2)) else (bytealg_hashStr_string.l1 k x4 ((x6 * x7) % 4294967296) ((x7 * x7) % 4294967296) (x8 / 2))) else (some (x4, x6))
end
def bytealg_hashStr_string.f (k : Nat) (a0 : ByteArray) : Option (Int × Int) := bytealg_hashStr_string.l0 k a0 0 0
theorem bytealg_hashStr_string.mono_l : ∀ k, (∀ y0 y1 y2, LeO (bytealg_hashStr_string.l0 k y0 y1 y2) (bytealg_hashStr_string.l0 (k + 1) y0 y1 y2)) ∧ (∀ y0 y1 y2 y3, LeO (bytealg_hashStr_string.l1 k y0 y1 y2 y3) (bytealg_hashStr_string.l1 (k + 1) y0 y1 y2 y3))
  | 0 => ⟨fun _ _ _ r h => by simp [bytealg_hashStr_string.l0] at h, fun _ _ _ _ r h => by simp [bytealg_hashStr_string.l1] at h⟩
  | k + 1 => by
    obtain ⟨ih0, ih1⟩ := bytealg_hashStr_string.mono_l k
    refine ⟨?_, ?_⟩
    · intro y0 y1 y2
      unfold bytealg_hashStr_string.l0
      repeat' first
      | (with_reducible exact ih0 _ _ _)
      | (with_reducible exact ih1 _ _ _ _)
      | (with_reducible exact LeO.refl _)
      | (with_reducible exact LeO.none _)
      | (with_reducible refine LeO.ite ?_ ?_)
      | (with_reducible refine LeO.bind ?_ (fun _ => ?_))
      | exact ih0 _ _ _
      | exact ih1 _ _ _ _
      | exact LeO.none _
      | refine LeO.ite ?_ ?_
      | refine LeO.bind ?_ (fun _ => ?_)
    · intro y0 y1 y2 y3
      unfold bytealg_hashStr_string.l1
      repeat' first
      | (with_reducible exact ih0 _ _ _)
      | (with_reducible exact ih1 _ _ _ _)
      | (with_reducible exact LeO.refl _)
      | (with_reducible exact LeO.none _)
      | (with_reducible refine LeO.ite ?_ ?_)
      | (with_reducible refine LeO.bind ?_ (fun _ => ?_))
      | exact ih0 _ _ _
      | exact ih1 _ _ _ _
      | exact LeO.none _
      | refine LeO.ite ?_ ?_
      | refine LeO.bind ?_ (fun _ => ?_)
theorem bytealg_hashStr_string.mono : ∀ a0 k, LeO (bytealg_hashStr_string.f k a0) (bytealg_hashStr_string.f (k + 1) a0) := by
  intro a0 k
  obtain ⟨ih0, ih1⟩ := bytealg_hashStr_string.mono_l k
  unfold bytealg_hashStr_string.f
  repeat' first
      | (with_reducible exact ih0 _ _ _)
      | (with_reducible exact ih1 _ _ _ _)
      | (with_reducible exact LeO.refl _)
      | (with_reducible exact LeO.none _)
      | (with_reducible refine LeO.ite ?_ ?_)
      | (with_reducible refine LeO.bind ?_ (fun _ => ?_))
      | exact ih0 _ _ _
      | exact ih1 _ _ _ _
      | exact LeO.none _
      | refine LeO.ite ?_ ?_
      | refine LeO.bind ?_ (fun _ => ?_)
mutual
def bytealg_IndexRabinKarp_string.l0 : Nat → ByteArray → ByteArray → Int → Int → Int → Int → Int → Option (Int)
  | 0, _, _, _, _, _, _, _ => none
  | k + 1, x0, x1, x5, x6, x7, x8, x9 => if x9 < x7 then (if 0 ≤ x9 then (if x9 < (x0.size : Int) then (bytealg_IndexRabinKarp_string.l0 k x0 x1 x5 x6 x7 ((((x8 * 16777619) % 4294967296) + ((bt x0 x9) % 4294967296)) % 4294967296) (wrap64 (x9 + 1))) else (none)) else (none)) else (if x8 = x5 then (if 0 ≤ x7 then (if x7 ≤ (x0.size : Int) then (bytealg_IndexRabinKarp_string.j1 k x0 x1 x5 x6 x7 x8 ((x0.extract 0 (x7 : Int).toNat).toList == x1.toList)) else (none)) else (none)) else (bytealg_IndexRabinKarp_string.j1 k x0 x1 x5 x6 x7 x8 false))
def bytealg_IndexRabinKarp_string.j1 : Nat → ByteArray → ByteArray → Int → Int → Int → Int → Bool → Option (Int)
  | 0, _, _, _, _, _, _, _ => none
  | k + 1, x0, x1, x5, x6, x7, x8, x39 => if x39 = true then (some 0) else (bytealg_IndexRabinKarp_string.l1 k x0 x1 x5 x6 x7 x8 x7)
def bytealg_IndexRabinKarp_string.l1 : Nat → ByteArray → ByteArray → Int → Int → Int → Int → Int → Option (Int)
  | 0, _, _, _, _, _, _, _ => none
  | k + 1, x0, x1, x5, x6, x7, x8, x10 => if x10 < (x0.size : Int) then (if 0 ≤ x10 then (if 0 ≤ (wrap64 (x10 - x7)) then (if (wrap64 (x10 - x7)) < (x0.size : Int) then (if ((((((x8 * 16777619) % 4294967296) + ((bt x0 x10) % 4294967296)) % 4294967296) - ((x6 * ((bt x0 (wrap64 (x10 - x7))) % 4294967296)) % 4294967296)) % 4294967296) = x5 then (if 0 ≤ (wrap64 ((wrap64 (x10 + 1)) - x7)) then (if (wrap64 ((wrap64 (x10 + 1)) - x7)) ≤ (wrap64 (x10 + 1)) then (if (wrap64 (x10 + 1)) ≤ (x0.size : Int) then (if (x0.extract ((wrap64 ((wrap64 (x10 + 1)) - x7)) : Int).toNat ((wrap64 (x10 + 1)) : Int).toNat).toList = x1.toList then (some (wrap64 ((wrap64 (x10 + 1)) - x7))) else (bytealg_IndexRabinKarp_string.l1 k x0 x1 x5 x6 x7 ((((((x8 * 16777619) % 4294967296) + ((bt x0 x10) % 4294967296)) % 4294967296) - ((x6 * ((bt x0 (wrap64 (x10 - x7))) % 4294967296)) % 4294967296)) % 4294967296) (wrap64 (x10 + 1)))) else (none)) else (none)) else (none)) else (bytealg_IndexRabinKarp_string.l1 k x0 x1 x5 x6 x7 ((((((x8 * 16777619) % 4294967296) + ((bt x0 x10) % 4294967296)) % 4294967296) - ((x6 * ((bt x0 (wrap64 (x10 - x7))) % 4294967296)) % 4294967296)) % 4294967296) (wrap64 (x10 + 1)))) else (none)) else (none)) else (none)) else (some (-1))
end
def bytealg_IndexRabinKarp_string.f (k : Nat) (a0 : ByteArray) (a1 : ByteArray) : Option (Int) := (bytealg_hashStr_string.f k a1).bind fun bt162 => (bytealg_IndexRabinKarp_string.l0 k a0 a1 bt162.1 bt162.2 (a1.size : Int) 0 0)
theorem bytealg_IndexRabinKarp_string.mono_l : ∀ k, (∀ y0 y1 y2 y3 y4 y5 y6, LeO (bytealg_IndexRabinKarp_string.l0 k y0 y1 y2 y3 y4 y5 y6) (bytealg_IndexRabinKarp_string.l0 (k + 1) y0 y1 y2 y3 y4 y5 y6)) ∧ (∀ y0 y1 y2 y3 y4 y5 y6, LeO (bytealg_IndexRabinKarp_string.j1 k y0 y1 y2 y3 y4 y5 y6) (bytealg_IndexRabinKarp_string.j1 (k + 1) y0 y1 y2 y3 y4 y5 y6)) ∧ (∀ y0 y1 y2 y3 y4 y5 y6, LeO (bytealg_IndexRabinKarp_string.l1 k y0 y1 y2 y3 y4 y5 y6) (bytealg_IndexRabinKarp_string.l1 (k + 1) y0 y1 y2 y3 y4 y5 y6))
  | 0 => ⟨fun _ _ _ _ _ _ _ r h => by simp [bytealg_IndexRabinKarp_string.l0] at h, fun _ _ _ _ _ _ _ r h => by simp [bytealg_IndexRabinKarp_string.j1] at h, fun _ _ _ _ _ _ _ r h => by simp [bytealg_IndexRabinKarp_string.l1] at h⟩
  | k + 1 => by
    obtain ⟨ih0, ih1, ih2⟩ := bytealg_IndexRabinKarp_string.mono_l k
    refine ⟨?_, ?_, ?_⟩
    · intro y0 y1 y2 y3 y4 y5 y6
      unfold bytealg_IndexRabinKarp_string.l0
      repeat' first
      | (with_reducible exact ih0 _ _ _ _ _ _ _)
      | (with_reducible exact ih1 _ _ _ _ _ _ _)
      | (with_reducible exact ih2 _ _ _ _ _ _ _)
      | (with_reducible exact bytealg_hashStr_string.mono _ _)
      | (with_reducible exact LeO.refl _)
      | (with_reducible exact LeO.none _)
      | (with_reducible refine LeO.ite ?_ ?_)
      | (with_reducible refine LeO.bind ?_ (fun _ => ?_))
      | exact ih0 _ _ _ _ _ _ _
      | exact ih1 _ _ _ _ _ _ _
      | exact ih2 _ _ _ _ _ _ _
      | exact bytealg_hashStr_string.mono _ _
      | exact LeO.none _
      | refine LeO.ite ?_ ?_
      | refine LeO.bind ?_ (fun _ => ?_)
    · intro y0 y1 y2 y3 y4 y5 y6
      unfold bytealg_IndexRabinKarp_string.j1
      repeat' first
      | (with_reducible exact ih0 _ _ _ _ _ _ _)
      | (with_reducible exact ih1 _ _ _ _ _ _ _)
      | (with_reducible exact ih2 _ _ _ _ _ _ _)
      | (with_reducible exact bytealg_hashStr_string.mono _ _)
      | (with_reducible exact LeO.refl _)
      | (with_reducible exact LeO.none _)
      | (with_reducible refine LeO.ite ?_ ?_)
      | (with_reducible refine LeO.bind ?_ (fun _ => ?_))
      | exact ih0 _ _ _ _ _ _ _
      | exact ih1 _ _ _ _ _ _ _
      | exact ih2 _ _ _ _ _ _ _
      | exact bytealg_hashStr_string.mono _ _
      | exact LeO.none _
      | refine LeO.ite ?_ ?_
      | refine LeO.bind ?_ (fun _ => ?_)
    · intro y0 y1 y2 y3 y4 y5 y6
      unfold bytealg_IndexRabinKarp_string.l1
      repeat' first
      | (with_reducible exact ih0 _ _ _ _ _ _ _)
      | (with_reducible exact ih1 _ _ _ _ _ _ _)
      | (with_reducible exact ih2 _ _ _ _ _ _ _)
      | (with_reducible exact bytealg_hashStr_string.mono _ _)
      | (with_reducible exact LeO.refl _)
      | (with_reducible exact LeO.none _)
      | (with_reducible refine LeO.ite ?_ ?_)
      | (with_reducible refine LeO.bind ?_ (fun _ => ?_))
      | exact ih0 _ _ _ _ _ _ _
      | exact ih1 _ _ _ _ _ _ _
      | exact ih2 _ _ _ _ _ _ _
      | exact bytealg_hashStr_string.mono _ _
      | exact LeO.none _
      | refine LeO.ite ?_ ?_
      | refine LeO.bind ?_ (fun _ => ?_)
theorem bytealg_IndexRabinKarp_string.mono : ∀ a0 a1 k, LeO (bytealg_IndexRabinKarp_string.f k a0 a1) (bytealg_IndexRabinKarp_string.f (k + 1) a0 a1) := by
  intro a0 a1 k
  obtain ⟨ih0, ih1, ih2⟩ := bytealg_IndexRabinKarp_string.mono_l k
  unfold bytealg_IndexRabinKarp_string.f
  repeat' first
      | (with_reducible exact ih0 _ _ _ _ _ _ _)
      | (with_reducible exact ih1 _ _ _ _ _ _ _)
      | (with_reducible exact ih2 _ _ _ _ _ _ _)
      | (with_reducible exact bytealg_hashStr_string.mono _ _)
      | (with_reducible exact LeO.refl _)
      | (with_reducible exact LeO.none _)
      | (with_reducible refine LeO.ite ?_ ?_)
      | (with_reducible refine LeO.bind ?_ (fun _ => ?_))
      | exact ih0 _ _ _ _ _ _ _
      | exact ih1 _ _ _ _ _ _ _
      | exact ih2 _ _ _ _ _ _ _
      | exact bytealg_hashStr_string.mono _ _
      | exact LeO.none _
      | refine LeO.ite ?_ ?_
      | refine LeO.bind ?_ (fun _ => ?_)
mutual
def model_suits.j0 : Nat → Bool → ByteArray → ByteArray → Int → List (S62) → List (S62) → ByteArray → ByteArray → ByteArray → Bool → Bool → Int → List ByteArray → List (S37) → List (S37) → Option (Bool)
  | 0, _, _, _, _, _, _, _, _, _, _, _, _, _, _, _ => none
  | k + 1, x3, x176000, x176001, x176002, x176003, x176004, x176005, x176006, x176007, x176008, x176009, x176010, x176011, x176012, x176013 => if (x176003.length : Int) > 0 then (model_suits.j1 k x3 true x176000 x176001 x176002 x176003 x176004 x176005 x176006 x176007 x176008 x176009 x176010 x176011 x176012 x176013) else (if x176006.toList = ([] : List UInt8) then (model_suits.j1 k x3 (x176007.toList != ([] : List UInt8)) x176000 x176001 x176002 x176003 x176004 x176005 x176006 x176007 x176008 x176009 x176010 x176011 x176012 x176013) else (model_suits.j1 k x3 true x176000 x176001 x176002 x176003 x176004 x176005 x176006 x176007 x176008 x176009 x176010 x176011 x176012 x176013))
def model_suits.j1 : Nat → Bool → Bool → ByteArray → ByteArray → Int → List (S62) → List (S62) → ByteArray → ByteArray → ByteArray → Bool → Bool → Int → List ByteArray → List (S37) → List (S37) → Option (Bool)
  | 0, _, _, _, _, _, _, _, _, _, _, _, _, _, _, _, _ => none
  | k + 1, x3, x4, x176000, x176001, x176002, x176003, x176004, x176005, x176006, x176007, x176008, x176009, x176010, x176011, x176012, x176013 => if (x176004.length : Int) > 0 then (model_suits.j2 k x3 x4 true x176000 x176001 x176002 x176003 x176004 x176005 x176006 x176007 x176008 x176009 x176010 x176011 x176012 x176013) else (model_suits.j2 k x3 x4 (x176005.toList != ([] : List UInt8)) x176000 x176001 x176002 x176003 x176004 x176005 x176006 x176007 x176008 x176009 x176010 x176011 x176012 x176013)
def model_suits.j2 : Nat → Bool → Bool → Bool → ByteArray → ByteArray → Int → List (S62) → List (S62) → ByteArray → ByteArray → ByteArray → Bool → Bool → Int → List ByteArray → List (S37) → List (S37) → Option (Bool)
  | 0, _, _, _, _, _, _, _, _, _, _, _, _, _, _, _, _, _ => none
  | k + 1, x3, x4, x5, x176000, x176001, x176002, x176003, x176004, x176005, x176006, x176007, x176008, x176009, x176010, x176011, x176012, x176013 => if x176002 = 0 then (if x176009 = true then (some false) else (some (!(x176010 != 0)))) else ((model_Task.f x176002).bind fun t176 => (if t176 = true then (if x3 = true then (some false) else (some (!(x176010 != 0)))) else (if x176002 = 5 then (if x3 = true then (some false) else (if x5 = true then (some false) else (if x176009 = true then (some false) else (if x176010 = 0 then (some ((x176011.length : Int) == 0)) else (some false))))) else (if x176002 = 6 then (if x3 = true then (some false) else (if x5 = true then (some false) else (if x4 = true then (some false) else (if x176009 = true then (some false) else (some (!(x176010 != 0))))))) else (if x176002 = 7 then (if x3 = true then (some false) else (if x5 = true then (some false) else (if x4 = true then (some false) else (if x176009 = true then (some false) else (if x176010 ≥ 1 then (if x176010 ≤ 2147483648 then (some ((x176011.length : Int) == 0)) else (some false)) else (some false)))))) else (some false))))))
end
def model_suits.f (k : Nat) (a0_0 : ByteArray) (a0_1 : ByteArray) (a0_2 : Int) (l0_3 : List (S62)) (l0_4 : List (S62)) (a0_5 : ByteArray) (a0_6 : ByteArray) (a0_7 : ByteArray) (a0_8 : Bool) (a0_9 : Bool) (a0_10 : Int) (l0_11 : List ByteArray) (l0_12 : List (S37)) (l0_13 : List (S37)) : Option (Bool) := if a0_8 = true then (model_suits.j0 k true a0_0 a0_1 a0_2 l0_3 l0_4 a0_5 a0_6 a0_7 a0_8 a0_9 a0_10 l0_11 l0_12 l0_13) else (model_suits.j0 k (decide ((wrap64 ((l0_12.length : Int) + (l0_13.length : Int))) > 0)) a0_0 a0_1 a0_2 l0_3 l0_4 a0_5 a0_6 a0_7 a0_8 a0_9 a0_10 l0_11 l0_12 l0_13)
theorem model_suits.mono_l : ∀ k, (∀ y0 y1 y2 y3 y4 y5 y6 y7 y8 y9 y10 y11 y12 y13 y14, LeO (model_suits.j0 k y0 y1 y2 y3 y4 y5 y6 y7 y8 y9 y10 y11 y12 y13 y14) (model_suits.j0 (k + 1) y0 y1 y2 y3 y4 y5 y6 y7 y8 y9 y10 y11 y12 y13 y14)) ∧ (∀ y0 y1 y2 y3 y4 y5 y6 y7 y8 y9 y10 y11 y12 y13 y14 y15, LeO (model_suits.j1 k y0 y1 y2 y3 y4 y5 y6 y7 y8 y9 y10 y11 y12 y13 y14 y15) (model_suits.j1 (k + 1) y0 y1 y2 y3 y4 y5 y6 y7 y8 y9 y10 y11 y12 y13 y14 y15)) ∧ (∀ y0 y1 y2 y3 y4 y5 y6 y7 y8 y9 y10 y11 y12 y13 y14 y15 y16, LeO (model_suits.j2 k y0 y1 y2 y3 y4 y5 y6 y7 y8 y9 y10 y11 y12 y13 y14 y15 y16) (model_suits.j2 (k + 1) y0 y1 y2 y3 y4 y5 y6 y7 y8 y9 y10 y11 y12 y13 y14 y15 y16))
  | 0 => ⟨fun _ _ _ _ _ _ _ _ _ _ _ _ _ _ _ r h => by simp [model_suits.j0] at h, fun _ _ _ _ _ _ _ _ _ _ _ _ _ _ _ _ r h => by simp [model_suits.j1] at h, fun _ _ _ _ _ _ _ _ _ _ _ _ _ _ _ _ _ r h => by simp [model_suits.j2] at h⟩
  | k + 1 => by
    obtain ⟨ih0, ih1, ih2⟩ := model_suits.mono_l k
    refine ⟨?_, ?_, ?_⟩
    · intro y0 y1 y2 y3 y4 y5 y6 y7 y8 y9 y10 y11 y12 y13 y14
      unfold model_suits.j0
      repeat' first
      | (with_reducible exact ih0 _ _ _ _ _ _ _ _ _ _ _ _ _ _ _)
      | (with_reducible exact ih1 _ _ _ _ _ _ _ _ _ _ _ _ _ _ _ _)
      | (with_reducible exact ih2 _ _ _ _ _ _ _ _ _ _ _ _ _ _ _ _ _)
      | (with_reducible exact LeO.refl _)
      | (with_reducible exact LeO.none _)
      | (with_reducible refine LeO.ite ?_ ?_)
      | (with_reducible refine LeO.bind ?_ (fun _ => ?_))
      | exact ih0 _ _ _ _ _ _ _ _ _ _ _ _ _ _ _
      | exact ih1 _ _ _ _ _ _ _ _ _ _ _ _ _ _ _ _
      | exact ih2 _ _ _ _ _ _ _ _ _ _ _ _ _ _ _ _ _
      | exact LeO.none _
      | refine LeO.ite ?_ ?_
      | refine LeO.bind ?_ (fun _ => ?_)
    · intro y0 y1 y2 y3 y4 y5 y6 y7 y8 y9 y10 y11 y12 y13 y14 y15
      unfold model_suits.j1
      repeat' first
      | (with_reducible exact ih0 _ _ _ _ _ _ _ _ _ _ _ _ _ _ _)
      | (with_reducible exact ih1 _ _ _ _ _ _ _ _ _ _ _ _ _ _ _ _)
      | (with_reducible exact ih2 _ _ _ _ _ _ _ _ _ _ _ _ _ _ _ _ _)
      | (with_reducible exact LeO.refl _)
      | (with_reducible exact LeO.none _)
      | (with_reducible refine LeO.ite ?_ ?_)
      | (with_reducible refine LeO.bind ?_ (fun _ => ?_))
      | exact ih0 _ _ _ _ _ _ _ _ _ _ _ _ _ _ _
      | exact ih1 _ _ _ _ _ _ _ _ _ _ _ _ _ _ _ _
      | exact ih2 _ _ _ _ _ _ _ _ _ _ _ _ _ _ _ _ _
      | exact LeO.none _
      | refine LeO.ite ?_ ?_
      | refine LeO.bind ?_ (fun _ => ?_)
    · intro y0 y1 y2 y3 y4 y5 y6 y7 y8 y9 y10 y11 y12 y13 y14 y15 y16
      unfold model_suits.j2
      repeat' first
      | (with_reducible exact ih0 _ _ _ _ _ _ _ _ _ _ _ _ _ _ _)
      | (with_reducible exact ih1 _ _ _ _ _ _ _ _ _ _ _ _ _ _ _ _)
      | (with_reducible exact ih2 _ _ _ _ _ _ _ _ _ _ _ _ _ _ _ _ _)
      | (with_reducible exact LeO.refl _)
      | (with_reducible exact LeO.none _)
      | (with_reducible refine LeO.ite ?_ ?_)
      | (with_reducible refine LeO.bind ?_ (fun _ => ?_))
      | exact ih0 _ _ _ _ _ _ _ _ _ _ _ _ _ _ _
      | exact ih1 _ _ _ _ _ _ _ _ _ _ _ _ _ _ _ _
      | exact ih2 _ _ _ _ _ _ _ _ _ _ _ _ _ _ _ _ _
      | exact LeO.none _
      | refine LeO.ite ?_ ?_
      | refine LeO.bind ?_ (fun _ => ?_)
theorem model_suits.mono : ∀ a0 a1 a2 a3 a4 a5 a6 a7 a8 a9 a10 a11 a12 a13 k, LeO (model_suits.f k a0 a1 a2 a3 a4 a5 a6 a7 a8 a9 a10 a11 a12 a13) (model_suits.f (k + 1) a0 a1 a2 a3 a4 a5 a6 a7 a8 a9 a10 a11 a12 a13) := by
  intro a0 a1 a2 a3 a4 a5 a6 a7 a8 a9 a10 a11 a12 a13 k
  obtain ⟨ih0, ih1, ih2⟩ := model_suits.mono_l k
  unfold model_suits.f
  repeat' first
      | (with_reducible exact ih0 _ _ _ _ _ _ _ _ _ _ _ _ _ _ _)
      | (with_reducible exact ih1 _ _ _ _ _ _ _ _ _ _ _ _ _ _ _ _)
      | (with_reducible exact ih2 _ _ _ _ _ _ _ _ _ _ _ _ _ _ _ _ _)
      | (with_reducible exact LeO.refl _)
      | (with_reducible exact LeO.none _)
      | (with_reducible refine LeO.ite ?_ ?_)
      | (with_reducible refine LeO.bind ?_ (fun _ => ?_))
      | exact ih0 _ _ _ _ _ _ _ _ _ _ _ _ _ _ _
      | exact ih1 _ _ _ _ _ _ _ _ _ _ _ _ _ _ _ _
      | exact ih2 _ _ _ _ _ _ _ _ _ _ _ _ _ _ _ _ _
      | exact LeO.none _
      | refine LeO.ite ?_ ?_
      | refine LeO.bind ?_ (fun _ => ?_)
def strings_TrimLeft.f (a0 : ByteArray) (a1 : ByteArray) : Option ByteArray := if a1.data.toList.all (fun b => decide (b.toNat < 128)) = true ∧ a1.size < 4294967281 then some ⟨(Lib.trimLeftS a0.data.toList a1.data.toList).toArray⟩ else none
mutual
def chars_Number.j0 : Nat → ByteArray → Bool → Option (Int × Int)
  | 0, _, _ => none
  | k + 1, x0, x4 => if x4 = true then (if 1 ≤ (x0.size : Int) then (chars_Number.j1 k x0 x4 (x0.extract 1 x0.size)) else (none)) else (chars_Number.j1 k x0 x4 x0)
def chars_Number.j1 : Nat → ByteArray → Bool → ByteArray → Option (Int × Int)
  | 0, _, _, _ => none
  | k + 1, x0, x4, x5 => if x5.toList = ([] : List UInt8) then (chars_Number.j2 k x4 x5 true) else (if 0 < (x5.size : Int) then (if (bt x5 0) = 48 then (chars_Number.j2 k x4 x5 (decide ((x0.size : Int) > 1))) else (chars_Number.j2 k x4 x5 false)) else (none))
def chars_Number.j2 : Nat → Bool → ByteArray → Bool → Option (Int × Int)
  | 0, _, _, _ => none
  | k + 1, x4, x5, x34 => if x34 = true then (some (0, 5)) else (if x5.size < 140737488355328 then (chars_Number.l0 k x4 0 (decide ((x5.size : Int) > 19)) x5 (x5.size : Int) 0) else none)
def chars_Number.l0 : Nat → Bool → Int → Bool → ByteArray → Int → Int → Option (Int × Int)
  | 0, _, _, _, _, _, _ => none
  | k + 1, x4, x6, x7, x39, x40, x41 => if x41 < x40 then (if 0 ≤ x41 then (if x41 < (x39.size : Int) then (if (bt x39 x41) < 48 then (chars_Number.j4 k x4 x6 x7 (bt x39 x41) x39 x40 x41 true) else (chars_Number.j4 k x4 x6 x7 (bt x39 x41) x39 x40 x41 (decide ((bt x39 x41) > 57)))) else (none)) else (none)) else (if x4 = true then (chars_Number.j5 k x4 x6 x7 9223372036854775808) else (chars_Number.j5 k x4 x6 x7 (9223372036854775808 - 1)))
def chars_Number.j4 : Nat → Bool → Int → Bool → Int → ByteArray → Int → Int → Bool → Option (Int × Int)
  | 0, _, _, _, _, _, _, _, _ => none
  | k + 1, x4, x6, x7, x9, x39, x40, x41, x50 => if x50 = true then (some (0, 5)) else (if x7 = true then (chars_Number.l0 k x4 x6 x7 x39 x40 (wrap64 (x41 + 1))) else (chars_Number.l0 k x4 (IntKind.u64.wrap ((IntKind.u64.wrap (10 * x6)) + ((x9 - 48) % 256))) x7 x39 x40 (wrap64 (x41 + 1))))
def chars_Number.j5 : Nat → Bool → Int → Bool → Int → Option (Int × Int)
  | 0, _, _, _, _ => none
  | k + 1, x4, x6, x7, x10 => if x7 = true then (chars_Number.j6 k x4 x6 true) else (chars_Number.j6 k x4 x6 (decide (x6 > x10)))
def chars_Number.j6 : Nat → Bool → Int → Bool → Option (Int × Int)
  | 0, _, _, _ => none
  | k + 1, x4, x6, x64 => if x64 = true then (some (0, 4)) else (if x4 = true then (some (wrap64 (-(wrap64 (x6))), 0)) else (some (wrap64 (x6), 0)))
end
def chars_Number.f (k : Nat) (a0 : ByteArray) : Option (Int × Int) := if (a0.size : Int) > 0 then (if 0 < (a0.size : Int) then (chars_Number.j0 k a0 ((bt a0 0) == 45)) else (none)) else (chars_Number.j0 k a0 false)
theorem chars_Number.mono_l : ∀ k, (∀ y0 y1, LeO (chars_Number.j0 k y0 y1) (chars_Number.j0 (k + 1) y0 y1)) ∧ (∀ y0 y1 y2, LeO (chars_Number.j1 k y0 y1 y2) (chars_Number.j1 (k + 1) y0 y1 y2)) ∧ (∀ y0 y1 y2, LeO (chars_Number.j2 k y0 y1 y2) (chars_Number.j2 (k + 1) y0 y1 y2)) ∧ (∀ y0 y1 y2 y3 y4 y5, LeO (chars_Number.l0 k y0 y1 y2 y3 y4 y5) (chars_Number.l0 (k + 1) y0 y1 y2 y3 y4 y5)) ∧ (∀ y0 y1 y2 y3 y4 y5 y6 y7, LeO (chars_Number.j4 k y0 y1 y2 y3 y4 y5 y6 y7) (chars_Number.j4 (k + 1) y0 y1 y2 y3 y4 y5 y6 y7)) ∧ (∀ y0 y1 y2 y3, LeO (chars_Number.j5 k y0 y1 y2 y3) (chars_Number.j5 (k + 1) y0 y1 y2 y3)) ∧ (∀ y0 y1 y2, LeO (chars_Number.j6 k y0 y1 y2) (chars_Number.j6 (k + 1) y0 y1 y2))
  | 0 => ⟨fun _ _ r h => by simp [chars_Number.j0] at h, fun _ _ _ r h => by simp [chars_Number.j1] at h, fun _ _ _ r h => by simp [chars_Number.j2] at h, fun _ _ _ _ _ _ r h => by simp [chars_Number.l0] at h, fun _ _ _ _ _ _ _ _ r h => by simp [chars_Number.j4] at h, fun _ _ _ _ r h => by simp [chars_Number.j5] at h, fun _ _ _ r h => by simp [chars_Number.j6] at h⟩
  | k + 1 => by
    obtain ⟨ih0, ih1, ih2, ih3, ih4, ih5, ih6⟩ := chars_Number.mono_l k
    refine ⟨?_, ?_, ?_, ?_, ?_, ?_, ?_⟩
    · intro y0 y1
      unfold chars_Number.j0
      repeat' first
      | (with_reducible exact ih0 _ _)
      | (with_reducible exact ih1 _ _ _)
      | (with_reducible exact ih2 _ _ _)
      | (with_reducible exact ih3 _ _ _ _ _ _)
      | (with_reducible exact ih4 _ _ _ _ _ _ _ _)
      | (with_reducible exact ih5 _ _ _ _)
      | (with_reducible exact ih6 _ _ _)
      | (with_reducible exact LeO.refl _)
      | (with_reducible exact LeO.none _)
      | (with_reducible refine LeO.ite ?_ ?_)
      | (with_reducible refine LeO.bind ?_ (fun _ => ?_))
      | exact ih0 _ _
      | exact ih1 _ _ _
      | exact ih2 _ _ _
      | exact ih3 _ _ _ _ _ _
      | exact ih4 _ _ _ _ _ _ _ _
      | exact ih5 _ _ _ _
      | exact ih6 _ _ _
      | exact LeO.none _
      | refine LeO.ite ?_ ?_
      | refine LeO.bind ?_ (fun _ => ?_)
    · intro y0 y1 y2
      unfold chars_Number.j1
      repeat' first
      | (with_reducible exact ih0 _ _)
      | (with_reducible exact ih1 _ _ _)
      | (with_reducible exact ih2 _ _ _)
      | (with_reducible exact ih3 _ _ _ _ _ _)
      | (with_reducible exact ih4 _ _ _ _ _ _ _ _)
      | (with_reducible exact ih5 _ _ _ _)
      | (with_reducible exact ih6 _ _ _)
      | (with_reducible exact LeO.refl _)
      | (with_reducible exact LeO.none _)
      | (with_reducible refine LeO.ite ?_ ?_)
      | (with_reducible refine LeO.bind ?_ (fun _ => ?_))
      | exact ih0 _ _
      | exact ih1 _ _ _
      | exact ih2 _ _ _
      | exact ih3 _ _ _ _ _ _
      | exact ih4 _ _ _ _ _ _ _ _
      | exact ih5 _ _ _ _
      | exact ih6 _ _ _
      | exact LeO.none _
      | refine LeO.ite ?_ ?_
      | refine LeO.bind ?_ (fun _ => ?_)
    · intro y0 y1 y2
      unfold chars_Number.j2
      repeat' first
      | (with_reducible exact ih0 _ _)
      | (with_reducible exact ih1 _ _ _)
      | (with_reducible exact ih2 _ _ _)
      | (with_reducible exact ih3 _ _ _ _ _ _)
      | (with_reducible exact ih4 _ _ _ _ _ _ _ _)
      | (with_reducible exact ih5 _ _ _ _)
      | (with_reducible exact ih6 _ _ _)
      | (with_reducible exact LeO.refl _)
      | (with_reducible exact LeO.none _)
      | (with_reducible refine LeO.ite ?_ ?_)
      | (with_reducible refine LeO.bind ?_ (fun _ => ?_))
      | exact ih0 _ _
      | exact ih1 _ _ _
      | exact ih2 _ _ _
      | exact ih3 _ _ _ _ _ _
      | exact ih4 _ _ _ _ _ _ _ _
      | exact ih5 _ _ _ _
      | exact ih6 _ _ _
      | exact LeO.none _
      | refine LeO.ite ?_ ?_
      | refine LeO.bind ?_ (fun _ => ?_)
    · intro y0 y1 y2 y3 y4 y5
      unfold chars_Number.l0
      repeat' first
      | (with_reducible exact ih0 _ _)
      | (with_reducible exact ih1 _ _ _)
      | (with_reducible exact ih2 _ _ _)
      | (with_reducible exact ih3 _ _ _ _ _ _)
      | (with_reducible exact ih4 _ _ _ _ _ _ _ _)
      | (with_reducible exact ih5 _ _ _ _)
      | (with_reducible exact ih6 _ _ _)
      | (with_reducible exact LeO.refl _)
      | (with_reducible exact LeO.none _)
      | (with_reducible refine LeO.ite ?_ ?_)
      | (with_reducible refine LeO.bind ?_ (fun _ => ?_))
      | exact ih0 _ _
      | exact ih1 _ _ _
      | exact ih2 _ _ _
      | exact ih3 _ _ _ _ _ _
      | exact ih4 _ _ _ _ _ _ _ _
      | exact ih5 _ _ _ _
      | exact ih6 _ _ _
      | exact LeO.none _
      | refine LeO.ite ?_ ?_
      | refine LeO.bind ?_ (fun _ => ?_)
    · intro y0 y1 y2 y3 y4 y5 y6 y7
      unfold chars_Number.j4
      repeat' first
      | (with_reducible exact ih0 _ _)
      | (with_reducible exact ih1 _ _ _)
      | (with_reducible exact ih2 _ _ _)
      | (with_reducible exact ih3 _ _ _ _ _ _)
      | (with_reducible exact ih4 _ _ _ _ _ _ _ _)
      | (with_reducible exact ih5 _ _ _ _)
      | (with_reducible exact ih6 _ _ _)
      | (with_reducible exact LeO.refl _)
      | (with_reducible exact LeO.none _)
      | (with_reducible refine LeO.ite ?_ ?_)
      | (with_reducible refine LeO.bind ?_ (fun _ => ?_))
      | exact ih0 _ _
      | exact ih1 _ _ _
      | exact ih2 _ _ _
      | exact ih3 _ _ _ _ _ _
      | exact ih4 _ _ _ _ _ _ _ _
      | exact ih5 _ _ _ _
      | exact ih6 _ _ _
      | exact LeO.none _
      | refine LeO.ite ?_ ?_
      | refine LeO.bind ?_ (fun _ => ?_)
    · intro y0 y1 y2 y3
      unfold chars_Number.j5
      repeat' first
      | (with_reducible exact ih0 _ _)
      | (with_reducible exact ih1 _ _ _)
      | (with_reducible exact ih2 _ _ _)
      | (with_reducible exact ih3 _ _ _ _ _ _)
      | (with_reducible exact ih4 _ _ _ _ _ _ _ _)
      | (with_reducible exact ih5 _ _ _ _)
      | (with_reducible exact ih6 _ _ _)
      | (with_reducible exact LeO.refl _)
      | (with_reducible exact LeO.none _)
      | (with_reducible refine LeO.ite ?_ ?_)
      | (with_reducible refine LeO.bind ?_ (fun _ => ?_))
      | exact ih0 _ _
      | exact ih1 _ _ _
      | exact ih2 _ _ _
      | exact ih3 _ _ _ _ _ _
      | exact ih4 _ _ _ _ _ _ _ _
      | exact ih5 _ _ _ _
      | exact ih6 _ _ _
      | exact LeO.none _
      | refine LeO.ite ?_ ?_
      | refine LeO.bind ?_ (fun _ => ?_)
    · intro y0 y1 y2
      unfold chars_Number.j6
      repeat' first
      | (with_reducible exact ih0 _ _)
      | (with_reducible exact ih1 _ _ _)
      | (with_reducible exact ih2 _ _ _)
      | (with_reducible exact ih3 _ _ _ _ _ _)
      | (with_reducible exact ih4 _ _ _ _ _ _ _ _)
      | (with_reducible exact ih5 _ _ _ _)
      | (with_reducible exact ih6 _ _ _)
      | (with_reducible exact LeO.refl _)
      | (with_reducible exact LeO.none _)
      | (with_reducible refine LeO.ite ?_ ?_)
      | (with_reducible refine LeO.bind ?_ (fun _ => ?_))
      | exact ih0 _ _
      | exact ih1 _ _ _
      | exact ih2 _ _ _
      | exact ih3 _ _ _ _ _ _
      | exact ih4 _ _ _ _ _ _ _ _
      | exact ih5 _ _ _ _
      | exact ih6 _ _ _
      | exact LeO.none _
      | refine LeO.ite ?_ ?_
      | refine LeO.bind ?_ (fun _ => ?_)
theorem chars_Number.mono : ∀ a0 k, LeO (chars_Number.f k a0) (chars_Number.f (k + 1) a0) := by
  intro a0 k
  obtain ⟨ih0, ih1, ih2, ih3, ih4, ih5, ih6⟩ := chars_Number.mono_l k
  unfold chars_Number.f
  repeat' first
      | (with_reducible exact ih0 _ _)
      | (with_reducible exact ih1 _ _ _)
      | (with_reducible exact ih2 _ _ _)
      | (with_reducible exact ih3 _ _ _ _ _ _)
      | (with_reducible exact ih4 _ _ _ _ _ _ _ _)
      | (with_reducible exact ih5 _ _ _ _)
      | (with_reducible exact ih6 _ _ _)
      | (with_reducible exact LeO.refl _)
      | (with_reducible exact LeO.none _)
      | (with_reducible refine LeO.ite ?_ ?_)
      | (with_reducible refine LeO.bind ?_ (fun _ => ?_))
      | exact ih0 _ _
      | exact ih1 _ _ _
      | exact ih2 _ _ _
      | exact ih3 _ _ _ _ _ _
      | exact ih4 _ _ _ _ _ _ _ _
      | exact ih5 _ _ _ _
      | exact ih6 _ _ _
      | exact LeO.none _
      | refine LeO.ite ?_ ?_
      | refine LeO.bind ?_ (fun _ => ?_)
mutual
def lexer_quoted.l0 : Nat → ByteArray → List Int → Int → Option (ByteArray × Int)
  | 0, _, _, _ => none
  | k + 1, x0, x4, x5 => if x5 < (x0.size : Int) then (if 0 ≤ x5 then (if (bt x0 x5) = 34 then (if (x4.length : Int) > 256 then (lexer_quoted.j1 k x4 x5 true) else ((chars_Wrong.f k x4).bind fun t184 => (lexer_quoted.j1 k x4 x5 (decide (t184 ≥ 0))))) else (if (bt x0 x5) = 92 then (if (wrap64 (x5 + 1)) = (x0.size : Int) then (some ((⟨#[]⟩ : ByteArray), 0)) else (if 0 ≤ (wrap64 (x5 + 1)) then (if (wrap64 (x5 + 1)) < (x0.size : Int) then ((lexer_is.f (bt x0 (wrap64 (x5 + 1))) (⟨#[34, 92]⟩ : ByteArray)).bind fun t177 => (if t177 = true then (if x4.length < 140737488355328 then (lexer_quoted.l0 k x0 (x4 ++ [bt x0 (wrap64 (x5 + 1))]) (wrap64 ((wrap64 (x5 + 1)) + 1))) else (none)) else (some ((⟨#[]⟩ : ByteArray), 0)))) else (none)) else (none))) else (if x4.length < 140737488355328 then (lexer_quoted.l0 k x0 (x4 ++ [bt x0 x5]) (wrap64 (x5 + 1))) else (none)))) else (none)) else (some ((⟨#[]⟩ : ByteArray), 0))
def lexer_quoted.j1 : Nat → List Int → Int → Bool → Option (ByteArray × Int)
  | 0, _, _, _ => none
  | k + 1, x4, x5, x29 => if x29 = true then (some ((⟨#[]⟩ : ByteArray), 0)) else (some (strOfNums x4, wrap64 (x5 + 1)))
end
def lexer_quoted.f (k : Nat) (a0 : ByteArray) : Option (ByteArray × Int) := lexer_quoted.l0 k a0 ([] : List Int) 1
theorem lexer_quoted.mono_l : ∀ k, (∀ y0 y1 y2, LeO (lexer_quoted.l0 k y0 y1 y2) (lexer_quoted.l0 (k + 1) y0 y1 y2)) ∧ (∀ y0 y1 y2, LeO (lexer_quoted.j1 k y0 y1 y2) (lexer_quoted.j1 (k + 1) y0 y1 y2))
  | 0 => ⟨fun _ _ _ r h => by simp [lexer_quoted.l0] at h, fun _ _ _ r h => by simp [lexer_quoted.j1] at h⟩
  | k + 1 => by
    obtain ⟨ih0, ih1⟩ := lexer_quoted.mono_l k
    refine ⟨?_, ?_⟩
    · intro y0 y1 y2
      unfold lexer_quoted.l0
      repeat' first
      | (with_reducible exact ih0 _ _ _)
      | (with_reducible exact ih1 _ _ _)
      | (with_reducible exact chars_Wrong.mono _ _)
      | (with_reducible exact LeO.refl _)
      | (with_reducible exact LeO.none _)
      | (with_reducible refine LeO.ite ?_ ?_)
      | (with_reducible refine LeO.bind ?_ (fun _ => ?_))
      | exact ih0 _ _ _
      | exact ih1 _ _ _
      | exact chars_Wrong.mono _ _
      | exact LeO.none _
      | refine LeO.ite ?_ ?_
      | refine LeO.bind ?_ (fun _ => ?_)
    · intro y0 y1 y2
      unfold lexer_quoted.j1
      repeat' first
      | (with_reducible exact ih0 _ _ _)
      | (with_reducible exact ih1 _ _ _)
      | (with_reducible exact chars_Wrong.mono _ _)
      | (with_reducible exact LeO.refl _)
      | (with_reducible exact LeO.none _)
      | (with_reducible refine LeO.ite ?_ ?_)
      | (with_reducible refine LeO.bind ?_ (fun _ => ?_))
      | exact ih0 _ _ _
      | exact ih1 _ _ _
      | exact chars_Wrong.mono _ _
      | exact LeO.none _
      | refine LeO.ite ?_ ?_
      | refine LeO.bind ?_ (fun _ => ?_)
theorem lexer_quoted.mono : ∀ a0 k, LeO (lexer_quoted.f k a0) (lexer_quoted.f (k + 1) a0) := by
  intro a0 k
  obtain ⟨ih0, ih1⟩ := lexer_quoted.mono_l k
  unfold lexer_quoted.f
  repeat' first
      | (with_reducible exact ih0 _ _ _)
      | (with_reducible exact ih1 _ _ _)
      | (with_reducible exact chars_Wrong.mono _ _)
      | (with_reducible exact LeO.refl _)
      | (with_reducible exact LeO.none _)
      | (with_reducible refine LeO.ite ?_ ?_)
      | (with_reducible refine LeO.bind ?_ (fun _ => ?_))
      | exact ih0 _ _ _
      | exact ih1 _ _ _
      | exact chars_Wrong.mono _ _
      | exact LeO.none _
      | refine LeO.ite ?_ ?_
      | refine LeO.bind ?_ (fun _ => ?_)
def lexer_sign.l0 : Nat → ByteArray → Int → Option (ByteArray)
  | 0, _, _ => none
  | k + 1, x0, x3 => if x3 > 0 then (if 0 ≤ x3 then (if x3 ≤ (x0.size : Int) then (if (x0.extract 0 (x3 : Int).toNat).toList = ([60, 61] : List UInt8) then (some (x0.extract 0 (x3 : Int).toNat)) else (if (x0.extract 0 (x3 : Int).toNat).toList = ([62, 61] : List UInt8) then (some (x0.extract 0 (x3 : Int).toNat)) else (if (x0.extract 0 (x3 : Int).toNat).toList = ([33, 61] : List UInt8) then (some (x0.extract 0 (x3 : Int).toNat)) else (if (x0.extract 0 (x3 : Int).toNat).toList = ([40] : List UInt8) then (some (x0.extract 0 (x3 : Int).toNat)) else (if (x0.extract 0 (x3 : Int).toNat).toList = ([41] : List UInt8) then (some (x0.extract 0 (x3 : Int).toNat)) else (if (x0.extract 0 (x3 : Int).toNat).toList = ([46] : List UInt8) then (some (x0.extract 0 (x3 : Int).toNat)) else (if (x0.extract 0 (x3 : Int).toNat).toList = ([44] : List UInt8) then (some (x0.extract 0 (x3 : Int).toNat)) else (if (x0.extract 0 (x3 : Int).toNat).toList = ([43] : List UInt8) then (some (x0.extract 0 (x3 : Int).toNat)) else (if (x0.extract 0 (x3 : Int).toNat).toList = ([45] : List UInt8) then (some (x0.extract 0 (x3 : Int).toNat)) else (if (x0.extract 0 (x3 : Int).toNat).toList = ([42] : List UInt8) then (some (x0.extract 0 (x3 : Int).toNat)) else (if (x0.extract 0 (x3 : Int).toNat).toList = ([47] : List UInt8) then (some (x0.extract 0 (x3 : Int).toNat)) else (if (x0.extract 0 (x3 : Int).toNat).toList = ([37] : List UInt8) then (some (x0.extract 0 (x3 : Int).toNat)) else (if (x0.extract 0 (x3 : Int).toNat).toList = ([60] : List UInt8) then (some (x0.extract 0 (x3 : Int).toNat)) else (if (x0.extract 0 (x3 : Int).toNat).toList = ([62] : List UInt8) then (some (x0.extract 0 (x3 : Int).toNat)) else (if (x0.extract 0 (x3 : Int).toNat).toList = ([61] : List UInt8) then (some (x0.extract 0 (x3 : Int).toNat)) else (lexer_sign.l0 k x0 (wrap64 (x3 - 1)))))))))))))))))) else (none)) else (none)) else (some (⟨#[]⟩ : ByteArray))
def lexer_sign.f (k : Nat) (a0 : ByteArray) : Option (ByteArray) := lexer_sign.l0 k a0 (mn 2 (a0.size : Int))
theorem lexer_sign.mono_l : ∀ k, (∀ y0 y1, LeO (lexer_sign.l0 k y0 y1) (lexer_sign.l0 (k + 1) y0 y1))
  | 0 => fun _ _ r h => by simp [lexer_sign.l0] at h
  | k + 1 => by
    have ih0 := lexer_sign.mono_l k
    · intro y0 y1
      unfold lexer_sign.l0
      repeat' first
      | (with_reducible exact ih0 _ _)
      | (with_reducible exact LeO.refl _)
      | (with_reducible exact LeO.none _)
      | (with_reducible refine LeO.ite ?_ ?_)
      | (with_reducible refine LeO.bind ?_ (fun _ => ?_))
      | exact ih0 _ _
      | exact LeO.none _
      | refine LeO.ite ?_ ?_
      | refine LeO.bind ?_ (fun _ => ?_)
theorem lexer_sign.mono : ∀ a0 k, LeO (lexer_sign.f k a0) (lexer_sign.f (k + 1) a0) := by
  intro a0 k
  have ih0 := lexer_sign.mono_l k
  unfold lexer_sign.f
  repeat' first
      | (with_reducible exact ih0 _ _)
      | (with_reducible exact LeO.refl _)
      | (with_reducible exact LeO.none _)
      | (with_reducible refine LeO.ite ?_ ?_)
      | (with_reducible refine LeO.bind ?_ (fun _ => ?_))
      | exact ih0 _ _
      | exact LeO.none _
      | refine LeO.ite ?_ ?_
      | refine LeO.bind ?_ (fun _ => ?_)
def lexer_word.f (k : Nat) (a0 : ByteArray) : Option (Int × ByteArray × Int × Int) := if 0 < (a0.size : Int) then ((lexer_is.f (bt a0 0) (⟨#[65, 66, 67, 68, 69, 70, 71, 72, 73, 74, 75, 76, 77, 78, 79, 80, 81, 82, 83, 84, 85, 86, 87, 88, 89, 90, 97, 98, 99, 100, 101, 102, 103, 104, 105, 106, 107, 108, 109, 110, 111, 112, 113, 114, 115, 116, 117, 118, 119, 120, 121, 122, 95]⟩ : ByteArray)).bind fun t186 => (if t186 = true then ((lexer_run.f k a0 (⟨#[65, 66, 67, 68, 69, 70, 71, 72, 73, 74, 75, 76, 77, 78, 79, 80, 81, 82, 83, 84, 85, 86, 87, 88, 89, 90, 97, 98, 99, 100, 101, 102, 103, 104, 105, 106, 107, 108, 109, 110, 111, 112, 113, 114, 115, 116, 117, 118, 119, 120, 121, 122, 95, 48, 49, 50, 51, 52, 53, 54, 55, 56, 57]⟩ : ByteArray)).bind fun t187 => (some (1, t187, 0, (t187.size : Int)))) else ((lexer_is.f (bt a0 0) (⟨#[48, 49, 50, 51, 52, 53, 54, 55, 56, 57]⟩ : ByteArray)).bind fun t188 => (if t188 = true then ((lexer_run.f k a0 (⟨#[48, 49, 50, 51, 52, 53, 54, 55, 56, 57]⟩ : ByteArray)).bind fun t189 => ((chars_Number.f k t189).bind fun bt190 => (if bt190.2 = 0 then (some (2, (⟨#[]⟩ : ByteArray), bt190.1, (t189.size : Int))) else (some (0, (⟨#[]⟩ : ByteArray), 0, 0))))) else (if (bt a0 0) = 34 then ((lexer_quoted.f k a0).bind fun bt192 => (some (3, bt192.1, 0, bt192.2))) else ((lexer_sign.f k a0).bind fun t194 => (some (4, t194, 0, (t194.size : Int))))))))) else (none)
theorem lexer_word.mono : ∀ a0 k, LeO (lexer_word.f k a0) (lexer_word.f (k + 1) a0) := by
  intro a0 k
  unfold lexer_word.f
  repeat' first
      | (with_reducible exact chars_Number.mono _ _)
      | (with_reducible exact lexer_quoted.mono _ _)
      | (with_reducible exact lexer_run.mono _ _ _)
      | (with_reducible exact lexer_sign.mono _ _)
      | (with_reducible exact LeO.refl _)
      | (with_reducible exact LeO.none _)
      | (with_reducible refine LeO.ite ?_ ?_)
      | (with_reducible refine LeO.bind ?_ (fun _ => ?_))
      | exact chars_Number.mono _ _
      | exact lexer_quoted.mono _ _
      | exact lexer_run.mono _ _ _
      | exact lexer_sign.mono _ _
      | exact LeO.none _
      | refine LeO.ite ?_ ?_
      | refine LeO.bind ?_ (fun _ => ?_)
def lexer_Words.l0 : Nat → ByteArray → List (S120) → ByteArray → Option ((List (S120)) × Int × Int)
  | 0, _, _, _ => none
  | k + 1, x0, x5, x6 => if x6.toList = ([] : List UInt8) then (if x5.length < 4398046511104 then (some ((x5 ++ [(⟨0, (⟨#[]⟩ : ByteArray), 0⟩ : S120)]), 0, 0)) else (none)) else ((lexer_word.f k x6).bind fun bt199 => (if bt199.2.2.2 = 0 then (some (([] : List (S120)), wrap64 ((x0.size : Int) - (x6.size : Int)), 20)) else (if x5.length < 4398046511104 then (if 0 ≤ bt199.2.2.2 then (if bt199.2.2.2 ≤ (x6.size : Int) then ((strings_TrimLeft.f (x6.extract (bt199.2.2.2 : Int).toNat x6.size) (⟨#[32, 9, 10, 13]⟩ : ByteArray)).bind fun t207 => (lexer_Words.l0 k x0 (x5 ++ [(⟨bt199.1, bt199.2.1, bt199.2.2.1⟩ : S120)]) t207)) else (none)) else (none)) else (none))))
def lexer_Words.f (k : Nat) (a0 : ByteArray) : Option ((List (S120)) × Int × Int) := if (a0.size : Int) > 400 then (some (([] : List (S120)), 0, 4)) else ((strings_TrimLeft.f a0 (⟨#[32, 9, 10, 13]⟩ : ByteArray)).bind fun t195 => (lexer_Words.l0 k a0 ([] : List (S120)) t195))
theorem lexer_Words.mono_l : ∀ k, (∀ y0 y1 y2, LeO (lexer_Words.l0 k y0 y1 y2) (lexer_Words.l0 (k + 1) y0 y1 y2))
  | 0 => fun _ _ _ r h => by simp [lexer_Words.l0] at h
  | k + 1 => by
    have ih0 := lexer_Words.mono_l k
    · intro y0 y1 y2
      unfold lexer_Words.l0
      repeat' first
      | (with_reducible exact ih0 _ _ _)
      | (with_reducible exact lexer_word.mono _ _)
      | (with_reducible exact LeO.refl _)
      | (with_reducible exact LeO.none _)
      | (with_reducible refine LeO.ite ?_ ?_)
      | (with_reducible refine LeO.bind ?_ (fun _ => ?_))
      | exact ih0 _ _ _
      | exact lexer_word.mono _ _
      | exact LeO.none _
      | refine LeO.ite ?_ ?_
      | refine LeO.bind ?_ (fun _ => ?_)
theorem lexer_Words.mono : ∀ a0 k, LeO (lexer_Words.f k a0) (lexer_Words.f (k + 1) a0) := by
  intro a0 k
  have ih0 := lexer_Words.mono_l k
  unfold lexer_Words.f
  repeat' first
      | (with_reducible exact ih0 _ _ _)
      | (with_reducible exact lexer_word.mono _ _)
      | (with_reducible exact LeO.refl _)
      | (with_reducible exact LeO.none _)
      | (with_reducible refine LeO.ite ?_ ?_)
      | (with_reducible refine LeO.bind ?_ (fun _ => ?_))
      | exact ih0 _ _ _
      | exact lexer_word.mono _ _
      | exact LeO.none _
      | refine LeO.ite ?_ ?_
      | refine LeO.bind ?_ (fun _ => ?_)
def expr_parser_next.f (s0_0 : List (S120)) : Option (Int × ByteArray × Int) := if 0 < (s0_0.length : Int) then (some ((rd_T120 s0_0 0).f0, (rd_T120 s0_0 0).f1, (rd_T120 s0_0 0).f2)) else (none)
def expr_parser_at.f (s0_0 : List (S120)) (a1 : ByteArray) : Option (Bool) := (expr_parser_next.f s0_0).bind fun bt210 => (if bt210.2.1.toList = a1.toList then (if bt210.1 = 4 then (some true) else (if bt210.1 = 1 then ((expr_Keyword.f a1).bind fun t214 => (some t214)) else (some false))) else (some false))
def value_Int.f (a0 : Int) : Option (Int × Int × Bool × ByteArray) := some (1, a0, false, (⟨#[]⟩ : ByteArray))
def value_Text.f (a0 : ByteArray) : Option (Int × Int × Bool × ByteArray) := some (3, 0, false, a0)
def value_Bool.f (a0 : Bool) : Option (Int × Int × Bool × ByteArray) := some (2, 0, a0, (⟨#[]⟩ : ByteArray))
def strings_Join.f (l0 : List ByteArray) (a1 : ByteArray) : Option ByteArray := if l0.length ≤ 140737488355328 ∧ (Lib.join (l0.map (·.data.toList)) a1.data.toList).length ≤ 140737488355328 then some ⟨(Lib.join (l0.map (·.data.toList)) a1.data.toList).toArray⟩ else none
mutual
def expr_Depth.l0 : Nat → Int → List (S90) → Int → Int → Option (Int)
  | 0, _, _, _, _ => none
  | k + 1, x3, x7, x8, x9 => if x9 < x8 then (if 0 ≤ x9 then (if x9 < (x7.length : Int) then ((expr_Depth.f k ((rd_T90 x7 x9).f0) ((rd_T90 x7 x9).f1.f0) ((rd_T90 x7 x9).f1.f1) ((rd_T90 x7 x9).f1.f2) ((rd_T90 x7 x9).f1.f3) ((rd_T90 x7 x9).f2) ((rd_T90 x7 x9).f3) ((rd_T90 x7 x9).f4)).bind fun t236 => (expr_Depth.l0 k (mx x3 t236) x7 x8 (wrap64 (x9 + 1)))) else (none)) else (none)) else (some (wrap64 (x3 + 1)))
def expr_Depth.f : Nat → Int → Int → Int → Bool → ByteArray → ByteArray → Int → List (S90) → Option (Int)
  | 0, _, _, _, _, _, _, _, _ => none
  | k + 1, a0_0, a0_1, a0_2, a0_3, a0_4, a0_5, a0_6, l0_7 => expr_Depth.l0 k 0 l0_7 (l0_7.length : Int) 0
end
theorem expr_Depth.mono_l : ∀ k, (∀ y0 y1 y2 y3 y4 y5 y6 y7, LeO (expr_Depth.f k y0 y1 y2 y3 y4 y5 y6 y7) (expr_Depth.f (k + 1) y0 y1 y2 y3 y4 y5 y6 y7)) ∧ (∀ y0 y1 y2 y3, LeO (expr_Depth.l0 k y0 y1 y2 y3) (expr_Depth.l0 (k + 1) y0 y1 y2 y3))
  | 0 => ⟨fun _ _ _ _ _ _ _ _ r h => by simp [expr_Depth.f] at h, fun _ _ _ _ r h => by simp [expr_Depth.l0] at h⟩
  | k + 1 => by
    obtain ⟨ih0, ih1⟩ := expr_Depth.mono_l k
    refine ⟨?_, ?_⟩
    · intro y0 y1 y2 y3 y4 y5 y6 y7
      unfold expr_Depth.f
      repeat' first
      | (with_reducible exact ih0 _ _ _ _ _ _ _ _)
      | (with_reducible exact ih1 _ _ _ _)
      | (with_reducible exact LeO.refl _)
      | (with_reducible exact LeO.none _)
      | (with_reducible refine LeO.ite ?_ ?_)
      | (with_reducible refine LeO.bind ?_ (fun _ => ?_))
      | exact ih0 _ _ _ _ _ _ _ _
      | exact ih1 _ _ _ _
      | exact LeO.none _
      | refine LeO.ite ?_ ?_
      | refine LeO.bind ?_ (fun _ => ?_)
    · intro y0 y1 y2 y3
      unfold expr_Depth.l0
      repeat' first
      | (with_reducible exact ih0 _ _ _ _ _ _ _ _)
      | (with_reducible exact ih1 _ _ _ _)
      | (with_reducible exact LeO.refl _)
      | (with_reducible exact LeO.none _)
      | (with_reducible refine LeO.ite ?_ ?_)
      | (with_reducible refine LeO.bind ?_ (fun _ => ?_))
      | exact ih0 _ _ _ _ _ _ _ _
      | exact ih1 _ _ _ _
      | exact LeO.none _
      | refine LeO.ite ?_ ?_
      | refine LeO.bind ?_ (fun _ => ?_)
theorem expr_Depth.mono : ∀ a0 a1 a2 a3 a4 a5 a6 a7 k, LeO (expr_Depth.f k a0 a1 a2 a3 a4 a5 a6 a7) (expr_Depth.f (k + 1) a0 a1 a2 a3 a4 a5 a6 a7) := by
  intro a0 a1 a2 a3 a4 a5 a6 a7 k
  obtain ⟨ih0, ih1⟩ := expr_Depth.mono_l k
  exact ih0 a0 a1 a2 a3 a4 a5 a6 a7
def value_Can.j0 : Nat → Int → Int → Bool → ByteArray → Int → Int → Bool → ByteArray → Option (Bool)
  | 0, _, _, _, _, _, _, _, _ => none
  | k + 1, x239000, x239001, x239002, x239003, x240000, x240001, x240002, x240003 => if (x239000 == x240000 && (x239001 == x240001 && (x239002 == x240002 && (x239003.toList == x240003.toList)))) = true then (if (x239003.size : Int) ≤ 256 then (if x239003.size < 140737488355328 then ((chars_Wrong.f k (bytesOf x239003)).bind fun t240 => (some (decide (t240 < 0)))) else (none)) else (some false)) else (some false)
def value_Can.f (k : Nat) (a0_0 : Int) (a0_1 : Int) (a0_2 : Bool) (a0_3 : ByteArray) : Option (Bool) := if a0_0 = 0 then (value_Can.j0 k a0_0 a0_1 a0_2 a0_3 a0_0 0 false (⟨#[]⟩ : ByteArray)) else (if a0_0 = 1 then (value_Can.j0 k a0_0 a0_1 a0_2 a0_3 a0_0 a0_1 false (⟨#[]⟩ : ByteArray)) else (if a0_0 = 2 then (value_Can.j0 k a0_0 a0_1 a0_2 a0_3 a0_0 0 a0_2 (⟨#[]⟩ : ByteArray)) else (if a0_0 = 3 then (value_Can.j0 k a0_0 a0_1 a0_2 a0_3 a0_0 0 false a0_3) else (some false))))
theorem value_Can.mono_l : ∀ k, (∀ y0 y1 y2 y3 y4 y5 y6 y7, LeO (value_Can.j0 k y0 y1 y2 y3 y4 y5 y6 y7) (value_Can.j0 (k + 1) y0 y1 y2 y3 y4 y5 y6 y7))
  | 0 => fun _ _ _ _ _ _ _ _ r h => by simp [value_Can.j0] at h
  | k + 1 => by
    have ih0 := value_Can.mono_l k
    · intro y0 y1 y2 y3 y4 y5 y6 y7
      unfold value_Can.j0
      repeat' first
      | (with_reducible exact ih0 _ _ _ _ _ _ _ _)
      | (with_reducible exact chars_Wrong.mono _ _)
      | (with_reducible exact LeO.refl _)
      | (with_reducible exact LeO.none _)
      | (with_reducible refine LeO.ite ?_ ?_)
      | (with_reducible refine LeO.bind ?_ (fun _ => ?_))
      | exact ih0 _ _ _ _ _ _ _ _
      | exact chars_Wrong.mono _ _
      | exact LeO.none _
      | refine LeO.ite ?_ ?_
      | refine LeO.bind ?_ (fun _ => ?_)
theorem value_Can.mono : ∀ a0 a1 a2 a3 k, LeO (value_Can.f k a0 a1 a2 a3) (value_Can.f (k + 1) a0 a1 a2 a3) := by
  intro a0 a1 a2 a3 k
  have ih0 := value_Can.mono_l k
  unfold value_Can.f
  repeat' first
      | (with_reducible exact ih0 _ _ _ _ _ _ _ _)
      | (with_reducible exact chars_Wrong.mono _ _)
      | (with_reducible exact LeO.refl _)
      | (with_reducible exact LeO.none _)
      | (with_reducible refine LeO.ite ?_ ?_)
      | (with_reducible refine LeO.bind ?_ (fun _ => ?_))
      | exact ih0 _ _ _ _ _ _ _ _
      | exact chars_Wrong.mono _ _
      | exact LeO.none _
      | refine LeO.ite ?_ ?_
      | refine LeO.bind ?_ (fun _ => ?_)
mutual
def value_sortOf.j0 : Nat → Int → Bool → Option (Int)
  | 0, _, _ => none
  | k + 1, x3, x8 => if x8 = true then (some 3) else (if x3 = 12 then (value_sortOf.j1 k x3 (x3 == 12)) else (if x3 = 13 then (value_sortOf.j1 k x3 (x3 == 13)) else (if x3 = 14 then (value_sortOf.j1 k x3 (x3 == 14)) else (value_sortOf.j1 k x3 (x3 == 15)))))
def value_sortOf.j1 : Nat → Int → Bool → Option (Int)
  | 0, _, _ => none
  | k + 1, x3, x14 => if x14 = true then (some 4) else (if x3 = 16 then (value_sortOf.j2 k x3 (x3 == 16)) else (value_sortOf.j2 k x3 (x3 == 17)))
def value_sortOf.j2 : Nat → Int → Bool → Option (Int)
  | 0, _, _ => none
  | k + 1, x3, x19 => if x19 = true then (some 5) else (if x3 = 18 then (some 6) else (if x3 = 19 then (some 6) else (some 0)))
end
def value_sortOf.f (k : Nat) (a0 : Int) : Option (Int) := if a0 = 5 then (some 1) else (if a0 = 6 then (some 2) else (if a0 = 7 then (value_sortOf.j0 k a0 (a0 == 7)) else (if a0 = 8 then (value_sortOf.j0 k a0 (a0 == 8)) else (if a0 = 9 then (value_sortOf.j0 k a0 (a0 == 9)) else (if a0 = 10 then (value_sortOf.j0 k a0 (a0 == 10)) else (value_sortOf.j0 k a0 (a0 == 11)))))))
theorem value_sortOf.mono_l : ∀ k, (∀ y0 y1, LeO (value_sortOf.j0 k y0 y1) (value_sortOf.j0 (k + 1) y0 y1)) ∧ (∀ y0 y1, LeO (value_sortOf.j1 k y0 y1) (value_sortOf.j1 (k + 1) y0 y1)) ∧ (∀ y0 y1, LeO (value_sortOf.j2 k y0 y1) (value_sortOf.j2 (k + 1) y0 y1))
  | 0 => ⟨fun _ _ r h => by simp [value_sortOf.j0] at h, fun _ _ r h => by simp [value_sortOf.j1] at h, fun _ _ r h => by simp [value_sortOf.j2] at h⟩
  | k + 1 => by
    obtain ⟨ih0, ih1, ih2⟩ := value_sortOf.mono_l k
    refine ⟨?_, ?_, ?_⟩
    · intro y0 y1
      unfold value_sortOf.j0
      repeat' first
      | (with_reducible exact ih0 _ _)
      | (with_reducible exact ih1 _ _)
      | (with_reducible exact ih2 _ _)
      | (with_reducible exact LeO.refl _)
      | (with_reducible exact LeO.none _)
      | (with_reducible refine LeO.ite ?_ ?_)
      | (with_reducible refine LeO.bind ?_ (fun _ => ?_))
      | exact ih0 _ _
      | exact ih1 _ _
      | exact ih2 _ _
      | exact LeO.none _
      | refine LeO.ite ?_ ?_
      | refine LeO.bind ?_ (fun _ => ?_)
    · intro y0 y1
      unfold value_sortOf.j1
      repeat' first
      | (with_reducible exact ih0 _ _)
      | (with_reducible exact ih1 _ _)
      | (with_reducible exact ih2 _ _)
      | (with_reducible exact LeO.refl _)
      | (with_reducible exact LeO.none _)
      | (with_reducible refine LeO.ite ?_ ?_)
      | (with_reducible refine LeO.bind ?_ (fun _ => ?_))
      | exact ih0 _ _
      | exact ih1 _ _
      | exact ih2 _ _
      | exact LeO.none _
      | refine LeO.ite ?_ ?_
      | refine LeO.bind ?_ (fun _ => ?_)
    · intro y0 y1
      unfold value_sortOf.j2
      repeat' first
      | (with_reducible exact ih0 _ _)
      | (with_reducible exact ih1 _ _)
      | (with_reducible exact ih2 _ _)
      | (with_reducible exact LeO.refl _)
      | (with_reducible exact LeO.none _)
      | (with_reducible refine LeO.ite ?_ ?_)
      | (with_reducible refine LeO.bind ?_ (fun _ => ?_))
      | exact ih0 _ _
      | exact ih1 _ _
      | exact ih2 _ _
      | exact LeO.none _
      | refine LeO.ite ?_ ?_
      | refine LeO.bind ?_ (fun _ => ?_)
theorem value_sortOf.mono : ∀ a0 k, LeO (value_sortOf.f k a0) (value_sortOf.f (k + 1) a0) := by
  intro a0 k
  obtain ⟨ih0, ih1, ih2⟩ := value_sortOf.mono_l k
  unfold value_sortOf.f
  repeat' first
      | (with_reducible exact ih0 _ _)
      | (with_reducible exact ih1 _ _)
      | (with_reducible exact ih2 _ _)
      | (with_reducible exact LeO.refl _)
      | (with_reducible exact LeO.none _)
      | (with_reducible refine LeO.ite ?_ ?_)
      | (with_reducible refine LeO.bind ?_ (fun _ => ?_))
      | exact ih0 _ _
      | exact ih1 _ _
      | exact ih2 _ _
      | exact LeO.none _
      | refine LeO.ite ?_ ?_
      | refine LeO.bind ?_ (fun _ => ?_)
def value_Kind.f (k : Nat) (a0 : Int) (a1 : Int) (a2 : Int) : Option (Int × Bool) := (value_sortOf.f k a0).bind fun t250 => (if t250 = 1 then (if a1 = 2 then (if a2 = 0 then (some (2, true)) else (some (0, false))) else (some (0, false))) else (if t250 = 2 then (if a1 = 1 then (if a2 = 0 then (some (1, true)) else (some (0, false))) else (some (0, false))) else (if t250 = 3 then (if a1 = 1 then (if a2 = 1 then (some (1, true)) else (some (0, false))) else (some (0, false))) else (if t250 = 4 then (if a1 = a2 then (if a1 = 1 then (some (2, true)) else (if a1 = 3 then (some (2, true)) else (some (0, false)))) else (some (0, false))) else (if t250 = 5 then (if a1 = a2 then (if a1 = 1 then (some (2, true)) else (if a1 = 2 then (some (2, true)) else (if a1 = 3 then (some (2, true)) else (some (0, false))))) else (some (0, false))) else (if t250 = 6 then (if a1 = 2 then (if a2 = 2 then (some (2, true)) else (some (0, false))) else (some (0, false))) else (some (0, false))))))))
theorem value_Kind.mono : ∀ a0 a1 a2 k, LeO (value_Kind.f k a0 a1 a2) (value_Kind.f (k + 1) a0 a1 a2) := by
  intro a0 a1 a2 k
  unfold value_Kind.f
  repeat' first
      | (with_reducible exact value_sortOf.mono _ _)
      | (with_reducible exact LeO.refl _)
      | (with_reducible exact LeO.none _)
      | (with_reducible refine LeO.ite ?_ ?_)
      | (with_reducible refine LeO.bind ?_ (fun _ => ?_))
      | exact value_sortOf.mono _ _
      | exact LeO.none _
      | refine LeO.ite ?_ ?_
      | refine LeO.bind ?_ (fun _ => ?_)
end Go.Proofs.YtfeidigongckhaaGreatDoor.Q
end
section
/- What the program's library functions are, against the shelf's own bodies: a table of numbers and one theorem for each, by the kernel's comparison. Written by the kit's lay-plain.mjs for this seat. -/
namespace Go.Proofs
open Go.Shelf
def Tryz.layDecodeRune_ren : Go.Shelf.Ren := ⟨fun | 32 => 59 | 49 => 74 | n => n, fun | 30 => 67 | 21 => 21 | 3 => 3 | 0 => 0 | 5 => 5 | 4 => 4 | 33 => 97 | 66 => 135 | 25 => 136 | 69 => 139 | 68 => 138 | n => n, fun | 2 => 0 | 3 => 1 | n => n⟩
theorem Tryz.layDecodeRune : Go.Proofs.Lays7.n32 Tryz.prog Tryz.layDecodeRune_ren := {
  mixed := by kernel_rfl
  f32 := Tryz.func59.trans (congrArg some (by kernel_rfl))
  f49 := Tryz.func74.trans (congrArg some (by kernel_rfl))
  t0 := Tryz.underlying0
  a0 := Tryz.isAgg0
  z0 := Tryz.sizeOf0
  v0 := Tryz.zeroValue0
  i0 := by kernel_rfl
  t3 := Tryz.underlying3
  a3 := Tryz.isAgg3
  z3 := Tryz.sizeOf3
  v3 := Tryz.zeroValue3
  i3 := by kernel_rfl
  t4 := Tryz.underlying4
  a4 := Tryz.isAgg4
  z4 := Tryz.sizeOf4
  v4 := Tryz.zeroValue4
  i4 := by kernel_rfl
  t5 := Tryz.underlying5
  a5 := Tryz.isAgg5
  z5 := Tryz.sizeOf5
  v5 := Tryz.zeroValue5
  i5 := by kernel_rfl
  t21 := Tryz.underlying21
  a21 := Tryz.isAgg21
  z21 := Tryz.sizeOf21
  v21 := Tryz.zeroValue21
  i21 := by kernel_rfl
  t25 := Tryz.underlying136
  a25 := Tryz.isAgg136
  z25 := Tryz.sizeOf136
  v25 := Tryz.zeroValue136
  i25 := by kernel_rfl
  t30 := Tryz.underlying67
  a30 := Tryz.isAgg67
  z30 := Tryz.sizeOf67
  v30 := Tryz.zeroValue67
  i30 := by kernel_rfl
  t33 := Tryz.underlying97
  a33 := Tryz.isAgg97
  z33 := Tryz.sizeOf97
  v33 := Tryz.zeroValue97
  i33 := by kernel_rfl
  t66 := Tryz.underlying135
  a66 := Tryz.isAgg135
  z66 := Tryz.sizeOf135
  t68 := Tryz.underlying138
  a68 := Tryz.isAgg138
  z68 := Tryz.sizeOf138
  v68 := Tryz.zeroValue138
  i68 := by kernel_rfl
  t69 := Tryz.underlying139
  a69 := Tryz.isAgg139
  z69 := Tryz.sizeOf139
  v69 := Tryz.zeroValue139
  i69 := by kernel_rfl
  g2 := by kernel_rfl
  g3 := by kernel_rfl }
def Tryz.layIndexByte_ren : Go.Shelf.Ren := ⟨fun | 137 => 73 | 217 => 84 | 266 => 109 | n => n, fun | 9 => 9 | 5 => 5 | 3 => 3 | n => n, fun | n => n⟩
theorem Tryz.layIndexByte : Go.Proofs.Lays.n137 Tryz.prog Tryz.layIndexByte_ren := {
  mixed := by kernel_rfl
  f137 := Tryz.func73.trans (congrArg some (by kernel_rfl))
  f217 := Tryz.func84.trans (congrArg some (by kernel_rfl))
  f266 := Tryz.func109.trans (congrArg some (by kernel_rfl))
  t3 := Tryz.underlying3
  a3 := Tryz.isAgg3
  z3 := Tryz.sizeOf3
  v3 := Tryz.zeroValue3
  t5 := Tryz.underlying5
  a5 := Tryz.isAgg5
  z5 := Tryz.sizeOf5
  v5 := Tryz.zeroValue5
  t9 := Tryz.underlying9
  a9 := Tryz.isAgg9
  z9 := Tryz.sizeOf9
  v9 := Tryz.zeroValue9 }
def Tryz.layTrimLeft_ren : Go.Shelf.Ren := ⟨fun | 161 => 76 | 231 => 86 | 227 => 87 | 233 => 88 | 235 => 89 | 228 => 113 | 197 => 114 | 151 => 115 | 260 => 121 | 152 => 122 | 137 => 73 | 119 => 129 | 224 => 111 | 225 => 110 | 217 => 84 | 266 => 109 | n => n, fun | 9 => 9 | 4 => 4 | 3 => 3 | 5 => 5 | 117 => 144 | 116 => 143 | 0 => 0 | 124 => 147 | 105 => 97 | 21 => 21 | 119 => 135 | 46 => 136 | 139 => 139 | 138 => 138 | n => n, fun | 3 => 0 | 4 => 1 | n => n⟩
theorem Tryz.layTrimLeft : Go.Proofs.Lays.n161 Tryz.prog Tryz.layTrimLeft_ren := {
  mixed := by kernel_rfl
  f119 := Tryz.func129.trans (congrArg some (by kernel_rfl))
  f137 := Tryz.func73.trans (congrArg some (by kernel_rfl))
  f151 := Tryz.func115.trans (congrArg some (by kernel_rfl))
  f152 := Tryz.func122.trans (congrArg some (by kernel_rfl))
  f161 := Tryz.func76.trans (congrArg some (by kernel_rfl))
  f197 := Tryz.func114.trans (congrArg some (by kernel_rfl))
  f217 := Tryz.func84.trans (congrArg some (by kernel_rfl))
  f224 := Tryz.func111.trans (congrArg some (by kernel_rfl))
  f225 := Tryz.func110.trans (congrArg some (by kernel_rfl))
  f227 := Tryz.func87.trans (congrArg some (by kernel_rfl))
  f228 := Tryz.func113.trans (congrArg some (by kernel_rfl))
  f231 := Tryz.func86.trans (congrArg some (by kernel_rfl))
  f233 := Tryz.func88.trans (congrArg some (by kernel_rfl))
  f235 := Tryz.func89.trans (congrArg some (by kernel_rfl))
  f260 := Tryz.func121.trans (congrArg some (by kernel_rfl))
  f266 := Tryz.func109.trans (congrArg some (by kernel_rfl))
  t0 := Tryz.underlying0
  a0 := Tryz.isAgg0
  z0 := Tryz.sizeOf0
  v0 := Tryz.zeroValue0
  t3 := Tryz.underlying3
  a3 := Tryz.isAgg3
  z3 := Tryz.sizeOf3
  v3 := Tryz.zeroValue3
  t4 := Tryz.underlying4
  a4 := Tryz.isAgg4
  z4 := Tryz.sizeOf4
  v4 := Tryz.zeroValue4
  t5 := Tryz.underlying5
  a5 := Tryz.isAgg5
  z5 := Tryz.sizeOf5
  v5 := Tryz.zeroValue5
  t9 := Tryz.underlying9
  a9 := Tryz.isAgg9
  z9 := Tryz.sizeOf9
  v9 := Tryz.zeroValue9
  t21 := Tryz.underlying21
  a21 := Tryz.isAgg21
  z21 := Tryz.sizeOf21
  v21 := Tryz.zeroValue21
  t46 := Tryz.underlying136
  a46 := Tryz.isAgg136
  z46 := Tryz.sizeOf136
  v46 := Tryz.zeroValue136
  t105 := Tryz.underlying97
  a105 := Tryz.isAgg97
  z105 := Tryz.sizeOf97
  v105 := Tryz.zeroValue97
  t116 := Tryz.underlying143
  a116 := Tryz.isAgg143
  z116 := Tryz.sizeOf143
  t117 := Tryz.underlying144
  a117 := Tryz.isAgg144
  z117 := Tryz.sizeOf144
  v117 := Tryz.zeroValue144
  t119 := Tryz.underlying135
  a119 := Tryz.isAgg135
  z119 := Tryz.sizeOf135
  t124 := Tryz.underlying147
  a124 := Tryz.isAgg147
  z124 := Tryz.sizeOf147
  v124 := Tryz.zeroValue147
  t138 := Tryz.underlying138
  a138 := Tryz.isAgg138
  z138 := Tryz.sizeOf138
  v138 := Tryz.zeroValue138
  t139 := Tryz.underlying139
  a139 := Tryz.isAgg139
  z139 := Tryz.sizeOf139
  v139 := Tryz.zeroValue139
  g3 := by kernel_rfl
  g4 := by kernel_rfl }
end Go.Proofs
end
section
/- What the program's library functions are, against the shelf's own bodies: a table of numbers and one theorem for each, by the kernel's comparison. Written by the kit's lay-plain.mjs for this seat. -/
namespace Go.Proofs
open Go.Shelf
def Tryz.layJoin_ren : Go.Shelf.Ren := ⟨fun | 156 => 116 | 165 => 123 | 166 => 124 | 169 => 125 | 240 => 130 | 241 => 131 | 276 => 134 | 277 => 135 | n => n, fun | 31 => 29 | 9 => 9 | 3 => 3 | 4 => 4 | 0 => 0 | 20 => 20 | 72 => 181 | 76 => 185 | 70 => 179 | 37 => 67 | 75 => 184 | 127 => 189 | 164 => 191 | 5 => 5 | 80 => 155 | n => n, fun | n => n⟩
theorem Tryz.layJoin : Go.Proofs.Lays.n156 Tryz.prog Tryz.layJoin_ren := {
  mixed := by kernel_rfl
  f156 := Tryz.func116.trans (congrArg some (by kernel_rfl))
  f165 := Tryz.func123.trans (congrArg some (by kernel_rfl))
  f166 := Tryz.func124.trans (congrArg some (by kernel_rfl))
  f169 := Tryz.func125.trans (congrArg some (by kernel_rfl))
  f240 := Tryz.func130.trans (congrArg some (by kernel_rfl))
  f241 := Tryz.func131.trans (congrArg some (by kernel_rfl))
  f276 := Tryz.func134.trans (congrArg some (by kernel_rfl))
  f277 := Tryz.func135.trans (congrArg some (by kernel_rfl))
  t0 := Tryz.underlying0
  a0 := Tryz.isAgg0
  z0 := Tryz.sizeOf0
  v0 := Tryz.zeroValue0
  t3 := Tryz.underlying3
  a3 := Tryz.isAgg3
  z3 := Tryz.sizeOf3
  v3 := Tryz.zeroValue3
  t4 := Tryz.underlying4
  a4 := Tryz.isAgg4
  z4 := Tryz.sizeOf4
  v4 := Tryz.zeroValue4
  t9 := Tryz.underlying9
  a9 := Tryz.isAgg9
  z9 := Tryz.sizeOf9
  v9 := Tryz.zeroValue9
  t20 := Tryz.underlying20
  a20 := Tryz.isAgg20
  z20 := Tryz.sizeOf20
  v20 := Tryz.zeroValue20
  t31 := Tryz.underlying29
  a31 := Tryz.isAgg29
  z31 := Tryz.sizeOf29
  v31 := Tryz.zeroValue29
  t37 := Tryz.underlying67
  a37 := Tryz.isAgg67
  z37 := Tryz.sizeOf67
  v37 := Tryz.zeroValue67
  t70 := Tryz.underlying179
  a70 := Tryz.isAgg179
  z70 := Tryz.sizeOf179
  v70 := Tryz.zeroValue179
  t72 := Tryz.underlying181
  a72 := Tryz.isAgg181
  z72 := Tryz.sizeOf181
  v72 := Tryz.zeroValue181
  t75 := Tryz.underlying184
  a75 := Tryz.isAgg184
  z75 := Tryz.sizeOf184
  v75 := Tryz.zeroValue184
  t76 := Tryz.underlying185
  a76 := Tryz.isAgg185
  z76 := Tryz.sizeOf185
  v76 := Tryz.zeroValue185
  t127 := Tryz.underlying189
  a127 := Tryz.isAgg189
  z127 := Tryz.sizeOf189
  v127 := Tryz.zeroValue189
  t164 := Tryz.underlying191
  a164 := Tryz.isAgg191
  z164 := Tryz.sizeOf191
  v164 := Tryz.zeroValue191 }
end Go.Proofs
end
