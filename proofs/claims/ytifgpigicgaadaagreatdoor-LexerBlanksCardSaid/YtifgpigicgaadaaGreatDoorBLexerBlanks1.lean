/- Several texts in one, in their order. -/
import Derived.Test.YtifgpigicgaadaaGreatDoorBLexerBlanks0
import Derived.WalkKit
import Derived.Lib.ConvBytes
import Derived.Shelf.Unicode.DecodeSlow
import Derived.Shelf.Lays7
import Derived.Shelf.Spec.DecodeRune
import Derived.Shelf.Spec.NilArms
import Derived.Shelf.Small.Strs
import Derived.Shelf.Strings.SlTrimAscii
import Derived.Shelf.Bits.Mul64
import Derived.Test.YtifgpigicgaadaaGreatDoorProg
import Derived.Tactics
import Derived.Tactics2
import Derived.Defers
import Derived.Laws.Pointers
import Derived.Laws.LoneSync
import Derived.RegionTactic
import Derived.RegionCalls
import Derived.ChangeAlike
import Derived.LoopN
import Derived.Deep.WholeRow
import Derived.Laws.Tables
import Derived.Laws.Cover3
import Derived.Lib.Bytealg
import Derived.Laws.CopyOwn
import Derived.Deep.RegionLaw
import Derived.Deep.CutBlock
import Derived.Deep.DeepCutAuto
import Derived.Deep.QuietTactic
import Derived.BigQuiet
import Derived.Deep.LoopGhost
import Derived.LoopTactic
import Derived.Laws.Append
section
-- PRINTED BY print.sh 35421559b90ae4d0a3588c463048766b98c2df88dd9212a6774a882060cdf62d: not written by this session
/-! ### 40. Elements whose inner rows lie apart: what is stored into one says nothing of the others.
   S: as R, with an owner function f (block to element's index). H: as S with a hole: of element i its cells alone are told, its blocks are oki. -/
namespace Go.Proofs.YtifgpigicgaadaaGreatDoorW.PrintWords
open Go.RowKit
namespace Kd
/-- An element with its index: its blocks are those that f gives to it. -/
def tag {α : Type} (f : Nat → Nat) (d : Kd α) : Kd (α × Nat) where
  sz := d.sz
  E := d.E
  K := fun w x cs => d.K w x.1 cs
  M := fun w base ok x cs => d.M w base (fun k => ok k ∧ f k = x.2) x.1 cs
  K_len := fun h => d.K_len h
  K_one := fun h => d.K_one h
  K_below := fun hb h => d.K_below hb h
  K_of_M := fun h => d.K_of_M h
  M_mono := fun hok h => d.M_mono (fun k hk => ⟨hok k hk.1, hk.2⟩) h
  M_bound := fun h => d.M_mono (fun _ hk => ⟨⟨hk.1.1, hk.2⟩, hk.1.2⟩) (d.M_bound h)
  M_move := fun hm h => d.M_move (fun k hk => hm k hk.1) h
  M_lower := fun hb h => d.M_lower hb h
/-- Nothing but its cells: no block is said of it. -/
def bare {α : Type} (d : Kd α) : Kd α where
  sz := d.sz
  E := d.E
  K := d.K
  M := fun w base _ x cs => d.M w base (fun _ => False) x cs
  K_len := fun h => d.K_len h
  K_one := fun h => d.K_one h
  K_below := fun hb h => d.K_below hb h
  K_of_M := fun h => d.K_of_M h
  M_mono := fun _ h => h
  M_bound := fun h => h
  M_move := fun _ h => d.M_move (fun _ hk => hk.elim) h
  M_lower := fun hb h => d.M_lower hb h
/-- The cells themselves. -/
def raw (sz : Nat) : Kd (List Value) where
  sz := sz
  E := []
  K := fun _ x cs => cs = x ∧ cs.length = sz ∧ ∀ u ∈ cs, u.oneCell' = true
  M := fun _ _ _ x cs => cs = x ∧ cs.length = sz ∧ ∀ u ∈ cs, u.oneCell' = true
  K_len := fun h => h.2.1
  K_one := fun h => h.2.2
  K_below := fun _ h => h
  K_of_M := fun h => h
  M_mono := fun _ h => h
  M_bound := fun h => h
  M_move := fun _ h => h
  M_lower := fun _ h => h
/-- A row of elements (type e) of the call's own, no two of which lead to one block. -/
def S {α : Type} (d : Kd α) (e : Nat) (w : World) (base : Nat) (ok : Nat → Prop) (v : Value) (xs : List α) : Prop := ∃ f, (tag f d).R e w base ok v xs.zipIdx
section
variable {α β : Type} {d : Kd α} {d' : Kd β} {e e' : Nat} {w w1 W : World} {base b : Nat} {ok ok' okv oku : Nat → Prop} {u v : Value} {xs : List α} {ys : List β}
theorem S_nil (d : Kd α) (e : Nat) (w : World) (base : Nat) (ok : Nat → Prop) : S d e w base ok (.slice none 0 0) [] := ⟨fun _ => 0, R_nil _ _ _ _ _⟩
end
section
variable {α β : Type} {d : Kd α} {d' : Kd β} {e e' g : Nat} {w w1 W : World} {base b : Nat} {ok ok' okv oku : Nat → Prop} {u v : Value} {xs : List α} {ys : List β}
end
/-! #### append, make, literals: the new element's blocks are none of the elder ones' -/
section
variable {P : Program} {ops : Array Oper} {rest : List Oper} {o : Oper} {a : Act} {Q : Exit → Act → World → Prop} {Kc : Act → World → Prop} {α : Type}
end
/-! #### a row with a hole: element i is lent, its blocks are oki; of it the row says its cells alone -/
/-- Element i is these cells; the others are d's. -/
def gap {α : Type} (f : Nat → Nat) (d : Kd α) (i : Nat) (c : List Value) : Kd (α × Nat) where
  sz := d.sz
  E := d.E
  K := fun w x cs => (x.2 = i → cs = c ∧ cs.length = d.sz ∧ ∀ u ∈ cs, u.oneCell' = true) ∧ (x.2 ≠ i → d.K w x.1 cs)
  M := fun w base ok x cs => (x.2 = i → cs = c ∧ cs.length = d.sz ∧ ∀ u ∈ cs, u.oneCell' = true) ∧ (x.2 ≠ i → d.M w base (fun k => ok k ∧ f k = x.2) x.1 cs)
  K_len := fun {w x cs} h => by
    by_cases hx : x.2 = i
    · exact (h.1 hx).2.1
    · exact d.K_len (h.2 hx)
  K_one := fun {w x cs} h => by
    by_cases hx : x.2 = i
    · exact (h.1 hx).2.2
    · exact d.K_one (h.2 hx)
  K_below := fun hb h => ⟨h.1, fun hx => d.K_below hb (h.2 hx)⟩
  K_of_M := fun h => ⟨h.1, fun hx => d.K_of_M (h.2 hx)⟩
  M_mono := fun hok h => ⟨h.1, fun hx => d.M_mono (fun k hk => ⟨hok k hk.1, hk.2⟩) (h.2 hx)⟩
  M_bound := fun h => ⟨h.1, fun hx => d.M_mono (fun _ hk => ⟨⟨hk.1.1, hk.2⟩, hk.1.2⟩) (d.M_bound (h.2 hx))⟩
  M_move := fun hm h => ⟨h.1, fun hx => d.M_move (fun k hk => hm k hk.1) (h.2 hx)⟩
  M_lower := fun hb h => ⟨h.1, fun hx => d.M_lower hb (h.2 hx)⟩
def H {α : Type} (d : Kd α) (e : Nat) (w : World) (base : Nat) (ok : Nat → Prop) (v : Value) (xs : List α) (i : Int) (oki : Nat → Prop) (c : List Value) : Prop :=
  (∀ k, oki k → ok k) ∧ ∃ f, (gap f d i.toNat c).R e w base (fun k => ok k ∧ ¬ oki k) v xs.zipIdx
section
variable {α β : Type} {d : Kd α} {e e' g n cap : Nat} {w w1 W : World} {base : Nat} {ok ok' oki okp : Nat → Prop} {u v : Value} {xs : List α} {i : Int} {c : List Value}
end
section
variable {P : Program} {ops : Array Oper} {rest : List Oper} {o : Oper} {a : Act} {Q : Exit → Act → World → Prop} {α : Type}
end
end Kd
end Go.Proofs.YtifgpigicgaadaaGreatDoorW.PrintWords
end
section
-- PRINTED BY print.sh 35421559b90ae4d0a3588c463048766b98c2df88dd9212a6774a882060cdf62d: not written by this session
/-! ### 41. Arrays '[n]T' as_ values: a kind (a field, an element of a row), an element read, an element set -/
namespace Go.Proofs.YtifgpigicgaadaaGreatDoorW.PrintWords
open Go.RowKit
namespace Kd
theorem reps_one {α : Type} {R : α → List Value → Prop} {size : Nat} {ps : List α} {cs : List Value} (h : Reps R size ps cs) (hs0 : 0 < size) (hR : ∀ p c, R p c → ∀ u ∈ c, u.oneCell' = true) : ∀ u ∈ cs, u.oneCell' = true := by
  intro u hu
  obtain ⟨q, hq, rfl⟩ := List.mem_iff_getElem.1 hu
  have hql : q / size < ps.length := by
    rw [Nat.div_lt_iff_lt_mul hs0, ← h.1]
    exact hq
  refine hR _ _ (h.2 (q / size) _ (List.getElem?_eq_getElem hql)) _ ?_
  rw [List.mem_iff_getElem?]
  refine ⟨q % size, ?_⟩
  rw [List.getElem?_take, if_pos (Nat.mod_lt _ hs0), List.getElem?_drop, Nat.mul_comm, Nat.div_add_mod, List.getElem?_eq_getElem hq]
/-- An array of n elements of kind d. -/
def arr {α : Type} (n : Nat) (d : Kd α) (hs : 0 < d.sz) : Kd (List α) where
  sz := n * d.sz
  E := d.E
  K := fun w xs cs => xs.length = n ∧ Reps (d.K w) d.sz xs cs
  M := fun w base ok xs cs => xs.length = n ∧ Reps (d.M w base ok) d.sz xs cs
  K_len := fun h => by rw [← h.1]; exact h.2.1
  K_one := fun h => reps_one h.2 hs (fun _ _ hk => d.K_one hk)
  K_below := fun hb h => ⟨h.1, h.2.imp_ (fun _ _ hk => d.K_below hb hk)⟩
  K_of_M := fun h => ⟨h.1, h.2.imp_ (fun _ _ hk => d.K_of_M hk)⟩
  M_mono := fun hok h => ⟨h.1, h.2.imp_ (fun _ _ hk => d.M_mono hok hk)⟩
  M_bound := fun h => ⟨h.1, h.2.imp_ (fun _ _ hk => d.M_bound hk)⟩
  M_move := fun hm h => ⟨h.1, h.2.imp_ (fun _ _ hk => d.M_move hm hk)⟩
  M_lower := fun hb h => ⟨h.1, h.2.imp_ (fun _ _ hk => d.M_lower hb hk)⟩
section
variable {α : Type} {n : Nat} {d : Kd α} {hs : 0 < d.sz} {w : World} {base : Nat} {ok : Nat → Prop} {xs : List α} {cs : List Value}
end
section
variable {α : Type} {n : Nat} {enc : α → Value} {h1 : ∀ x, (enc x).oneCell' = true} {hs : 0 < (scalar enc h1).sz} {w : World} {base : Nat} {ok : Nat → Prop} {xs : List α} {cs : List Value}
end
end Kd
end Go.Proofs.YtifgpigicgaadaaGreatDoorW.PrintWords
end
section
-- PRINTED BY print.sh 35421559b90ae4d0a3588c463048766b98c2df88dd9212a6774a882060cdf62d: not written by this session
/-! ### 42. append(v, make([]T, n)...): the operation comes as_ append with the number in the second place -/
namespace Go.Proofs.YtifgpigicgaadaaGreatDoorW.PrintWords
open Go.RowKit
section
variable {P : Program}
end
namespace Kd
section
variable {P : Program} {ops : Array Oper} {rest : List Oper} {o : Oper} {a : Act} {Q : Exit → Act → World → Prop} {Kc : Act → World → Prop} {α : Type}
end
/-! #### the same for rows whose elements lie apart -/
/-- As_ tag; an element without index leads to nothing. -/
def tagO {α : Type} (f : Nat → Nat) (d : Kd α) : Kd (α × Option Nat) where
  sz := d.sz
  E := d.E
  K := fun w x cs => d.K w x.1 cs
  M := fun w base ok x cs => d.M w base (fun k => ok k ∧ some (f k) = x.2) x.1 cs
  K_len := fun h => d.K_len h
  K_one := fun h => d.K_one h
  K_below := fun hb h => d.K_below hb h
  K_of_M := fun h => d.K_of_M h
  M_mono := fun hok h => d.M_mono (fun k hk => ⟨hok k hk.1, hk.2⟩) h
  M_bound := fun h => d.M_mono (fun _ hk => ⟨⟨hk.1.1, hk.2⟩, hk.1.2⟩) (d.M_bound h)
  M_move := fun hm h => d.M_move (fun k hk => hm k hk.1) h
  M_lower := fun hb h => d.M_lower hb h
section
variable {α : Type} {d : Kd α} {e : Nat} {w : World} {base : Nat} {ok : Nat → Prop} {v : Value} {xs : List α}
def zipO (xs : List α) (z : α) (m : Nat) : List (α × Option Nat) := xs.zipIdx.map (fun p => (p.1, some p.2)) ++ List.replicate m (z, none)
end
section
variable {P : Program} {ops : Array Oper} {rest : List Oper} {o : Oper} {a : Act} {Q : Exit → Act → World → Prop} {Kc : Act → World → Prop} {α : Type}
end
end Kd
end Go.Proofs.YtifgpigicgaadaaGreatDoorW.PrintWords
end
section
-- PRINTED BY print.sh 35421559b90ae4d0a3588c463048766b98c2df88dd9212a6774a882060cdf62d: not written by this session
/-! ### 43. What is read beside a state: it stays read whatever the state's calls turn ('∀ W', KeepBut w W' g none → d.C W' A n xs') -/
namespace Go.Proofs.YtifgpigicgaadaaGreatDoorW.PrintWords
open Go.RowKit
namespace Kd
/-- What a kind reads lies in the blocks: nothing else of the world is looked at. -/
structure Heap {α : Type} (d : Kd α) : Prop where
  K : ∀ {w w1 : World} {x : α} {cs : List Value}, (∀ k, k < w.heap.size → w1.heap[k]? = w.heap[k]?) → d.K w x cs → d.K w1 x cs
theorem cell_heap {w w1 : World} (hb : ∀ k, k < w.heap.size → w1.heap[k]? = w.heap[k]?) {a : Addr} {v : Value} (h : w.cell? a = some v) : w1.cell? a = some v := by
  have := hb a.block (World.block_lt_of_cell? w a h)
  simpa [World.cell?, this] using h
theorem Heap.C {α : Type} {d : Kd α} (hd : Heap d) {w w1 : World} {A : Option Addr} {n : Nat} {xs : List α} (hb : ∀ k, k < w.heap.size → w1.heap[k]? = w.heap[k]?) (h : d.C w A n xs) : d.C w1 A n xs :=
  ⟨h.1, h.2.1, fun hn => by
    obtain ⟨ad, e, hc⟩ := h.2.2 hn
    refine ⟨ad, e, fun j p hj => ?_⟩
    obtain ⟨c, hs, hr, hcell⟩ := hc j p hj
    exact ⟨c, hs, hd.K hb hr, fun i u hu => cell_heap hb (hcell i u hu)⟩⟩
section
variable {α : Type} {d : Kd α} {e base g n c : Nat} {ok : Nat → Prop} {w w0 W : World} {A : Option Addr} {xs : List α}
end
end Kd
end Go.Proofs.YtifgpigicgaadaaGreatDoorW.PrintWords
end
section
-- PRINTED BY print.sh 35421559b90ae4d0a3588c463048766b98c2df88dd9212a6774a882060cdf62d: not written by this session
/-! ### 45. What a call keeps: all but the blocks of S (the rows that it was given to write) and what is new since -/
namespace Go.Proofs.YtifgpigicgaadaaGreatDoorW.PrintWords
open Go.RowKit
def Kept (w W : World) (S : Nat → Prop) : Prop := w.heap.size ≤ W.heap.size ∧ ∀ i, i < w.heap.size → ¬ S i → W.heap[i]? = w.heap[i]?
section
variable {w W W2 : World} {S S2 S' : Nat → Prop}
theorem Kept.refl (w : World) (S : Nat → Prop) : Kept w w S := ⟨Nat.le_refl _, fun _ _ _ => rfl⟩
theorem Kept.of_below (h : Below w.heap.size w W) (S : Nat → Prop) : Kept w W S := ⟨h.size, fun i hi _ => h.block i hi⟩
theorem Kept.mono (h : Kept w W S) (hs : ∀ k, S k → S' k) : Kept w W S' := ⟨h.1, fun i hi hn => h.2 i hi (fun hk => hn (hs i hk))⟩
theorem Kept.then_ (h : Kept w W S) (k : Kept W W2 S2) (hs : ∀ k, S2 k → S k ∨ w.heap.size ≤ k) : Kept w W2 S :=
  ⟨Nat.le_trans h.1 k.1, fun i hi hn => (k.2 i (Nat.lt_of_lt_of_le hi h.1) (fun h2 => (hs i h2).elim hn (fun h3 => by omega))).trans (h.2 i hi hn)⟩
theorem Kept.below (h : Kept w W S) (hb : Below W.heap.size W W2) : Kept w W2 S := h.then_ (Kept.of_below hb (fun _ => False)) (fun _ hk => hk.elim)
theorem Kept.alloc (h : Kept w W S) (o : Obj) : Kept w (W.alloc o) S := h.below (below_alloc (Below.refl _ _) o)
theorem Kept.drew (h : Kept w W S) : Kept w W.drew S := h
theorem Kept.drewN (h : Kept w W S) (m : Nat) : Kept w (W.drewN m) S := h
theorem Kept.setCell (h : Kept w W S) {p : Addr} (hp : S p.block ∨ w.heap.size ≤ p.block) (u : Value) : Kept w (W.setCell p u) S :=
  h.then_ (S2 := fun k => k = p.block) ⟨by simp [World.setCell], fun i _ hn => Below.heap_setCell W p u i hn⟩ (fun k hk => by rw [hk]; exact hp)
/-- Beside a state: what was written is new since. -/
theorem Kept.keep {g : Nat} (h : KeepBut w W g none) (k : Kept W W2 S2) (hs : ∀ k, S2 k → w.heap.size ≤ k) : KeepBut w W2 g none :=
  ⟨Nat.le_trans h.1 k.1, fun i hi hg hr => (k.2 i (Nat.lt_of_lt_of_le hi h.1) (fun h2 => by have := hs i h2; omega)).trans (h.2 i hi hg hr)⟩
end
namespace Kd
section
variable {α : Type} {d : Kd α} {e base n c : Nat} {ok oki S S2 : Nat → Prop} {w w0 W W1 W2 : World} {v : Value} {A : Option Addr} {xs : List α} {i : Int} {cs : List Value}
end
end Kd
end Go.Proofs.YtifgpigicgaadaaGreatDoorW.PrintWords
end
section
-- PRINTED BY print.sh 35421559b90ae4d0a3588c463048766b98c2df88dd9212a6774a882060cdf62d: not written by this session
/-! ### 46. Values that share: what is only read, with the blocks it lies in (its footprint 'ok'): Foot, F (a row that is read), FK (an element's cells) -/
namespace Go.Proofs.YtifgpigicgaadaaGreatDoorW.PrintWords
open Go.RowKit
/-- P holds in W and in every world that has W's blocks of ok. -/
def Foot (P : World → Prop) (W : World) (ok : Nat → Prop) : Prop := ∀ W' : World, (∀ k, ok k → k < W.heap.size → W'.heap[k]? = W.heap[k]?) → P W'
theorem heap_lt {W W1 : World} {k : Nat} (h : W1.heap[k]? = W.heap[k]?) (hlt : k < W.heap.size) : k < W1.heap.size := by
  rw [Array.getElem?_eq_getElem hlt] at h
  exact (Array.getElem?_eq_some_iff.1 h).1
namespace Foot
variable {P Q : World → Prop} {W W1 : World} {ok ok' : Nat → Prop}
theorem mono (h : Foot P W ok) (hok : ∀ k, ok k → ok' k) : Foot P W ok' := fun W' hW => h W' (fun k hk hlt => hW k (hok k hk) hlt)
theorem bound (h : Foot P W ok) : Foot P W (fun k => ok k ∧ k < W.heap.size) := fun W' hW => h W' (fun k hk hlt => hW k ⟨hk, hlt⟩ hlt)
theorem step (h : Foot P W ok) (hm : ∀ k, ok k → k < W.heap.size → W1.heap[k]? = W.heap[k]?) : Foot P W1 ok := fun W' hW => h W' (fun k hk hlt => (hW k hk (heap_lt (hm k hk hlt) hlt)).trans (hm k hk hlt))
theorem imp (h : Foot P W ok) (hi : ∀ W', P W' → Q W') : Foot Q W ok := fun W' hW => hi W' (h W' hW)
/-- Moved, and still elder than what is new since W. -/
theorem old (h : Foot P W ok) (hb : Below W.heap.size W W1) : Foot P W1 (fun k => ok k ∧ k < W.heap.size) := (h.bound).step (fun k _ hlt => hb.block k hlt)
end Foot
namespace Kd
/-- A row that is only read: what it leads to lies in ok. -/
def F {α : Type} (d : Kd α) (W : World) (ok : Nat → Prop) (A : Option Addr) (n : Nat) (xs : List α) : Prop := Foot (fun W => d.C W A n xs) W ok
/-- An element's cells: what they lead to lies in ok. -/
def FK {α : Type} (d : Kd α) (W : World) (ok : Nat → Prop) (x : α) (c : List Value) : Prop := Foot (fun W => d.K W x c) W ok
section
variable {α β : Type} {d : Kd α} {e base n n' cc g N : Nat} {ok ok' okp S : Nat → Prop} {w w0 w1 W W1 : World} {A A' : Option Addr} {u v v1 : Value} {xs : List α} {xs' : List β} {d' : Kd β} {x : α} {c : List Value}
theorem F_nil (d : Kd α) (W : World) (ok : Nat → Prop) : F d W ok none ([] : List α).length [] := fun W' _ => C_nil d W'
theorem FK_of_M (h : d.M W base ok x c) : FK d W ok x c := fun _ hW => d.K_of_M (M_step h hW)
end
end Kd
end Go.Proofs.YtifgpigicgaadaaGreatDoorW.PrintWords
end
section
-- PRINTED BY print.sh 35421559b90ae4d0a3588c463048766b98c2df88dd9212a6774a882060cdf62d: not written by this session
/-! ### 47. N: a row of the call's own whose elements share (what they lead to is only read) -/
namespace Go.Proofs.YtifgpigicgaadaaGreatDoorW.PrintWords
open Go.RowKit
namespace Kd
/-- The cells one behind the other, element by element. -/
def chunks (sz : Nat) (n : Nat) (inner : List Value) : List (List Value) := (List.range n).map fun j => (inner.drop (j * sz)).take sz
theorem chunks_length (sz n : Nat) (inner : List Value) : (chunks sz n inner).length = n := by simp [chunks]
theorem chunks_at {sz n : Nat} {inner : List Value} {j : Nat} (hj : j < n) : (chunks sz n inner)[j]? = some ((inner.drop (j * sz)).take sz) := by simp [chunks, hj]
theorem chunks_get {sz n : Nat} {inner : List Value} {j : Nat} {c : List Value} (h : (chunks sz n inner)[j]? = some c) : c = (inner.drop (j * sz)).take sz := by
  have hj : j < n := by have := (List.getElem?_eq_some_iff.1 h).1; rwa [chunks_length] at this
  rw [chunks_at hj] at h
  injection h with h
  exact h.symm
theorem reps_raw {α : Type} {Rr : α → List Value → Prop} {sz : Nat} {xs : List α} {inner : List Value} (h : Reps Rr sz xs inner) (hR : ∀ x c, Rr x c → c.length = sz ∧ ∀ u ∈ c, u.oneCell' = true) : Reps (fun x cs => cs = x ∧ cs.length = sz ∧ ∀ u ∈ cs, u.oneCell' = true) sz (chunks sz xs.length inner) inner := by
  refine ⟨by rw [chunks_length]; exact h.1, fun j p hj => ?_⟩
  have hjl : j < xs.length := by have := (List.getElem?_eq_some_iff.1 hj).1; rwa [chunks_length] at this
  have hp := chunks_get hj
  exact ⟨hp.symm, hR _ _ (h.2 j _ (List.getElem?_eq_getElem hjl))⟩
section
variable {α : Type} {d : Kd α} {e base n cc g : Nat} {ok ok' okp S : Nat → Prop} {w w1 W W1 : World} {A : Option Addr} {u v v1 : Value} {xs : List α} {x : α} {c : List Value}
/-- A row of elements (type e) of the call's own; what the elements lead to is only read, and is not this row. -/
def N {α : Type} (d : Kd α) (e : Nat) (w : World) (base : Nat) (ok : Nat → Prop) (v : Value) (xs : List α) : Prop :=
  (∀ k, v.ownBlock = some k → ok k) ∧ ∃ rows : List (List Value), rows.length = xs.length ∧ (raw d.sz).R e w base (fun k => some k = v.ownBlock) v rows ∧ ∀ (j : Nat) (x : α) (c : List Value), xs[j]? = some x → rows[j]? = some c → FK d w (fun k => ok k ∧ some k ≠ v.ownBlock) x c
theorem R_N (h : d.R e w base ok v xs) : N d e w base ok v xs := by
  obtain ⟨h0, inner, ho, hr⟩ := h
  refine ⟨h0, chunks d.sz xs.length inner, chunks_length _ _ _, ⟨fun k hk => hk.symm, inner, by rw [chunks_length]; exact ho, reps_raw hr (fun x c hp => ⟨d.K_len (d.K_of_M hp), d.K_one (d.K_of_M hp)⟩)⟩, fun j x c hx hc => ?_⟩
  rw [chunks_get hc]
  exact FK_of_M (hr.2 j x hx)
theorem N_nil (d : Kd α) (e : Nat) (w : World) (base : Nat) (ok : Nat → Prop) : N d e w base ok (.slice none 0 0) [] := R_N (R_nil _ _ _ _ _)
end
end Kd
end Go.Proofs.YtifgpigicgaadaaGreatDoorW.PrintWords
end
section
-- PRINTED BY print.sh 35421559b90ae4d0a3588c463048766b98c2df88dd9212a6774a882060cdf62d: not written by this session
/-! ### 48. N's events: append, a whole row appended, zeros appended, literals, make, stores, cuts, an element taken out -/
namespace Go.Proofs.YtifgpigicgaadaaGreatDoorW.PrintWords
open Go.RowKit
namespace Kd
section
variable {α : Type} {d : Kd α} {e base n cap g : Nat} {ok ok' okp : Nat → Prop} {w w1 W : World} {v v1 : Value} {xs ys : List α}
end
section
variable {P : Program} {ops : Array Oper} {rest : List Oper} {o : Oper} {a : Act} {Q : Exit → Act → World → Prop} {Kc : Act → World → Prop} {α : Type}
end
end Kd
end Go.Proofs.YtifgpigicgaadaaGreatDoorW.PrintWords
end
section
-- PRINTED BY print.sh 35421559b90ae4d0a3588c463048766b98c2df88dd9212a6774a882060cdf62d: not written by this session
-- PRINTED WORDS (module Derived/Print/More.lean): go-gate-2's additions: an AI agent of Go's test side, Tue Nov 17 2026; no person has read it. Lean checks it.
namespace Go.Proofs.YtifgpigicgaadaaGreatDoorW.PrintMore
open Go.RowKit Go.Proofs.YtifgpigicgaadaaGreatDoorW.PrintWords
namespace Kd
open Go.Proofs.YtifgpigicgaadaaGreatDoorW.PrintWords.Kd
end Kd

namespace Kd
open Go.Proofs.YtifgpigicgaadaaGreatDoorW.PrintWords.Kd
section
variable {α : Type} {d : Kd α} {e base g N : Nat} {ok : Nat → Prop} {W w1 : World} {u v : Value} {xs : List α}
end
end Kd
/-- 'max' and 'min' of two whole numbers. -/
theorem max2_int (k k' : IntKind) (x y : Int) : Builtin.max2 (.int k x) (.int k' y) = pure (.int k (if x < y then y else x)) := by simp only [Builtin.max2, gt_iff_lt]
theorem min2_int (k k' : IntKind) (x y : Int) : Builtin.min2 (.int k x) (.int k' y) = pure (.int k (if y < x then y else x)) := by simp only [Builtin.min2]
theorem max_two (ats : Array TypeId) (ty : TypeId) (a b : Value) : Builtin.max_ ats ty #[a, b] = (Builtin.max2 a b >>= fun s => pure s) := by simp only [Builtin.max_, List.foldlM_cons, List.foldlM_nil]
theorem min_two (ats : Array TypeId) (ty : TypeId) (a b : Value) : Builtin.min_ ats ty #[a, b] = (Builtin.min2 a b >>= fun s => pure s) := by simp only [Builtin.min_, List.foldlM_cons, List.foldlM_nil]
theorem max_three (ats : Array TypeId) (ty : TypeId) (a b c : Value) : Builtin.max_ ats ty #[a, b, c] = (Builtin.max2 a b >>= fun s => Builtin.max2 s c >>= fun s => pure s) := by simp only [Builtin.max_, List.foldlM_cons, List.foldlM_nil]
theorem min_three (ats : Array TypeId) (ty : TypeId) (a b c : Value) : Builtin.min_ ats ty #[a, b, c] = (Builtin.min2 a b >>= fun s => Builtin.min2 s c >>= fun s => pure s) := by simp only [Builtin.min_, List.foldlM_cons, List.foldlM_nil]
theorem max_four (ats : Array TypeId) (ty : TypeId) (a b c d : Value) : Builtin.max_ ats ty #[a, b, c, d] = (Builtin.max2 a b >>= fun s => Builtin.max2 s c >>= fun s => Builtin.max2 s d >>= fun s => pure s) := by simp only [Builtin.max_, List.foldlM_cons, List.foldlM_nil]
theorem min_four (ats : Array TypeId) (ty : TypeId) (a b c d : Value) : Builtin.min_ ats ty #[a, b, c, d] = (Builtin.min2 a b >>= fun s => Builtin.min2 s c >>= fun s => Builtin.min2 s d >>= fun s => pure s) := by simp only [Builtin.min_, List.foldlM_cons, List.foldlM_nil]
end Go.Proofs.YtifgpigicgaadaaGreatDoorW.PrintMore
namespace Go.Proofs.YtifgpigicgaadaaGreatDoorW.PrintWords
open Go.RowKit
section
variable {P : Program} {ops : Array Oper} {rest : List Oper} {o : Oper} {a : Act} {Q : Exit → Act → World → Prop} {W : World}
/-- The operation is a call of this function (a cheap look ahead of a dear step). -/
theorem gate_callee {f : FuncId} {as1 : Array Operand} {ts : Array TypeId} (_ho : o.op = .call { callee := .value (.func f), args := as1, argTypes := ts }) (h : wpList P ops Q (o :: rest) a W) : wpList P ops Q (o :: rest) a W := h
/-- The operation is a builtin over these places. -/
theorem gate_builtin {b : Builtin} {xs : Array Operand} {ts : Array TypeId} (_ho : o.op = .call { callee := .builtin b, args := xs, argTypes := ts }) (h : wpList P ops Q (o :: rest) a W) : wpList P ops Q (o :: rest) a W := h
end
/-- The greater of two whole numbers, as Go's max tells it. -/
def mx (a b : Int) : Int := if a < b then b else a
/-- The smaller of two whole numbers, as Go's min tells it. -/
def mn (a b : Int) : Int := if b < a then b else a
/-- A shift to the left, as Go tells it: a count beyond the width leaves nothing. -/
def shl (k : IntKind) (x y : Int) : Int := k.wrap (x * 2 ^ min y.toNat k.bits)
/-- A shift to the right: a count beyond the width leaves the sign. -/
def shr (k : IntKind) (x y : Int) : Int := x / 2 ^ min y.toNat k.bits
/-- It says x = x, and that is its use: 'rw [drewN_self w]' fails where the world was not drawn, and the row behind it is skipped. -/
theorem drewN_self (w : World) (n : Nat) : w.drewN n = w.drewN n := rfl
namespace Kd
section
variable {α : Type} {d : Kd α} {e base : Nat} {ok : Nat → Prop} {W w1 : World} {v : Value} {xs : List α}
end
section
variable {α : Type} {d : Kd α} {e base g n cap : Nat} {ok oki okp : Nat → Prop} {W : World} {xs : List α} {i : Int} {c : List Value}
end
section
variable {α : Type} {d : Kd α} {e base b b' g N : Nat} {ok ok1 : Nat → Prop} {W W2 w1 : World} {u v : Value} {xs ys : List α} {S : Nat → Prop}
end
end Kd
end Go.Proofs.YtifgpigicgaadaaGreatDoorW.PrintWords
namespace Go.Proofs.YtifgpigicgaadaaGreatDoorW.PrintWords
open Go.RowKit
namespace Kd
/-- A row that is only read, told by its value: its form, its length, what it leads to (in ok). e and base say nothing; they make it as the others are. -/
def V {α : Type} (d : Kd α) (_e : Nat) (W : World) (_base : Nat) (ok : Nat → Prop) (v : Value) (xs : List α) : Prop := ∃ A c, v = .slice A xs.length c ∧ xs.length ≤ c ∧ F d W ok A xs.length xs
section
variable {α β : Type} {d : Kd α} {e base base' n m c g N' lo hi : Nat} {ok ok' S : Nat → Prop} {w W w1 : World} {A : Option Addr} {ad : Addr} {u v v1 : Value} {xs : List α}
theorem V_nil (d : Kd α) (e : Nat) (W : World) (base : Nat) (ok : Nat → Prop) : V d e W base ok (.slice none 0 0) [] := ⟨none, 0, rfl, Nat.le_refl _, F_nil d W ok⟩
end
end Kd
end Go.Proofs.YtifgpigicgaadaaGreatDoorW.PrintWords
end
section
/- Words that this session's own contracts use: what is of no program. -/
namespace Go.Proofs.YtifgpigicgaadaaGreatDoorH
open Go.RowKit Go.Proofs.YtifgpigicgaadaaGreatDoorW.PrintWords Go.Proofs.YtifgpigicgaadaaGreatDoorW.PrintLast Go.Proofs.YtifgpigicgaadaaGreatDoorW.PrintMore

/-! Bytes of a string, as a row that is read: what was there stays. -/
theorem bytes_below0 (W : World) (e : TypeId) (s : ByteArray) : Below W.heap.size W (Lib.bytesWorld W e s) := bytes_below (Below.refl _ _) (Nat.le_refl _) e s
theorem bytes_below1 {w W : World} (h : Below w.heap.size w W) (e : TypeId) (s : ByteArray) : Below w.heap.size w (Lib.bytesWorld W e s) := bytes_below h h.size e s
section
variable {α : Type} {d : Kd α} {e : Nat} {w : World} {base : Nat} {ok : Nat → Prop} {v : Value} {xs : List α}
theorem C_bytes {A : Option Addr} {n : Nat} (h : d.C w A n xs) (q : TypeId) (s : ByteArray) : d.C (Lib.bytesWorld w q s) A n xs := Kd.C_below h (bytes_below0 w q s)
theorem R_bytes (h : d.R e w base ok v xs) (q : TypeId) (s : ByteArray) : d.R e (Lib.bytesWorld w q s) base ok v xs := Kd.R_below h (bytes_below0 w q s)
theorem blk_bytes {g : Nat} {o : Obj} (h : w.heap[g]? = some o) (q : TypeId) (s : ByteArray) : (Lib.bytesWorld w q s).heap[g]? = some o := blk_below h (bytes_below0 w q s)
end
theorem C_bytes_new (W : World) (e : TypeId) (s : ByteArray) (n : Nat) (hn : s.size = n) (hs : s.size < 140737488355328) : Kd.C (Kd.int .u8) (Lib.bytesWorld W e s) (some ⟨W.heap.size, 0, none⟩) n (bytesOf s) := by
  subst hn
  exact Kd.C_of_reads (d := (0 : Int)) (h1 := fun _ => rfl) (bytes_reads W e s (by omega))
theorem bytesLess_turn : ∀ a b : List UInt8, (!(Op.bytesLess a b || a == b)) = Op.bytesLess b a
  | [], [] => rfl
  | [], _ :: _ => rfl
  | _ :: _, [] => rfl
  | x :: a, y :: b => by
    have ih := bytesLess_turn a b
    rcases Nat.lt_trichotomy x.toNat y.toNat with h | h | h
    · have h1 : x < y := UInt8.lt_iff_toNat_lt.2 h
      have h2 : ¬ y < x := fun z => by have := UInt8.lt_iff_toNat_lt.1 z; omega
      have h3 : ¬ y = x := fun z => by subst z; omega
      simp [Op.bytesLess, h1, h2, h3]
    · obtain rfl : x = y := UInt8.toNat_inj.1 h
      have h2 : ¬ x < x := fun z => by have := UInt8.lt_iff_toNat_lt.1 z; omega
      simp only [Op.bytesLess, h2, decide_false, Bool.false_or, beq_self_eq_true, Bool.true_and]
      rw [← ih]
      simp
    · have h1 : y < x := UInt8.lt_iff_toNat_lt.2 h
      have h2 : ¬ x < y := fun z => by have := UInt8.lt_iff_toNat_lt.1 z; omega
      have h3 : ¬ x = y := fun z => by subst z; omega
      simp [Op.bytesLess, h1, h2, h3]
@[go_sem] theorem binOp_str_gtr (t : TypeId) (a b : ByteArray) : binOp .gtr t (.string a) (.string b) = pure (.bool (Op.bytesLess b.toList a.toList)) := by
  rw [← bytesLess_turn]; simp [binOp, Op.stringOp]
@[go_sem] theorem binOp_str_leq (t : TypeId) (a b : ByteArray) : binOp .leq t (.string a) (.string b) = pure (.bool (!Op.bytesLess b.toList a.toList)) := by
  rw [← bytesLess_turn]; simp [binOp, Op.stringOp]
@[go_sem] theorem binOp_str_geq (t : TypeId) (a b : ByteArray) : binOp .geq t (.string a) (.string b) = pure (.bool (!Op.bytesLess a.toList b.toList)) := by
  simp [binOp, Op.stringOp]
theorem strOfNums_get! (l : List Int) (j : Nat) (hj : j < l.length) : (strOfNums l).get! j = UInt8.ofNat (l[j]).toNat := by
  simp [ByteArray.get!, strOfNums, hj]
/-! What the program lays: the two tables of unicode/utf8. -/
def Laid (w : World) : Prop := Lib.Utf8Tabs 0 1 w
theorem Laid_below {w W : World} (h : Laid w) (hb : Below w.heap.size w W) : Laid W := by
  have c : ∀ {a : Addr} {v : Value}, w.cell? a = some v → W.cell? a = some v := fun hv => (hb.cell (World.block_lt_of_cell? w _ hv)).trans hv
  exact ⟨fun i hi => c (h.1 i hi), fun i hi => ⟨c (h.2 i hi).1, c (h.2 i hi).2⟩⟩
end Go.Proofs.YtifgpigicgaadaaGreatDoorH
end
section
/- What the program's library functions are, against the shelf's own bodies: a table of numbers and one theorem for each, by the kernel's comparison. Written by the kit's lay-plain.mjs for this seat. -/
namespace Go.Proofs
open Go.Shelf
def Tryz.layDecodeRune_ren : Go.Shelf.Ren := ⟨fun | 32 => 72 | 49 => 91 | n => n, fun | 30 => 24 | 21 => 21 | 3 => 3 | 0 => 0 | 5 => 5 | 4 => 4 | 33 => 111 | 66 => 140 | 25 => 67 | 69 => 155 | 68 => 154 | n => n, fun | 2 => 0 | 3 => 1 | n => n⟩
theorem Tryz.layDecodeRune : Go.Proofs.Lays7.n32 Tryz.prog Tryz.layDecodeRune_ren := {
  mixed := by kernel_rfl
  f32 := Tryz.func72.trans (congrArg some (by kernel_rfl))
  f49 := Tryz.func91.trans (congrArg some (by kernel_rfl))
  t0 := Tryz.underlying0
  a0 := Tryz.isAgg0
  z0 := Tryz.sizeOf0
  v0 := Tryz.zeroValue0
  i0 := by kernel_rfl
  t3 := Tryz.underlying3
  a3 := Tryz.isAgg3
  z3 := Tryz.sizeOf3
  v3 := Tryz.zeroValue3
  i3 := by kernel_rfl
  t4 := Tryz.underlying4
  a4 := Tryz.isAgg4
  z4 := Tryz.sizeOf4
  v4 := Tryz.zeroValue4
  i4 := by kernel_rfl
  t5 := Tryz.underlying5
  a5 := Tryz.isAgg5
  z5 := Tryz.sizeOf5
  v5 := Tryz.zeroValue5
  i5 := by kernel_rfl
  t21 := Tryz.underlying21
  a21 := Tryz.isAgg21
  z21 := Tryz.sizeOf21
  v21 := Tryz.zeroValue21
  i21 := by kernel_rfl
  t25 := Tryz.underlying67
  a25 := Tryz.isAgg67
  z25 := Tryz.sizeOf67
  v25 := Tryz.zeroValue67
  i25 := by kernel_rfl
  t30 := Tryz.underlying24
  a30 := Tryz.isAgg24
  z30 := Tryz.sizeOf24
  v30 := Tryz.zeroValue24
  i30 := by kernel_rfl
  t33 := Tryz.underlying111
  a33 := Tryz.isAgg111
  z33 := Tryz.sizeOf111
  v33 := Tryz.zeroValue111
  i33 := by kernel_rfl
  t66 := Tryz.underlying140
  a66 := Tryz.isAgg140
  z66 := Tryz.sizeOf140
  t68 := Tryz.underlying154
  a68 := Tryz.isAgg154
  z68 := Tryz.sizeOf154
  v68 := Tryz.zeroValue154
  i68 := by kernel_rfl
  t69 := Tryz.underlying155
  a69 := Tryz.isAgg155
  z69 := Tryz.sizeOf155
  v69 := Tryz.zeroValue155
  i69 := by kernel_rfl
  g2 := by kernel_rfl
  g3 := by kernel_rfl }
def Tryz.layCompare_ren : Go.Shelf.Ren := ⟨fun | 106 => 82 | 213 => 99 | 265 => 113 | n => n, fun | 9 => 9 | 3 => 3 | n => n, fun | n => n⟩
def Tryz.layIndexByte_ren : Go.Shelf.Ren := ⟨fun | 137 => 87 | 217 => 104 | 266 => 117 | n => n, fun | 9 => 9 | 5 => 5 | 3 => 3 | n => n, fun | n => n⟩
theorem Tryz.layIndexByte : Go.Proofs.Lays.n137 Tryz.prog Tryz.layIndexByte_ren := {
  mixed := by kernel_rfl
  f137 := Tryz.func87.trans (congrArg some (by kernel_rfl))
  f217 := Tryz.func104.trans (congrArg some (by kernel_rfl))
  f266 := Tryz.func117.trans (congrArg some (by kernel_rfl))
  t3 := Tryz.underlying3
  a3 := Tryz.isAgg3
  z3 := Tryz.sizeOf3
  v3 := Tryz.zeroValue3
  t5 := Tryz.underlying5
  a5 := Tryz.isAgg5
  z5 := Tryz.sizeOf5
  v5 := Tryz.zeroValue5
  t9 := Tryz.underlying9
  a9 := Tryz.isAgg9
  z9 := Tryz.sizeOf9
  v9 := Tryz.zeroValue9 }
def Tryz.layTrimLeft_ren : Go.Shelf.Ren := ⟨fun | 161 => 40 | 231 => 55 | 227 => 56 | 233 => 57 | 235 => 58 | 228 => 84 | 197 => 85 | 151 => 86 | 260 => 102 | 152 => 103 | 137 => 87 | 119 => 114 | 224 => 115 | 225 => 116 | 217 => 104 | 266 => 117 | n => n, fun | 9 => 9 | 4 => 4 | 3 => 3 | 5 => 5 | 117 => 92 | 116 => 91 | 0 => 0 | 124 => 95 | 105 => 111 | 21 => 21 | 119 => 140 | 46 => 67 | 139 => 155 | 138 => 154 | n => n, fun | 3 => 0 | 4 => 1 | n => n⟩
theorem Tryz.layTrimLeft : Go.Proofs.Lays.n161 Tryz.prog Tryz.layTrimLeft_ren := {
  mixed := by kernel_rfl
  f119 := Tryz.func114.trans (congrArg some (by kernel_rfl))
  f137 := Tryz.func87.trans (congrArg some (by kernel_rfl))
  f151 := Tryz.func86.trans (congrArg some (by kernel_rfl))
  f152 := Tryz.func103.trans (congrArg some (by kernel_rfl))
  f161 := Tryz.func40.trans (congrArg some (by kernel_rfl))
  f197 := Tryz.func85.trans (congrArg some (by kernel_rfl))
  f217 := Tryz.func104.trans (congrArg some (by kernel_rfl))
  f224 := Tryz.func115.trans (congrArg some (by kernel_rfl))
  f225 := Tryz.func116.trans (congrArg some (by kernel_rfl))
  f227 := Tryz.func56.trans (congrArg some (by kernel_rfl))
  f228 := Tryz.func84.trans (congrArg some (by kernel_rfl))
  f231 := Tryz.func55.trans (congrArg some (by kernel_rfl))
  f233 := Tryz.func57.trans (congrArg some (by kernel_rfl))
  f235 := Tryz.func58.trans (congrArg some (by kernel_rfl))
  f260 := Tryz.func102.trans (congrArg some (by kernel_rfl))
  f266 := Tryz.func117.trans (congrArg some (by kernel_rfl))
  t0 := Tryz.underlying0
  a0 := Tryz.isAgg0
  z0 := Tryz.sizeOf0
  v0 := Tryz.zeroValue0
  t3 := Tryz.underlying3
  a3 := Tryz.isAgg3
  z3 := Tryz.sizeOf3
  v3 := Tryz.zeroValue3
  t4 := Tryz.underlying4
  a4 := Tryz.isAgg4
  z4 := Tryz.sizeOf4
  v4 := Tryz.zeroValue4
  t5 := Tryz.underlying5
  a5 := Tryz.isAgg5
  z5 := Tryz.sizeOf5
  v5 := Tryz.zeroValue5
  t9 := Tryz.underlying9
  a9 := Tryz.isAgg9
  z9 := Tryz.sizeOf9
  v9 := Tryz.zeroValue9
  t21 := Tryz.underlying21
  a21 := Tryz.isAgg21
  z21 := Tryz.sizeOf21
  v21 := Tryz.zeroValue21
  t46 := Tryz.underlying67
  a46 := Tryz.isAgg67
  z46 := Tryz.sizeOf67
  v46 := Tryz.zeroValue67
  t105 := Tryz.underlying111
  a105 := Tryz.isAgg111
  z105 := Tryz.sizeOf111
  v105 := Tryz.zeroValue111
  t116 := Tryz.underlying91
  a116 := Tryz.isAgg91
  z116 := Tryz.sizeOf91
  t117 := Tryz.underlying92
  a117 := Tryz.isAgg92
  z117 := Tryz.sizeOf92
  v117 := Tryz.zeroValue92
  t119 := Tryz.underlying140
  a119 := Tryz.isAgg140
  z119 := Tryz.sizeOf140
  t124 := Tryz.underlying95
  a124 := Tryz.isAgg95
  z124 := Tryz.sizeOf95
  v124 := Tryz.zeroValue95
  t138 := Tryz.underlying154
  a138 := Tryz.isAgg154
  z138 := Tryz.sizeOf154
  v138 := Tryz.zeroValue154
  t139 := Tryz.underlying155
  a139 := Tryz.isAgg155
  z139 := Tryz.sizeOf155
  v139 := Tryz.zeroValue155
  g3 := by kernel_rfl
  g4 := by kernel_rfl }
def Tryz.layMul64_ren : Go.Shelf.Ren := ⟨fun | 264 => 101 | n => n, fun | 53 => 66 | 46 => 67 | n => n, fun | n => n⟩
end Go.Proofs
end
section
/- sync.Once of one goroutine, over this program: the lock free, the two calls that doSlow defers. -/
set_option linter.unusedSimpArgs false
set_option linter.unusedVariables false
namespace Go.Proofs.YtifgpigicgaadaaGreatDoor.Hand
open Go.RowKit

theorem disable (w : World) : (callFunc 118 #[]).run Tryz.prog w = .ok (.value (.tuple #[])) w := run_call_mark0 Tryz.func118 (by kernel_rfl) (by kernel_rfl) (by kernel_rfl) .disable (by kernel_rfl) w
theorem enable (w : World) : (callFunc 120 #[]).run Tryz.prog w = .ok (.value (.tuple #[])) w := run_call_mark0 Tryz.func120 (by kernel_rfl) (by kernel_rfl) (by kernel_rfl) .enable (by kernel_rfl) w
theorem acquire (a : Addr) (w : World) : (callFunc 121 #[.pointer (some a)]).run Tryz.prog w = .ok (.value (.tuple #[])) w := run_call_marked Tryz.func121 (by kernel_rfl) (by kernel_rfl) (by kernel_rfl) .acquire (by kernel_rfl) a w
theorem releaseMerge (a : Addr) (w : World) : (callFunc 123 #[.pointer (some a)]).run Tryz.prog w = .ok (.value (.tuple #[])) w := run_call_marked Tryz.func123 (by kernel_rfl) (by kernel_rfl) (by kernel_rfl) .releaseMerge (by kernel_rfl) a w

theorem store_deferred (a : Addr) (x : Value) (u : FrameMode) (w : World) (hc : w.cell? a = some x) (hz : w.frozen? a = false) :
    CallsD Tryz.prog 95 #[.pointer (some a), .bool true] u w fun e u' w' => u' = u ∧ (e = .returned (.tuple #[]) ∧ w' = w.drew.setCell a (.int .u32 1)) := by
  have hc' : w.drew.cell? a = some x := by go_simp
  have hz' : w.drew.frozen? a = false := by go_simp
  have hst := run_call_store (P := Tryz.prog) Tryz.func109 (by kernel_rfl) (by kernel_rfl) (by kernel_rfl) (by kernel_rfl) (k := .u32) (y := 1) hc' hz'
  go_enter_d Tryz.func95, Tryz.ntmps95
  go_wp2
  go_region_calls
  all_goals (go_end0; exact ⟨rfl, rfl⟩)
set_option maxRecDepth 100000 in
set_option maxHeartbeats 1600000 in
theorem unlock_deferred (a : Addr) (u : FrameMode) (w : World) (hc : w.cell? a = some (.int .i32 1)) (hz : w.frozen? a = false) :
    CallsD Tryz.prog 94 #[.pointer (some a)] u w fun e u' w' => u' = u ∧ (e = .returned (.tuple #[]) ∧ w' = w.setCell a (.int .i32 0)) := by
  have hd := disable
  have he := enable
  have hr := releaseMerge
  have hadd := run_call_add (P := Tryz.prog) Tryz.func124 (by kernel_rfl) (by kernel_rfl) (by kernel_rfl) .i32 (by kernel_rfl) (y := -1) (s := 0) hc hz (by simp [go_sem]; rfl)
  have hcv := run_convert_to_unsafe (P := Tryz.prog) (src := 172) (dst := 151) Tryz.underlying172 Tryz.underlying151 (by kernel_rfl) hc
  go_enter_d Tryz.func94, Tryz.ntmps94
  go_wp2
  go_end0
  go_wp2
  go_end0
  exact ⟨rfl, rfl⟩
set_option maxRecDepth 100000 in
set_option maxHeartbeats 1600000 in
theorem lock_free (a : Addr) (w : World) (hc : w.cell? a = some (.int .i32 0)) (hz : w.frozen? a = false) :
    Calls Tryz.prog 93 #[.pointer (some a)] w fun e w' => e = .returned (.tuple #[]) ∧ w' = w.setCell a (.int .i32 1) := by
  have hd := disable
  have he := enable
  have ha := acquire
  have hcas := run_call_cas_hit (P := Tryz.prog) Tryz.func119 (by kernel_rfl) (by kernel_rfl) (by kernel_rfl) .i32 (by kernel_rfl) (y := 1) hc hz
  have hc' : (w.setCell a (.int .i32 1)).cell? a = some (.int .i32 1) := World.cell?_setCell_same w a _ hc
  have hcv := run_convert_to_unsafe (P := Tryz.prog) (src := 172) (dst := 151) Tryz.underlying172 Tryz.underlying151 (by kernel_rfl) hc'
  go_enter Tryz.func93, Tryz.ntmps93
  go_wp2
  first | go_end0 | (simp only [Exit.inBlock, Exit.then]; refine bodyPost_ret (results_none rfl _ _ _) rfl ?_) | refine bodyPost_ret (results_none rfl _ _ _) rfl ?_
  go_wp2
  go_end0
  exact ⟨rfl, rfl⟩
end Go.Proofs.YtifgpigicgaadaaGreatDoor.Hand
end
section
/- (*strings.Replacer).build, of four strings: the table of 256 rows. -/
set_option linter.unusedSimpArgs false
set_option linter.unusedVariables false
namespace Go.Proofs.YtifgpigicgaadaaGreatDoor.Hand
open Go.RowKit Go.Proofs.YtifgpigicgaadaaGreatDoorW.PrintWords Go.Proofs.YtifgpigicgaadaaGreatDoorW.PrintLast Go.Proofs.YtifgpigicgaadaaGreatDoorH
def nilS : Value := .slice none 0 0
def rows0 : Array Value := Array.replicate 256 nilS
theorem make_two (W : World) : (Instr.makeSlice 61 (.int .i64 0) (.int .i64 2)).run Tryz.prog W = .ok (.slice (some ⟨W.heap.size, 0, none⟩) 0 2) (W.alloc (.cells #[.string ⟨#[]⟩, .string ⟨#[]⟩] 9)) := by
  have hinfo : (Tryz.prog.info? 9).map (fun i => (i.zero, i.size, i.bytes)) = some (some (.string ⟨#[]⟩), 1, 16) := by kernel_rfl
  obtain ⟨i, hi, hzz⟩ := Option.map_eq_some_iff.1 hinfo
  simp only [Prod.mk.injEq] at hzz
  obtain ⟨hz, hs, hb⟩ := hzz
  have := run_make (P := Tryz.prog) (w := W) 61 9 i (.string ⟨#[]⟩) Tryz.underlying61 hi hz .i64 .i64 0 2 (by omega) (by omega) (by rw [hb]; omega) (by omega)
  have hm : madeCells (Value.string ⟨#[]⟩).cells (Int.toNat 2 * 1) = #[.string ⟨#[]⟩, .string ⟨#[]⟩] := by kernel_rfl
  rw [this, hs, hm]
  rfl
theorem build_tab (W : World) (v : Value) (h : v.cells = #[v]) (A : Option Addr) (n c : Nat) (hv : v = .slice A n c) : (Instr.build 145 #[(1, v)]).run Tryz.prog W = .ok (.agg (rows0.push v)) W := by
  subst hv
  exact run_build W _ _ _ (by kernel_rfl)
theorem zero_tab : (Tryz.prog.info? 145).map (fun i => (i.zero, i.size)) = some (some (.agg (rows0.push nilS)), 257) := by kernel_rfl
theorem rows0_size : rows0.size = 256 := by kernel_rfl
theorem rows0_one : rows0.all (·.oneCell') = true := by kernel_rfl
theorem store_tab (W : World) (g : Nat) (hg : g = W.heap.size) (v : Value) (hv : v.oneCell' = true) : (storeCells ⟨g, 0, none⟩ (rows0.toList ++ [v])).run Tryz.prog (W.alloc (.cells (rows0.push nilS) 145)) = .ok () (W.alloc (.cells (rows0.push v) 145)) := by
  subst hg
  have := run_storeCells_new (P := Tryz.prog) W 145 (rows0.push nilS) (rows0.push v) ((zero_of_info zero_tab).2.trans (by rw [Array.size_push, rows0_size])) (by rw [Array.size_push, Array.size_push]) (by rw [Array.all_push, hv, rows0_one]; rfl)
  rw [Array.toList_push] at this
  exact this
theorem conv_one (W : World) (x : Int) : (convert 24 9 (.slice (some ⟨W.heap.size, 0, none⟩) 1 1)).run Tryz.prog (W.alloc (.cells #[.int .u8 x] 5)) = .ok (.string (strOfNums [x])) (W.alloc (.cells #[.int .u8 x] 5)) := by
  refine run_convert_bytes_arg (P := Tryz.prog) (W.alloc (.cells #[.int .u8 x] 5)) 24 5 Tryz.underlying24 Tryz.underlying5 W.heap.size 0 1 1 [x] rfl (fun i hi => ?_) 9 Tryz.underlying9
  obtain rfl : i = 0 := by omega
  exact blk_cell (blk_new W _) 0
theorem app_one (W : World) (gs n : Nat) (cur : Array Value) (hg : W.heap[gs]? = some (.cells cur 9 (0, 0))) (hsz : cur.size = 2) (hn : n < 2) (x : ByteArray) (p : Nat) (hp : p = W.heap.size) :
    (Builtin.append_ #[61, 61] 61 #[.slice (some ⟨gs, 0, none⟩) n 2, .slice (some ⟨p, 0, none⟩) 1 1]).run Tryz.prog (W.alloc (.cells #[.string x] 9)) =
      .ok (.slice (some ⟨gs, 0, none⟩) (n + 1) 2) ((W.alloc (.cells #[.string x] 9)).setRow gs (cur.toList.take n ++ [Value.string x] ++ cur.toList.drop (n + 1)).toArray) := by
  subst hp
  have hinfo : (Tryz.prog.info? 9).map (fun i => i.size) = some 1 := by kernel_rfl
  obtain ⟨i, hi, hs⟩ := Option.map_eq_some_iff.1 hinfo
  have := run_append_room (P := Tryz.prog) (W.alloc (.cells #[.string x] 9)) 61 61 9 i Tryz.underlying61 hi gs n 2 cur (blk_alloc hg _) ⟨W.heap.size, 0, none⟩ 1 1 [.string x] (by rw [hs]; rfl) (fun j u hj => by
    match j, hj with
    | 0, hj =>
      rw [add_plain]
      exact (blk_cell (blk_new W _) 0).trans hj) (fun u hu => by simp at hu; subst hu; rfl) (by omega) (by rw [hs, hsz]; simp; omega)
  simpa [hs] using this
theorem wpList_append_eq {P : Program} {ops : Array Oper} {rest : List Oper} {o : Oper} {a : Act} {Q : Exit → Act → World → Prop} {W W1 : World} (hgd : o.guard = none) (s x : Operand) (t : TypeId)
    (ho : o.op = .call { callee := .builtin .append, args := #[s, x], argTypes := #[t, t] }) (vs vx v : Value) (hs : a.eval s = vs) (hx : a.eval x = vx)
    (hr : (Builtin.append_ #[t, t] o.type #[vs, vx]).run P W = .ok v W1) (h : ∀ W', W' = W1 → wpList P ops Q rest (a.put o.dst v) W') : wpList P ops Q (o :: rest) a W := by
  refine wpList_plain hgd fun K hK => ?_
  unfold Oper.wp execOp
  simp only [ho, resolve, invoke, builtin, Sem.run_bind, Sem.run_pure, Result.andThen_ok, List.map_toArray, List.map_cons, List.map_nil, hs, hx, hr]
  exact hK _ _ (h _ rfl)
theorem below_setRow {w W : World} {g : Nat} (h : Below w.heap.size w W) (hg : w.heap.size ≤ g) (cs : Array Value) : Below w.heap.size w (W.setRow g cs) :=
  h.trans ⟨rfl, rfl, rfl, by simp [World.setRow], fun k hk => setRow_other W g k cs (by omega)⟩
theorem after_app (w W W3 : World) (gs gt : Nat) (tab old cs : Array Value) (A S : Obj) (B : Below w.heap.size w W) (hgs : w.heap.size ≤ gs) (hne : gt ≠ gs) (h1 : W.heap[gt]? = some (.cells tab 145 (0, 0))) (h2 : W.heap[gs]? = some (.cells old 9 (0, 0)))
    (hW : W3 = ((W.alloc A).alloc S).setRow gs cs) : Below w.heap.size w W3 ∧ W3.heap[gt]? = some (.cells tab 145 (0, 0)) ∧ W3.heap[gs]? = some (.cells cs 9 (0, 0)) := by
  subst hW
  exact ⟨below_setRow (below_alloc (below_alloc B _) _) hgs _, (setRow_other _ _ _ _ hne).trans (blk_alloc (blk_alloc h1 _) _), setRow_heap _ _ _ _ _ _ (blk_alloc (blk_alloc h2 _) _)⟩
theorem keep_app (W5 W6 : World) (gs h : Nat) (A S : Obj) (cs : Array Value) (hlt : h < W5.heap.size) (hne : h ≠ gs) (hW : W6 = ((W5.alloc A).alloc S).setRow gs cs) : W6.heap[h]? = W5.heap[h]? := by
  subst hW
  rw [setRow_other _ _ _ _ hne, Below.heap_alloc _ _ _ (by simp; omega), Below.heap_alloc _ _ _ hlt]
theorem keep_conv (W6 W7 : World) (gt h : Nat) (v : Value) (s : ByteArray) (hlt : h < W6.heap.size) (hne : h ≠ gt) (hW : W7 = Lib.bytesWorld (W6.setCell ⟨gt, 256, none⟩ v) 5 s) : W7.heap[h]? = W6.heap[h]? := by
  subst hW
  rw [Lib.bytesWorld_at_old _ _ _ _ (by simp [World.setCell]; omega), Below.heap_setCell _ _ _ _ hne]
theorem tab34 (u v : Value) : ((rows0.push u).setIfInBounds 256 v)[34]? = some (.slice none 0 0) := by
  rw [Array.getElem?_setIfInBounds, if_neg (by decide)]; kernel_rfl
def tabA (gs h c : Nat) : Array Value := ((rows0.push (.slice (some ⟨gs, 0, none⟩) 0 2)).setIfInBounds 256 (.slice (some ⟨gs, 0, none⟩) 1 2)).setIfInBounds 34 (.slice (some ⟨h, 0, none⟩) 2 c)
theorem tabA_at (gs h c : Nat) : (tabA gs h c)[92]? = some (.slice none 0 0) ∧ (tabA gs h c)[256]? = some (.slice (some ⟨gs, 0, none⟩) 1 2) := by
  unfold tabA
  constructor
  · rw [Array.getElem?_setIfInBounds, if_neg (by decide), Array.getElem?_setIfInBounds, if_neg (by decide)]; kernel_rfl
  · rw [Array.getElem?_setIfInBounds, if_neg (by decide), Array.getElem?_setIfInBounds, if_pos rfl, if_pos (by rw [Array.size_push, rows0_size]; decide)]
theorem tabB_at (gs h c : Nat) (v : Value) : ((tabA gs h c).setIfInBounds 256 v)[92]? = some (.slice none 0 0) := by
  rw [Array.getElem?_setIfInBounds, if_neg (by decide)]; exact (tabA_at gs h c).1
def tabF (gs h c h' c' : Nat) : Array Value := ((tabA gs h c).setIfInBounds 256 (.slice (some ⟨gs, 0, none⟩) 2 2)).setIfInBounds 92 (.slice (some ⟨h', 0, none⟩) 2 c')
/-- What 'build' leaves: a table whose rows at 34 and 92 are two bytes, whose other rows are nil. -/
def Tabled (B : Nat) (W : World) (g : Nat) : Prop := ∃ gs h c h' c', B ≤ g ∧ B ≤ gs ∧ B ≤ h ∧ B ≤ h' ∧ W.heap[g]? = some (.cells (tabF gs h c h' c') 145 (0, 0)) ∧ W.heap[gs]? = some (.cells #[.string (strOfNums [34]), .string (strOfNums [92])] 9 (0, 0)) ∧
  (∀ j, j < 2 → W.cell? ⟨h, j, none⟩ = some (.int .u8 (([92, 34] : List UInt8).getD j 0).toNat)) ∧ (∀ j, j < 2 → W.cell? ⟨h', j, none⟩ = some (.int .u8 (([92, 92] : List UInt8).getD j 0).toNat))
theorem tab256 (v : Value) : (rows0.push v)[256]? = some v := by rw [← rows0_size]; exact Array.getElem?_push_size
theorem wpList_convert_eq {ops : Array Oper} {rest : List Oper} {o : Oper} {a : Act} {Q : Exit → Act → World → Prop} {W : World} (hgd : o.guard = none) (x : Operand)
    (ho : o.op = .convert 9 24 x) (s : ByteArray) (hx : a.eval x = .string s)
    (h : ∀ (g c : Nat) (W' : World), g = W.heap.size → W' = Lib.bytesWorld W 5 s → wpList Tryz.prog ops Q rest (a.put o.dst (.slice (some ⟨g, 0, none⟩) s.size c)) W') : wpList Tryz.prog ops Q (o :: rest) a W := by
  refine wpList_plain hgd fun K hK => ?_
  have hr := Lib.run_convert_string_bytes (P := Tryz.prog) W 9 24 5 s Tryz.underlying9 Tryz.underlying24 Tryz.underlying5
  unfold Oper.wp execOp
  simp only [ho, Sem.run_bind, Sem.run_pure, Result.andThen_ok, hx, hr]
  exact hK _ _ (h _ _ _ rfl rfl)
theorem after_conv (w W W4 : World) (gs gt h : Nat) (tab old : Array Value) (v : Value) (s : ByteArray) (B : Below w.heap.size w W) (hgt : w.heap.size ≤ gt) (hne : gt ≠ gs) (h1 : W.heap[gt]? = some (.cells tab 145 (0, 0))) (h2 : W.heap[gs]? = some (.cells old 9 (0, 0)))
    (hh : h = (W.setCell ⟨gt, 256, none⟩ v).heap.size) (hW : W4 = Lib.bytesWorld (W.setCell ⟨gt, 256, none⟩ v) 5 s) :
    Below w.heap.size w W4 ∧ W4.heap[gt]? = some (.cells (tab.setIfInBounds 256 v) 145 (0, 0)) ∧ W4.heap[gs]? = some (.cells old 9 (0, 0)) ∧ (∀ j, j < s.size → W4.cell? ⟨h, j, none⟩ = some (.int .u8 ((s.data.toList.getD j 0).toNat : Int))) ∧ gt ≠ h ∧ gs ≠ h ∧ w.heap.size ≤ h := by
  subst hW hh
  have e1 : gt < W.heap.size := blk_lt h1
  have e2 : gs < W.heap.size := blk_lt h2
  have e3 : (W.setCell ⟨gt, 256, none⟩ v).heap.size = W.heap.size := by simp [World.setCell]
  refine ⟨bytes_below1 (below_set B hgt) _ _, blk_bytes (blk_put h1 256 v rfl) _ _, blk_bytes (blk_far h2 (fun h => hne h.symm) v) _ _, fun j hj => Lib.bytesWorld_cell _ _ _ _ hj, by omega, by omega, by have := B.size; omega⟩
theorem guard_nil {op : BinOp} {x y : Operand} (A : Option Addr) (n c : Nat) (W : World) : (eqGuard op 24 x y (.slice A n c) (.slice none 0 0)).run Tryz.prog W = .ok () W := by
  unfold eqGuard
  cases op <;> rfl
theorem eql_nil (A : Option Addr) (n c : Nat) (W : World) : (binOp .eql 24 (.slice A n c) (.slice none 0 0)).run Tryz.prog W = .ok (.bool A.isNone) W := by
  simp only [binOp]
  simp [run_equal_slice_nil W _ _ A n c Tryz.underlying24]
set_option maxRecDepth 100000 in
set_option maxHeartbeats 4000000 in
theorem build_calls (w : World) (b bo co : Nat)
    (hR : w.cell? ⟨b, 4, none⟩ = some (.slice (some ⟨bo, 0, none⟩) 4 co))
    (h0 : w.cell? ⟨bo, 0, none⟩ = some (.string ⟨#[92]⟩)) (h1 : w.cell? ⟨bo, 1, none⟩ = some (.string ⟨#[92, 92]⟩)) (h2 : w.cell? ⟨bo, 2, none⟩ = some (.string ⟨#[34]⟩)) (h3 : w.cell? ⟨bo, 3, none⟩ = some (.string ⟨#[92, 34]⟩)) :
    Calls Tryz.prog 78 #[.pointer (some ⟨b, 0, none⟩)] w fun e w' => Below w.heap.size w w' ∧ ∃ g, e = .returned (.iface 146 (.pointer (some ⟨g, 0, none⟩))) ∧ Tabled w.heap.size w' g := by
  have hmk := make_two w
  have hbd := build_tab (w.alloc (.cells #[.string ⟨#[]⟩, .string ⟨#[]⟩] 9)) (.slice (some ⟨w.heap.size, 0, none⟩) 0 2) rfl _ _ _ rfl
  have hzv := (zero_of_info zero_tab).1 (w.alloc (.cells #[.string ⟨#[]⟩, .string ⟨#[]⟩] 9))
  have hst := store_tab (w.alloc (.cells #[.string ⟨#[]⟩, .string ⟨#[]⟩] 9)) (w.heap.size + 1) (by simp) (.slice (some ⟨w.heap.size, 0, none⟩) 0 2) rfl
  go_enter Tryz.func78, Tryz.ntmps78
  go_wp2
  refine wp_loop_rounds 4 ?_
  rw [rounds_succ]; go_wp2
  rw [rounds_succ]; go_wp2
  rw [rounds_succ]; go_wp2
  rw [hst]
  obtain ⟨W2, hW2⟩ : ∃ W, W = (w.alloc (.cells #[.string ⟨#[]⟩, .string ⟨#[]⟩] 9)).alloc (.cells (rows0.push (.slice (some ⟨w.heap.size, 0, none⟩) 0 2)) 145) := ⟨_, rfl⟩
  rw [← hW2]
  have B2 : Below w.heap.size w W2 := by rw [hW2]; exact below_alloc (below_alloc (Below.refl _ _) _) _
  have gs2 : W2.heap[w.heap.size]? = some (.cells #[.string ⟨#[]⟩, .string ⟨#[]⟩] 9 (0, 0)) := by rw [hW2]; exact blk_alloc (blk_new _ _) _
  have gt2 : W2.heap[w.heap.size + 1]? = some (.cells (rows0.push (.slice (some ⟨w.heap.size, 0, none⟩) 0 2)) 145 (0, 0)) := by
    rw [hW2]; have := blk_new (w.alloc (.cells #[.string ⟨#[]⟩, .string ⟨#[]⟩] 9)) (.cells (rows0.push (.slice (some ⟨w.heap.size, 0, none⟩) 0 2)) 145); simpa using this
  clear hW2 hst hbd hzv hmk
  obtain ⟨gs, hgs0⟩ : ∃ g, g = w.heap.size := ⟨_, rfl⟩
  obtain ⟨gt, hgt0⟩ : ∃ g, g = w.heap.size + 1 := ⟨_, rfl⟩
  rw [← hgt0] at gt2 ⊢
  rw [← hgs0] at gt2 gs2
  have hgt := Aside0.mk hgt0
  have hgs := Aside0.mk hgs0
  clear hgt0 hgs0
  have e34 : (⟨#[34]⟩ : ByteArray)[0].toNat = 34 := rfl
  have e92 : (⟨#[92]⟩ : ByteArray)[0].toNat = 92 := rfl
  have k0 := pw_cell_below B2 h0
  have k1 := pw_cell_below B2 h1
  have k2 := pw_cell_below B2 h2
  have k3 := pw_cell_below B2 h3
  have hle := Aside0.mk (show w.heap.size ≤ gs from Nat.le_of_eq hgs.out.symm)
  have hlt := Aside0.mk (show w.heap.size ≤ gt from by have := hgt.out; omega)
  have hne := Aside0.mk (show gt ≠ gs from fun h => by have := hgs.out; have := hgt.out; omega)
  have c34 := blk_cell gt2 34
  rw [show (rows0.push (.slice (some ⟨gs, 0, none⟩) 0 2))[34]? = some (.slice none 0 0) from by kernel_rfl] at c34
  have c256 := blk_cell gt2 256
  rw [show (rows0.push (.slice (some ⟨gs, 0, none⟩) 0 2))[256]? = some (.slice (some ⟨gs, 0, none⟩) 0 2) from tab256 _] at c256
  have hgd := fun (op : BinOp) (x y : Operand) A n c W => guard_nil (op := op) (x := x) (y := y) A n c W
  have heq := fun A n c W => eql_nil A n c W
  have hcv := conv_one W2 34
  have hap := app_one (W2.alloc (.cells #[.int .u8 34] 5)) gs 0 #[.string ⟨#[]⟩, .string ⟨#[]⟩] (blk_alloc gs2 _) rfl (by omega) (strOfNums [34]) (W2.heap.size + 1) (by simp)
  go_wp2
  refine wp_loop_rounds 3 ?_
  -- have hcs := fun W (s : ByteArray) => Lib.run_convert_string_bytes (P := Tryz.prog) W 9 24 5 s Tryz.underlying9 Tryz.underlying24 Tryz.underlying5
  rw [rounds_succ]
  go_wp2_with (first | ((with_reducible refine gate_dst (N := 128) rfl ?_); refine wpList_convert_eq rfl _ rfl ⟨#[92, 34]⟩ rfl ?_; intro h34 c34 W4 hh hW4; obtain ⟨B4_, gt4_, gs4_, hc34_, hn1_, hn2_, hn3_⟩ := after_conv w W3 W4 gs gt h34 _ _ _ _ B3.out hlt.out hne.out gt3.out gs3.out hh hW4; have B4 := Aside0.mk B4_; have gt4 := Aside0.mk gt4_; have gs4 := Aside0.mk gs4_; have hc34 := Aside0.mk hc34_; have hn1 := Aside0.mk hn1_; have hn2 := Aside0.mk hn2_; have hn3 := Aside0.mk hn3_; clear B4_ gt4_ gs4_ hc34_ hn1_ hn2_ hn3_ hh hW4 f1 f2 B3 gt3 gs3; have f1 := blk_cell gt4.out 34; rw [tab34] at f1; have f2 := blk_frozen gt4.out 34) | ((with_reducible refine gate_dst (N := 124) rfl ?_); refine wpList_append_eq rfl _ _ 61 rfl (.slice (some ⟨gs, 0, none⟩) 0 2) (.slice (some ⟨W2.heap.size + 1, 0, none⟩) 1 1) _ rfl rfl hap ?_; intro W3 hW3; obtain ⟨B3_, gt3_, gs3_⟩ := after_app w W2 W3 gs gt _ _ _ _ _ B2 hle.out hne.out gt2 gs2 hW3; have B3 := Aside0.mk B3_; have gt3 := Aside0.mk gt3_; have gs3 := Aside0.mk gs3_; clear B3_ gt3_ gs3_ hW3 hap hcv B2 gt2 gs2 c34 c256 k0 k1 k2 k3; have f1 := blk_cell gt3.out 256; rw [tab256] at f1; have f2 := blk_frozen gt3.out 256))
  obtain ⟨W5, hW5⟩ : ∃ W, W = W4.setCell ⟨gt, 34, none⟩ (.slice (some ⟨h34, 0, none⟩) 2 c34) := ⟨_, rfl⟩
  rw [← hW5]
  have B5 : Below w.heap.size w W5 := by rw [hW5]; exact below_set B4.out hlt.out
  have gt5 : W5.heap[gt]? = some (.cells (tabA gs h34 c34) 145 (0, 0)) := by rw [hW5]; exact blk_put gt4.out 34 _ rfl
  have gs5 : W5.heap[gs]? = some (.cells #[.string (strOfNums [34]), .string ⟨#[]⟩] 9 (0, 0)) := by rw [hW5]; exact blk_far gs4.out (fun h => hne.out h.symm) _
  have p34 : Aside0 (∀ j, j < 2 → W5.cell? ⟨h34, j, none⟩ = some (.int .u8 (([92, 34] : List UInt8).getD j 0).toNat)) := Aside0.mk (fun j hj => by rw [hW5, World.cell?_setCell_other _ _ _ _ (fun h => hn1.out (congrArg Addr.block h))]; exact hc34.out j hj)
  have z34 : Aside0 (h34 < W5.heap.size) := Aside0.mk (by have := World.block_lt_of_cell? W5 _ (p34.out 0 (by omega)); exact this)
  have hn4 : Aside0 (h34 ≠ gt) := Aside0.mk (fun h => hn1.out h.symm)
  have hn6 : Aside0 (h34 ≠ gs) := Aside0.mk (fun h => hn2.out h.symm)
  clear hW5 f1 f2 B4 gt4 gs4 hc34 hn1 hn2
  have k0 := pw_cell_below B5 h0
  have k1 := pw_cell_below B5 h1
  have k2 := pw_cell_below B5 h2
  have k3 := pw_cell_below B5 h3
  have y92 := blk_cell gt5 92
  rw [(tabA_at gs h34 c34).1] at y92
  have y256 := blk_cell gt5 256
  rw [(tabA_at gs h34 c34).2] at y256
  have hcv := conv_one W5 92
  have hap := app_one (W5.alloc (.cells #[.int .u8 92] 5)) gs 1 #[.string (strOfNums [34]), .string ⟨#[]⟩] (blk_alloc gs5 _) rfl (by omega) (strOfNums [92]) (W5.heap.size + 1) (by simp)
  rw [rounds_succ]
  go_wp2_with (first | ((with_reducible refine gate_dst (N := 128) rfl ?_); refine wpList_convert_eq rfl _ rfl ⟨#[92, 92]⟩ rfl ?_; intro h92 c92 W7 hh hW7; obtain ⟨B7_, gt7_, gs7_, hc7_, hn1_, hn2_, hn3_⟩ := after_conv w W6 W7 gs gt h92 _ _ _ _ B6.out hlt.out hne.out gt6.out gs6.out hh hW7; have e7_ := keep_conv W6 W7 gt h34 _ _ z34.out hn4.out hW7; have q34_ : ∀ j, j < 2 → W7.cell? ⟨h34, j, none⟩ = some (.int .u8 (([92, 34] : List UInt8).getD j 0).toNat) := fun j hj => (World.cell?_of_block (w := W6) e7_).trans (p34.out j hj); have z7_ : h34 ≠ h92 := fun e => (by have := z34.out; rw [e, hh] at this; simp [World.setCell] at this); have B7 := Aside0.mk B7_; have gt7 := Aside0.mk gt7_; have gs7 := Aside0.mk gs7_; have hc7 := Aside0.mk hc7_; have hn1 := Aside0.mk hn1_; have hn2 := Aside0.mk hn2_; have hn5 := Aside0.mk hn3_; have q34 := Aside0.mk q34_; have z7 := Aside0.mk z7_; clear e7_ z7_ p34 z34 B7_ gt7_ gs7_ hc7_ hn1_ hn2_ hn3_ q34_ hh hW7 f1 f2 B6 gt6 gs6; have f1 := blk_cell gt7.out 92; rw [tabB_at] at f1; have f2 := blk_frozen gt7.out 92) | ((with_reducible refine gate_dst (N := 124) rfl ?_); refine wpList_append_eq rfl _ _ 61 rfl (.slice (some ⟨gs, 0, none⟩) 1 2) (.slice (some ⟨W5.heap.size + 1, 0, none⟩) 1 1) _ rfl rfl hap ?_; intro W6 hW6; obtain ⟨B6_, gt6_, gs6_⟩ := after_app w W5 W6 gs gt _ _ _ _ _ B5 hle.out hne.out gt5 gs5 hW6; have e6_ := keep_app W5 W6 gs h34 _ _ _ z34.out hn6.out hW6; have p6_ : ∀ j, j < 2 → W6.cell? ⟨h34, j, none⟩ = some (.int .u8 (([92, 34] : List UInt8).getD j 0).toNat) := fun j hj => (World.cell?_of_block (w := W5) e6_).trans (p34.out j hj); have z6_ : h34 < W6.heap.size := (by rw [hW6]; simp; have := z34.out; omega); clear p34 z34; have p34 := Aside0.mk p6_; have z34 := Aside0.mk z6_; clear p6_ z6_ e6_; have B6 := Aside0.mk B6_; have gt6 := Aside0.mk gt6_; have gs6 := Aside0.mk gs6_; clear B6_ gt6_ gs6_ hW6 hap hcv B5 gt5 gs5 y92 y256 k0 k1 k2 k3; have f1 := blk_cell gt6.out 256; rw [(tabA_at gs h34 c34).2] at f1; have f2 := blk_frozen gt6.out 256))
  obtain ⟨W8, hW8⟩ : ∃ W, W = W7.setCell ⟨gt, 92, none⟩ (.slice (some ⟨h92, 0, none⟩) 2 c92) := ⟨_, rfl⟩
  rw [← hW8]
  have B8 : Below w.heap.size w W8 := by rw [hW8]; exact below_set B7.out hlt.out
  have gt8 : W8.heap[gt]? = some (.cells (tabF gs h34 c34 h92 c92) 145 (0, 0)) := by rw [hW8]; exact blk_put gt7.out 92 _ rfl
  have gs8 : W8.heap[gs]? = some (.cells #[.string (strOfNums [34]), .string (strOfNums [92])] 9 (0, 0)) := by rw [hW8]; exact blk_far gs7.out (fun h => hne.out h.symm) _
  have r34 : ∀ j, j < 2 → W8.cell? ⟨h34, j, none⟩ = some (.int .u8 (([92, 34] : List UInt8).getD j 0).toNat) := fun j hj => by rw [hW8, World.cell?_setCell_other _ _ _ _ (fun h => hn4.out (congrArg Addr.block h).symm)]; exact q34.out j hj
  have r92 : ∀ j, j < 2 → W8.cell? ⟨h92, j, none⟩ = some (.int .u8 (([92, 92] : List UInt8).getD j 0).toNat) := fun j hj => by rw [hW8, World.cell?_setCell_other _ _ _ _ (fun h => hn1.out (congrArg Addr.block h))]; exact hc7.out j hj
  have T : Tabled w.heap.size W8 gt := ⟨gs, h34, c34, h92, c92, hlt.out, hle.out, hn3.out, hn5.out, gt8, gs8, r34, r92⟩
  have HT := Aside0.mk T
  have HB := Aside0.mk B8
  clear hW8 f1 f2 B7 gt7 gs7 hc7 T B8 gt8 gs8 r34 r92 hn1 hn2
  rw [rounds_succ]
  go_wp2
  go_ret
  exact ⟨HB.out, gt, rfl, HT.out⟩
end Go.Proofs.YtifgpigicgaadaaGreatDoor.Hand
end
section
/- The Replacer's table is laid once: buildOnce, doSlow, Do, over this program. -/
set_option linter.unusedSimpArgs false
set_option linter.unusedVariables false
namespace Go.Proofs.YtifgpigicgaadaaGreatDoor.Hand
open Go.RowKit Go.Proofs.YtifgpigicgaadaaGreatDoorW.PrintWords Go.Proofs.YtifgpigicgaadaaGreatDoorW.PrintLast Go.Proofs.YtifgpigicgaadaaGreatDoorH
/-- The Replacer's own block. -/
def repCells (d m : Int) (r o : Value) : Array Value := #[.int .u32 d, .int .i32 m, .int .u32 0, r, o]
theorem Tabled.keep {B : Nat} {W W' : World} {g : Nat} (h : Tabled B W g) (hb : ∀ k, B ≤ k → k < W.heap.size → W'.heap[k]? = W.heap[k]?) : Tabled B W' g := by
  obtain ⟨gs, h1, c1, h2, c2, q0, q1, q2, q3, q4, q5, q6, q7⟩ := h
  refine ⟨gs, h1, c1, h2, c2, q0, q1, q2, q3, (hb _ q0 (blk_lt q4)).trans q4, (hb _ q1 (blk_lt q5)).trans q5, fun j hj => ?_, fun j hj => ?_⟩
  · have := World.cell?_of_block (w := W) (a := ⟨h1, j, none⟩) (hb _ q2 (World.block_lt_of_cell? W _ (q6 j hj)))
    exact this.trans (q6 j hj)
  · have := World.cell?_of_block (w := W) (a := ⟨h2, j, none⟩) (hb _ q3 (World.block_lt_of_cell? W _ (q7 j hj)))
    exact this.trans (q7 j hj)
set_option maxRecDepth 100000 in
set_option maxHeartbeats 4000000 in
theorem buildOnce_calls (w : World) (b bo co : Nat) (d m : Int)
    (hb : w.heap[b]? = some (.cells (repCells d m .nilIface (.slice (some ⟨bo, 0, none⟩) 4 co)) 84 (0, 0)))
    (h0 : w.cell? ⟨bo, 0, none⟩ = some (.string ⟨#[92]⟩)) (h1 : w.cell? ⟨bo, 1, none⟩ = some (.string ⟨#[92, 92]⟩)) (h2 : w.cell? ⟨bo, 2, none⟩ = some (.string ⟨#[34]⟩)) (h3 : w.cell? ⟨bo, 3, none⟩ = some (.string ⟨#[92, 34]⟩)) :
    Calls Tryz.prog 51 #[.pointer (some ⟨b, 0, none⟩)] w fun e w' => e = .returned (.tuple #[]) ∧ ∃ g W, Below w.heap.size w W ∧ Tabled w.heap.size W g ∧ w' = (W.setCell ⟨b, 3, none⟩ (.iface 146 (.pointer (some ⟨g, 0, none⟩)))).setCell ⟨b, 4, none⟩ (.slice none 0 0) := by
  have hR := blk_cell hb 4
  rw [show (repCells d m .nilIface (.slice (some ⟨bo, 0, none⟩) 4 co))[4]? = some (.slice (some ⟨bo, 0, none⟩) 4 co) from rfl] at hR
  have HB := Aside0.mk hb
  clear hb
  go_enter Tryz.func51, Tryz.ntmps51
  go_wp2_with (go_at_call 78; refine (build_calls _ b bo co hR h0 h1 h2 h3).mono ?_; rintro e w1 ⟨B1_, g, rfl, T1_⟩; have B1 := Aside0.mk B1_; have T1 := Aside0.mk T1_; have b1 := Aside0.mk (blk_below HB.out B1_); clear B1_ T1_; have f3 := blk_cell b1.out 3; have f4 := blk_cell b1.out 4; have z3 := blk_frozen b1.out 3; have z4 := blk_frozen b1.out 4; rw [show (repCells d m .nilIface (.slice (some ⟨bo, 0, none⟩) 4 co))[3]? = some .nilIface from rfl] at f3; rw [show (repCells d m .nilIface (.slice (some ⟨bo, 0, none⟩) 4 co))[4]? = some (.slice (some ⟨bo, 0, none⟩) 4 co) from rfl] at f4)
  go_end0
  exact ⟨rfl, g, w1, B1.out, T1.out, rfl⟩
set_option maxRecDepth 100000 in
set_option maxHeartbeats 4000000 in
theorem slow_calls (w : World) (b bo co B : Nat) (hBb : B ≤ b)
    (hb : w.heap[b]? = some (.cells (repCells 0 0 .nilIface (.slice (some ⟨bo, 0, none⟩) 4 co)) 84 (0, 0))) (hbo : bo ≠ b)
    (h0 : w.cell? ⟨bo, 0, none⟩ = some (.string ⟨#[92]⟩)) (h1 : w.cell? ⟨bo, 1, none⟩ = some (.string ⟨#[92, 92]⟩)) (h2 : w.cell? ⟨bo, 2, none⟩ = some (.string ⟨#[34]⟩)) (h3 : w.cell? ⟨bo, 3, none⟩ = some (.string ⟨#[92, 34]⟩)) :
    Calls Tryz.prog 77 #[.pointer (some ⟨b, 0, none⟩), .func (.func 51) #[.pointer (some ⟨b, 0, none⟩)] #[]] w fun e w' => e = .returned (.tuple #[]) ∧ Below B w w' ∧ ∃ g, w'.heap[b]? = some (.cells (repCells 1 0 (.iface 146 (.pointer (some ⟨g, 0, none⟩))) (.slice none 0 0)) 84 (0, 0)) ∧ Tabled w.heap.size w' g := by
  have HW := Aside0.mk hb
  have hl0 := blk_cell hb 1
  rw [show (repCells 0 0 .nilIface (.slice (some ⟨bo, 0, none⟩) 4 co))[1]? = some (.int .i32 0) from rfl] at hl0
  have hz0 := blk_frozen hb 1
  obtain ⟨w1, hw1⟩ : ∃ W, W = w.setCell ⟨b, 1, none⟩ (.int .i32 1) := ⟨_, rfl⟩
  have hb1 : w1.heap[b]? = some (.cells (repCells 0 1 .nilIface (.slice (some ⟨bo, 0, none⟩) 4 co)) 84 (0, 0)) := by rw [hw1]; exact blk_put hb 1 _ rfl
  have other : ∀ j v, w.cell? ⟨bo, j, none⟩ = some v → w1.cell? ⟨bo, j, none⟩ = some v := fun j v h => by rw [hw1, World.cell?_setCell_other _ _ _ _ (fun h => hbo (congrArg Addr.block h).symm)]; exact h
  have k0 := other _ _ h0
  have k1 := other _ _ h1
  have k2 := other _ _ h2
  have k3 := other _ _ h3
  have hd := blk_cell hb1 0
  rw [show (repCells 0 1 .nilIface (.slice (some ⟨bo, 0, none⟩) 4 co))[0]? = some (.int .u32 0) from rfl] at hd
  have hload := run_call_load (P := Tryz.prog) Tryz.func92 (by kernel_rfl) (by kernel_rfl) (by kernel_rfl) .u32 (by kernel_rfl) (w := w1) (a := ⟨b, 0, none⟩) (x := 0) hd
  have hnot : ∀ (x : Bool) (w : World), (Op.unary .not (.bool x)).run Tryz.prog w = .ok (.bool (!x)) w := fun _ _ => rfl
  have HB1 := Aside0.mk hb1
  have HW1 := Aside0.mk hw1
  clear hb other h0 h1 h2 h3 hw1 hb1
  go_enter_defers Tryz.func77, Tryz.ntmps77
  go_wp2_with (first | (go_at_call 93; refine (lock_free ⟨b, 1, none⟩ _ hl0 hz0).mono ?_; rintro e w' ⟨rfl, rfl⟩; rw [← HW1.out]) | (go_at_call 51; refine (buildOnce_calls _ b bo co 0 1 HB1.out k0 k1 k2 k3).mono ?_; rintro e w' ⟨rfl, g, W2, B2_, T2_, rfl⟩; have B2 := Aside0.mk B2_; have T2 := Aside0.mk T2_; clear B2_ T2_) | (go_at_call 76; go_in))
  obtain ⟨W3, hW3⟩ : ∃ W, W = (W2.setCell ⟨b, 3, none⟩ (.iface 146 (.pointer (some ⟨g, 0, none⟩)))).setCell ⟨b, 4, none⟩ (.slice none 0 0) := ⟨_, rfl⟩
  rw [← hW3]
  have b2 := blk_below HB1.out B2.out
  have b3 : W3.heap[b]? = some (.cells (repCells 0 1 (.iface 146 (.pointer (some ⟨g, 0, none⟩))) (.slice none 0 0)) 84 (0, 0)) := by rw [hW3]; exact blk_put (blk_put b2 3 _ rfl) 4 _ rfl
  refine leaves_cons (f := 95) (args := #[.pointer (some ⟨b, 0, none⟩), .bool true]) (by simp) (by simp [go_sem]) ?_
  refine (store_deferred ⟨b, 0, none⟩ (.int .u32 0) .returning _ (blk_cell b3 0) (blk_frozen b3 0)).mono ?_
  rintro e u' w'' ⟨rfl, rfl, rfl⟩
  have b4 : (W3.drew.setCell ⟨b, 0, none⟩ (.int .u32 1)).heap[b]? = some (.cells (repCells 1 1 (.iface 146 (.pointer (some ⟨g, 0, none⟩))) (.slice none 0 0)) 84 (0, 0)) := blk_put (blk_drew b3) 0 _ rfl
  refine leaves_cons (f := 94) (args := #[.pointer (some ⟨b, 1, none⟩)]) (by simp [settle]) (by simp [go_sem]) ?_
  refine (unlock_deferred ⟨b, 1, none⟩ _ _ (blk_cell b4 1) (blk_frozen b4 1)).mono ?_
  rintro e u' w'' ⟨rfl, rfl, rfl⟩
  have hb0 := blk_lt HW.out
  have s1 : w1.heap.size = w.heap.size := by rw [HW1.out]; simp [World.setCell]
  have T3 : Tabled w.heap.size (((W3.drew.setCell ⟨b, 0, none⟩ (.int .u32 1))).setCell ⟨b, 1, none⟩ (.int .i32 0)) g := by
    have := T2.out
    rw [s1] at this
    refine this.keep fun k hk _ => ?_
    rw [Below.heap_setCell _ _ _ _ (by show k ≠ b; omega), Below.heap_setCell _ _ _ _ (by show k ≠ b; omega)]
    show W3.heap[k]? = _
    rw [hW3, Below.heap_setCell _ _ _ _ (by show k ≠ b; omega), Below.heap_setCell _ _ _ _ (by show k ≠ b; omega)]
  have F3 : Below B w (((W3.drew.setCell ⟨b, 0, none⟩ (.int .u32 1))).setCell ⟨b, 1, none⟩ (.int .i32 0)) := by
    refine Below.setCell (Below.setCell (Below.drew ?_) hBb _) hBb _
    rw [hW3]
    refine Below.setCell (Below.setCell ?_ hBb _) hBb _
    have q1 : Below B w w1 := by rw [HW1.out]; exact Below.setCell (Below.refl _ _) hBb _
    exact q1.trans (B2.out.mono (by omega))
  have D3 : ((W3.drew.setCell ⟨b, 0, none⟩ (.int .u32 1)).setCell ⟨b, 1, none⟩ (.int .i32 0)).heap[b]? = some (.cells (repCells 1 0 (.iface 146 (.pointer (some ⟨g, 0, none⟩))) (.slice none 0 0)) 84 (0, 0)) := blk_put b4 1 _ rfl
  obtain ⟨W9, hW9⟩ : ∃ W, W = (W3.drew.setCell ⟨b, 0, none⟩ (.int .u32 1)).setCell ⟨b, 1, none⟩ (.int .i32 0) := ⟨_, rfl⟩
  rw [← hW9] at D3 F3 T3 ⊢
  clear hW9
  simp only [Leaves, settle, results, Tryz.results77]
  simp
  exact ⟨F3, g, D3, T3⟩
set_option maxRecDepth 100000 in
set_option maxHeartbeats 4000000 in
theorem do_calls (w : World) (b bo co B : Nat) (hBb : B ≤ b)
    (hb : w.heap[b]? = some (.cells (repCells 0 0 .nilIface (.slice (some ⟨bo, 0, none⟩) 4 co)) 84 (0, 0))) (hbo : bo ≠ b)
    (h0 : w.cell? ⟨bo, 0, none⟩ = some (.string ⟨#[92]⟩)) (h1 : w.cell? ⟨bo, 1, none⟩ = some (.string ⟨#[92, 92]⟩)) (h2 : w.cell? ⟨bo, 2, none⟩ = some (.string ⟨#[34]⟩)) (h3 : w.cell? ⟨bo, 3, none⟩ = some (.string ⟨#[92, 34]⟩)) :
    Calls Tryz.prog 50 #[.pointer (some ⟨b, 0, none⟩), .func (.func 51) #[.pointer (some ⟨b, 0, none⟩)] #[]] w fun e w' => e = .returned (.tuple #[]) ∧ Below B w w' ∧ ∃ g, w'.heap[b]? = some (.cells (repCells 1 0 (.iface 146 (.pointer (some ⟨g, 0, none⟩))) (.slice none 0 0)) 84 (0, 0)) ∧ Tabled w.heap.size w' g := by
  have hd := blk_cell hb 0
  rw [show (repCells 0 0 .nilIface (.slice (some ⟨bo, 0, none⟩) 4 co))[0]? = some (.int .u32 0) from rfl] at hd
  have hload := run_call_load (P := Tryz.prog) Tryz.func92 (by kernel_rfl) (by kernel_rfl) (by kernel_rfl) .u32 (by kernel_rfl) (w := w) (a := ⟨b, 0, none⟩) (x := 0) hd
  have hnot : ∀ (x : Bool) (w : World), (Op.unary .not (.bool x)).run Tryz.prog w = .ok (.bool (!x)) w := fun _ _ => rfl
  have HW := Aside0.mk hb
  clear hb
  go_enter Tryz.func50, Tryz.ntmps50
  go_wp2_with (first | (go_at_call 77; refine (slow_calls w b bo co B hBb HW.out hbo h0 h1 h2 h3).mono ?_; rintro e w' ⟨rfl, F_⟩; have F := Aside0.mk F_; clear F_) | (go_at_call 76; go_in))
  go_end0
  exact ⟨rfl, F.out⟩
end Go.Proofs.YtifgpigicgaadaaGreatDoor.Hand
end
section
/- (*strings.byteStringReplacer).Replace, over the table that build leaves. -/
set_option linter.unusedSimpArgs false
set_option linter.unusedVariables false
namespace Go.Proofs.YtifgpigicgaadaaGreatDoor.Hand
open Go.RowKit Go.Proofs.YtifgpigicgaadaaGreatDoorW.PrintWords Go.Proofs.YtifgpigicgaadaaGreatDoorW.PrintLast Go.Proofs.YtifgpigicgaadaaGreatDoorH

/-! ## What is written -/
def spec (x : Int) : Bool := x == 34 || x == 92
def escB (x : Int) : List Int := if x = 34 then [92, 34] else if x = 92 then [92, 92] else [x]
def esc (l : List Int) : List Int := l.flatMap escB
def cnt (l : List Int) : Nat := l.countP spec
theorem esc_length (l : List Int) : (esc l).length = l.length + cnt l := by
  induction l with
  | nil => rfl
  | cons x t ih =>
    unfold esc cnt at *
    rw [List.flatMap_cons, List.length_append, ih, List.countP_cons, List.length_cons]
    unfold escB spec
    by_cases h : x = 34
    · simp [h]; omega
    · by_cases h2 : x = 92
      · simp [h2]; omega
      · simp [h, h2]; omega
theorem esc_none (l : List Int) (h : cnt l = 0) : esc l = l := by
  induction l with
  | nil => rfl
  | cons x t ih =>
    unfold esc cnt at *
    rw [List.countP_cons] at h
    by_cases hx : spec x = true
    · rw [if_pos hx] at h; omega
    · have hx' : ¬ x = 34 ∧ ¬ x = 92 := by unfold spec at hx; simp at hx; exact hx
      rw [List.flatMap_cons, ih (by omega)]
      unfold escB
      rw [if_neg hx'.1, if_neg hx'.2]; rfl
theorem cnt_le (l : List Int) : cnt l ≤ l.length := List.countP_le_length
theorem cnt_count (s : ByteArray) : (Lib.countByte s.data.toList 34 : Int) + (Lib.countByte s.data.toList 92 : Int) = cnt (bytesOf s) := by
  unfold bytesOf Lib.countByte cnt
  generalize s.data.toList = l
  induction l with
  | nil => rfl
  | cons b t ih =>
    rw [List.map_cons, List.countP_cons, List.count_cons, List.count_cons]
    have e1 : spec (b.toNat : Int) = (b == 34 || b == 92) := by
      unfold spec
      rw [Bool.eq_iff_iff]
      simp [← UInt8.toNat_inj]
      omega
    rw [e1]
    generalize (t.map fun b => (b.toNat : Int)).countP spec = q at ih ⊢
    by_cases h1 : b = 34
    · subst h1; simp; omega
    · by_cases h2 : b = 92
      · subst h2; simp; omega
      · have g1 : (b == 34) = false := by simpa using h1
        have g2 : (b == 92) = false := by simpa using h2
        simp [g1, g2]; omega

set_option maxHeartbeats 1000000 in
set_option maxRecDepth 100000 in
theorem count_calls (s : ByteArray) (c : UInt8) (w : World) :
    Calls Tryz.prog 164 #[.string s, .string ⟨#[c]⟩] w fun e w' => e = .returned (.int .i64 (Lib.countByte s.data.toList c)) ∧ w' = w := by
  go_enter Tryz.func164, Tryz.ntmps164
  go_wp2
  rw [run_callFunc_extern Tryz.func166 (by kernel_rfl) (by kernel_rfl) (by kernel_rfl) (e := Extern.BytealgCount.count) (by kernel_rfl), Lib.run_countString]
  simp only [Result.andThen]
  rw [Oper.upon_value]
  go_wp2
  go_ret
  exact ⟨rfl, rfl⟩
theorem sum2 (a b n c : Nat) (h : (a : Int) + b = c) (hc : c ≤ n) (hn : n ≤ 140737488351232) : wrap64 (wrap64 ((n : Int) + wrap64 (a : Int)) + wrap64 (b : Int)) = ((n + c : Nat) : Int) := by unfold wrap64; omega
theorem sum1 (a b n c : Nat) (h : (a : Int) + b = c) (hc : c ≤ n) (hn : n ≤ 140737488351232) (h0 : b = 0) : wrap64 ((n : Int) + wrap64 (a : Int)) = ((n + c : Nat) : Int) := by unfold wrap64; omega
theorem sum1' (a b n c : Nat) (h : (a : Int) + b = c) (hc : c ≤ n) (hn : n ≤ 140737488351232) (h0 : a = 0) : wrap64 ((n : Int) + wrap64 (b : Int)) = ((n + c : Nat) : Int) := by unfold wrap64; omega
theorem sum0 (a b n c : Nat) (h : (a : Int) + b = c) (h0 : a = 0) (h1 : b = 0) : (n : Int) = ((n + c : Nat) : Int) := by omega
theorem pos2 (a b c : Nat) (h : (a : Int) + b = c) (h0 : a ≠ 0 ∨ b ≠ 0) : 0 < c := by omega
theorem pos0 (a b c : Nat) (h : (a : Int) + b = c) (h0 : a = 0) (h1 : b = 0) : ¬ 0 < c := by omega
theorem hit1 (n c c' : Nat) (h : c' = c + 1) (hn : n ≤ 140737488351232) (hc : c ≤ n) : wrap64 ((n : Int) + (c : Int) + 1) = ((n + c' : Nat) : Int) := by unfold wrap64; omega
theorem str_self (s : ByteArray) : strOfNums (bytesOf s) = s := by
  unfold strOfNums bytesOf
  rw [List.map_map]
  have : (fun n : Int => UInt8.ofNat n.toNat) ∘ (fun b : UInt8 => (b.toNat : Int)) = id := by funext b; simp
  rw [this, List.map_id]
def bufL (xs : List Int) (N : Nat) : List Value := xs.map (Value.int .u8) ++ List.replicate (N - xs.length) (.int .u8 0)
theorem make_bytes (W : World) (N : Nat) (h : N ≤ 281474976710656) : (Instr.makeSlice 24 (.int .i64 (N : Int)) (.int .i64 (N : Int))).run Tryz.prog W = .ok (.slice (some ⟨W.heap.size, 0, none⟩) N N) (W.alloc (.cells (bufL [] N).toArray 5)) := by
  have := run_make_row' (P := Tryz.prog) 24 5 (.int .u8 0) 1 Tryz.underlying24 (by kernel_rfl) rfl .i64 .i64 N (by omega) (by omega) W
  rw [this]
  have e : madeCells #[Value.int .u8 0] N = (bufL [] N).toArray := by
    apply Array.ext'
    unfold madeCells bufL
    apply List.ext_getElem
    · simp
    · intro i h1 h2
      simp [Nat.mod_one]
  rw [e]
theorem bytes_at' (s : ByteArray) (k : Nat) (h : k < s.size) : (bytesOf s)[k]'(by rw [bytesOf_length]; exact h) = ((s[k]'h).toNat : Int) := by
  unfold bytesOf
  rw [List.getElem_map, Array.getElem_toList]; rfl
theorem esc_succ (s : ByteArray) (k : Nat) (h : k < s.size) : esc ((bytesOf s).take (k + 1)) = esc ((bytesOf s).take k) ++ (if (s[k]'h).toNat = 34 then [92, 34] else if (s[k]'h).toNat = 92 then [92, 92] else [((s[k]'h).toNat : Int)]) := by
  unfold esc
  rw [List.take_succ_eq_append_getElem (by rw [bytesOf_length]; exact h), List.flatMap_append, List.flatMap_singleton, bytes_at' s k h]
  unfold escB
  congr 1
  by_cases h1 : (s[k]'h).toNat = 34
  · have : ((s[k]'h).toNat : Int) = 34 := by omega
    rw [if_pos h1, if_pos this]
  · by_cases h2 : (s[k]'h).toNat = 92
    · have h3 : ((s[k]'h).toNat : Int) = 92 := by omega
      rw [if_neg h1, if_pos h2, if_neg (by omega), if_pos h3]
    · rw [if_neg h1, if_neg h2, if_neg (by omega), if_neg (by omega)]
theorem esc_take_le (l : List Int) (k : Nat) : (esc (l.take k)).length ≤ (esc l).length := by
  conv => rhs; rw [← List.take_append_drop k l]
  unfold esc
  rw [List.flatMap_append, List.length_append]
  omega
theorem fits (s : ByteArray) (k : Nat) (h : k < s.size) (N : Nat) (hN : N = s.size + cnt (bytesOf s)) : (esc ((bytesOf s).take k)).length + (if (s[k]'h).toNat = 34 then [92, 34] else if (s[k]'h).toNat = 92 then [92, 92] else [((s[k]'h).toNat : Int)]).length ≤ N := by
  have e := congrArg List.length (esc_succ s k h)
  rw [List.length_append] at e
  have := esc_take_le (bytesOf s) (k + 1)
  have e2 := esc_length (bytesOf s)
  rw [bytesOf_length] at e2
  omega
theorem bufL_length (xs : List Int) (N : Nat) (h : xs.length ≤ N) : (bufL xs N).length = N := by
  unfold bufL
  rw [List.length_append, List.length_map, List.length_replicate]; omega
theorem bufL_next (xs : List Int) (N j : Nat) (hj : j = xs.length) (h : j < N) : (bufL xs N).toArray[j]? = some (.int .u8 0) := by
  subst hj
  rw [List.getElem?_toArray]
  unfold bufL
  rw [List.getElem?_append_right (by simp), List.length_map, Nat.sub_self, List.getElem?_replicate, if_pos (by omega)]
theorem bufL_put (xs : List Int) (N j : Nat) (x : Int) (hj : j = xs.length) (h : j < N) : (bufL xs N).toArray.setIfInBounds j (.int .u8 x) = (bufL (xs ++ [x]) N).toArray := by
  subst hj
  apply Array.ext'
  rw [Array.toList_setIfInBounds]
  show (bufL xs N).set xs.length _ = bufL (xs ++ [x]) N
  unfold bufL
  rw [List.set_append_right _ _ (by simp), List.length_map, Nat.sub_self, List.map_append, List.length_append]
  obtain ⟨m, hm⟩ : ∃ m, N - xs.length = m + 1 := ⟨N - xs.length - 1, by omega⟩
  rw [hm, List.replicate_succ, List.set_cons_zero, List.append_assoc]
  congr 1
  simp
  omega
theorem bufL_two (xs : List Int) (N j : Nat) (x y : Int) (hj : j = xs.length) (h : j + 2 ≤ N) : splice (bufL xs N) j [.int .u8 x, .int .u8 y] = bufL (xs ++ [x, y]) N := by
  subst hj
  have e1 : (xs.map (Value.int .u8) ++ List.replicate (N - xs.length) (Value.int .u8 0)).take xs.length = xs.map (Value.int .u8) := List.take_left' (by simp)
  have e2 : (xs.map (Value.int .u8) ++ List.replicate (N - xs.length) (Value.int .u8 0)).drop (xs.length + 2) = List.replicate (N - (xs.length + 2)) (Value.int .u8 0) := by
    rw [List.drop_append, List.drop_of_length_le (by simp), List.nil_append, List.length_map, List.drop_replicate]
    congr 1
    omega
  unfold splice bufL
  rw [e1, show ([Value.int .u8 x, Value.int .u8 y] : List Value).length = 2 from rfl, e2, List.map_append, List.append_assoc, List.length_append]
  rfl
theorem wrapj (j N : Nat) (h : j < N) (hN : N ≤ 281474976710656) : wrap64 ((j : Int) + 1) = ((j + 1 : Nat) : Int) := by unfold wrap64; omega
theorem wrapj2 (j N : Nat) (h : j < N) (hN : N ≤ 281474976710656) : wrap64 ((j : Int) + 2) = ((j + 2 : Nat) : Int) := by unfold wrap64; omega
theorem min2 (N j : Nat) (h : j + 2 ≤ N) : (2 : Nat) = Nat.min 2 (N - j) := by
  show 2 = min 2 (N - j); omega
theorem src2 (W : World) (h : Nat) (x y : Value) (r0 : W.cell? ⟨h, 0, none⟩ = some x) (r1 : W.cell? ⟨h, 1, none⟩ = some y) : ∀ (jj : Nat) v, ([x, y] : List Value)[jj]? = some v → W.cell? ((⟨h, 0, none⟩ : Addr).add jj) = some v := by
  intro jj v hv
  rw [add_plain]
  match jj, hv with
  | 0, hv => simp at hv; subst hv; exact r0
  | 1, hv => simp at hv; subst hv; exact r1
theorem one2 (x y : Int) : ∀ v ∈ ([.int .u8 x, .int .u8 y] : List Value), v.oneCell' = true := by
  intro v hv
  simp at hv
  rcases hv with rfl | rfl <;> rfl
theorem size1 : (Tryz.prog.info? 5).map (·.size) = some 1 := by kernel_rfl
theorem wrapj2' (j N : Nat) (h : j < N) (hN : N ≤ 281474976710656) : IntKind.i64.wrap ((j : Int) + 2) = ((j + 2 : Nat) : Int) := by rw [IntKind.wrap_i64]; omega
theorem conv_buf (W : World) (gb N : Nat) (xs : List Int) (hN : xs.length = N) (hb : W.heap[gb]? = some (.cells (bufL xs N).toArray 5 (0, 0))) : (convert 24 9 (.slice (some ⟨gb, 0, none⟩) N N)).run Tryz.prog W = .ok (.string (strOfNums xs)) W := by
  refine run_convert_bytes_arg (P := Tryz.prog) W 24 5 Tryz.underlying24 Tryz.underlying5 gb 0 N N xs hN (fun i hi => ?_) 9 Tryz.underlying9
  rw [Nat.zero_add, blk_cell hb i, List.getElem?_toArray]
  unfold bufL
  rw [List.getElem?_append_left (by simp; omega), List.getElem?_map, List.getElem?_eq_getElem (by omega)]
  simp [List.getD_eq_getElem?_getD, List.getElem?_eq_getElem (show i < xs.length by omega)]
theorem cnt_take (l : List Int) (k : Nat) : cnt (l.take k) ≤ l.length := Nat.le_trans (cnt_le _) (by rw [List.length_take]; omega)
theorem bytes_at (s : ByteArray) (k : Nat) (h : k < s.size) : (bytesOf s)[k]'(by rw [bytesOf_length]; exact h) = ((s[k]'h).toNat : Int) := by
  unfold bytesOf
  rw [List.getElem_map, Array.getElem_toList]; rfl
theorem cnt_succ (s : ByteArray) (k : Nat) (h : k < s.size) : cnt ((bytesOf s).take (k + 1)) = cnt ((bytesOf s).take k) + if (s[k]'h).toNat = 34 ∨ (s[k]'h).toNat = 92 then 1 else 0 := by
  unfold cnt
  rw [List.take_succ_eq_append_getElem (by rw [bytesOf_length]; exact h), List.countP_append, List.countP_singleton, bytes_at s k h]
  unfold spec
  congr 1
  by_cases h1 : (s[k]'h).toNat = 34
  · simp [h1]
  · by_cases h2 : (s[k]'h).toNat = 92
    · simp [h2]
    · have : ¬ ((s[k]'h).toNat : Int) = 34 ∧ ¬ ((s[k]'h).toNat : Int) = 92 := by omega
      simp [h1, h2, this.1, this.2]
theorem tabF_at (gs h c h' c' i : Nat) (hi : i < 256) : (tabF gs h c h' c')[i]? = some (if i = 92 then .slice (some ⟨h', 0, none⟩) 2 c' else if i = 34 then .slice (some ⟨h, 0, none⟩) 2 c else .slice none 0 0) := by
  unfold tabF tabA
  have z : (rows0.push (.slice (some ⟨gs, 0, none⟩) 0 2))[i]? = some (.slice none 0 0) := by
    rw [Array.getElem?_push, if_neg (by rw [rows0_size]; omega)]
    unfold rows0 nilS
    rw [Array.getElem?_replicate, if_pos hi]
  by_cases h1 : i = 92
  · subst h1
    rw [Array.getElem?_setIfInBounds, if_pos rfl, if_pos (by simp [rows0_size]), if_pos rfl]
  · rw [Array.getElem?_setIfInBounds, if_neg (fun x => h1 x.symm), Array.getElem?_setIfInBounds, if_neg (by omega), if_neg h1]
    by_cases h2 : i = 34
    · subst h2
      rw [Array.getElem?_setIfInBounds, if_pos rfl, if_pos (by simp [rows0_size]), if_pos rfl]
    · rw [Array.getElem?_setIfInBounds, if_neg (fun x => h2 x.symm), Array.getElem?_setIfInBounds, if_neg (by omega), if_neg h2, z]
theorem tabF_256 (gs h c h' c' : Nat) : (tabF gs h c h' c')[256]? = some (.slice (some ⟨gs, 0, none⟩) 2 2) := by
  unfold tabF tabA
  rw [Array.getElem?_setIfInBounds, if_neg (by decide), Array.getElem?_setIfInBounds, if_pos rfl, if_pos (by simp [rows0_size])]
set_option maxHeartbeats 4000000 in
set_option maxRecDepth 100000 in
theorem rep_calls (w : World) (B g : Nat) (hT : Tabled B w g) (s : ByteArray) (hs : s.size ≤ 140737488351232) :
    Calls Tryz.prog 162 #[.pointer (some ⟨g, 0, none⟩), .string s] w fun e w' => e = .returned (.string (strOfNums (esc (bytesOf s)))) ∧ Below w.heap.size w w' := by
  have HT := Aside0.mk hT
  obtain ⟨gs, h1, c1, h2, c2, _, _, _, _, hg, hgs, q1, q2⟩ := hT
  have f256 := blk_cell hg 256
  rw [tabF_256] at f256
  have f34 := blk_cell hg 34
  rw [tabF_at _ _ _ _ _ 34 (by omega), if_neg (by omega), if_pos rfl] at f34
  have f92 := blk_cell hg 92
  rw [tabF_at _ _ _ _ _ 92 (by omega), if_pos rfl] at f92
  have s0 : w.cell? ⟨gs, 0, none⟩ = some (.string ⟨#[34]⟩) := blk_cell hgs 0
  have s1 : w.cell? ⟨gs, 1, none⟩ = some (.string ⟨#[92]⟩) := blk_cell hgs 1
  have HG := Aside0.mk hg
  have Q1 := Aside0.mk q1
  have Q2 := Aside0.mk q2
  have e34 : (⟨#[34]⟩ : ByteArray)[0].toNat = 34 := rfl
  have e92 : (⟨#[92]⟩ : ByteArray)[0].toNat = 92 := rfl
  clear hg hgs q1 q2
  have ne0 : ∀ n : Nat, ((n : Int) != 0) = true → n ≠ 0 := fun n h => by simpa using h
  have eq0 : ∀ n : Nat, ((n : Int) != 0) = false → n = 0 := fun n h => by simpa using h
  have hcc := Aside0.mk (And.intro (cnt_count s) (And.intro (cnt_le (bytesOf s)) (bytesOf_length s)))
  go_enter Tryz.func162, Tryz.ntmps162
  go_upto_if 26 with (fail)
  go_cut [5, 6] (fun v5 v6 wc => v5 = .int .i64 ((s.size + cnt (bytesOf s) : Nat) : Int) ∧ v6 = .bool (decide (0 < cnt (bytesOf s))) ∧ Aside0 (Below w.heap.size w wc))
  case first =>
    go_wp2
    · refine wp_loop_rounds 3 ?_
      rw [rounds_succ]
      go_wp2_with (go_at_call 164; refine (count_calls s 34 _).mono ?_; rintro e w' ⟨rfl, hh⟩; obtain rfl := hh.symm)
      · go_quiet (fail)
        go_wp2
        rw [rounds_succ]
        go_wp2_with (go_at_call 164; refine (count_calls s 92 _).mono ?_; rintro e w' ⟨rfl, hh⟩; obtain rfl := hh.symm)
        · go_quiet (fail)
          go_wp2
          rw [rounds_succ]
          go_wp2
          go_meet
          have g := ne0 _ (by assumption)
          have cc := hcc.out
          exact ⟨congrArg (Value.int .i64) (sum2 _ _ _ _ cc.1 (by rw [← cc.2.2]; exact cc.2.1) hs), congrArg Value.bool (decide_eq_true (pos2 _ _ _ cc.1 (Or.inr g))).symm, ⟨by first | exact pw_below_drewN (Below.refl _ _) _ | exact Below.refl _ _⟩⟩
        · rw [rounds_succ]
          go_wp2
          go_meet
          have g := ne0 _ (by assumption)
          have g0 := eq0 _ (by assumption)
          have cc := hcc.out
          exact ⟨congrArg (Value.int .i64) (sum1 _ _ _ _ cc.1 (by rw [← cc.2.2]; exact cc.2.1) hs g0), congrArg Value.bool (decide_eq_true (pos2 _ _ _ cc.1 (Or.inl g))).symm, ⟨by first | exact pw_below_drewN (Below.refl _ _) _ | exact Below.refl _ _⟩⟩
      · rw [rounds_succ]
        go_wp2_with (go_at_call 164; refine (count_calls s 92 _).mono ?_; rintro e w' ⟨rfl, hh⟩; obtain rfl := hh.symm)
        · go_quiet (fail)
          go_wp2
          rw [rounds_succ]
          go_wp2
          go_meet
          have g := ne0 _ (by assumption)
          have g0 := eq0 _ (by assumption)
          have cc := hcc.out
          exact ⟨congrArg (Value.int .i64) (sum1' _ _ _ _ cc.1 (by rw [← cc.2.2]; exact cc.2.1) hs g0), congrArg Value.bool (decide_eq_true (pos2 _ _ _ cc.1 (Or.inr g))).symm, ⟨by first | exact pw_below_drewN (Below.refl _ _) _ | exact Below.refl _ _⟩⟩
        · rw [rounds_succ]
          go_wp2
          go_meet
          have g34 : Lib.countByte s.data.toList 34 = 0 := eq0 _ (by assumption)
          have g92 : Lib.countByte s.data.toList 92 = 0 := eq0 _ (by assumption)
          have cc := hcc.out
          exact ⟨congrArg (Value.int .i64) (sum0 _ _ _ _ cc.1 g34 g92), congrArg Value.bool (decide_eq_false (pos0 _ _ _ cc.1 g34 g92)).symm, ⟨Below.refl _ _⟩⟩
    · go_loop [5, 6, 10] (fun v5 v6 v10 => ∃ k : Nat, k ≤ s.size ∧ v10 = .int .i64 k ∧ v5 = .int .i64 ((s.size + cnt ((bytesOf s).take k) : Nat) : Int) ∧ v6 = .bool (decide (0 < cnt ((bytesOf s).take k)))) (fun _ _ i => s.size - (intOf i).toNat)
      case atStart => exact ⟨0, Nat.zero_le _, rfl, by simp [cnt], by simp [cnt]⟩
      case round =>
        obtain ⟨k, hk, rfl, rfl, rfl⟩ := hrel
        have hN := Aside0.mk (cnt_take (bytesOf s) k)
        by_cases hlt : k < s.size
        · have hb : ((s[k]'hlt).toNat : Int) < 256 := by have := (s[k]'hlt).toNat_lt; omega
          have hS := Aside0.mk (cnt_succ s k hlt)
          by_cases d34 : (s[k]'hlt).toNat = 34
          · go_wp2
            go_round
            case rel =>
              have e := hS.out
              rw [if_pos (Or.inl d34)] at e
              exact ⟨k + 1, by omega, congrArg (Value.int .i64) (by omega), congrArg (Value.int .i64) (hit1 _ _ _ e hs (by have := hN.out; rw [bytesOf_length] at this; exact this)), congrArg Value.bool (decide_eq_true (by omega)).symm⟩
            case measure => simp [intOf]; omega
          · by_cases d92 : (s[k]'hlt).toNat = 92
            · go_wp2
              go_round
              case rel =>
                have e := hS.out
                rw [if_pos (Or.inr d92)] at e
                exact ⟨k + 1, by omega, congrArg (Value.int .i64) (by omega), congrArg (Value.int .i64) (hit1 _ _ _ e hs (by have := hN.out; rw [bytesOf_length] at this; exact this)), congrArg Value.bool (decide_eq_true (by omega)).symm⟩
              case measure => simp [intOf]; omega
            · have hcell := blk_cell HG.out (s[k]'hlt).toNat
              rw [tabF_at _ _ _ _ _ _ (by have := (s[k]'hlt).toNat_lt; omega), if_neg d92, if_neg d34] at hcell
              go_wp2
              go_round
              case rel =>
                have e := hS.out
                rw [if_neg (fun h => h.elim d34 d92)] at e
                exact ⟨k + 1, by omega, congrArg (Value.int .i64) (by omega), congrArg (Value.int .i64) (by rw [e]; rfl), congrArg Value.bool (by rw [e]; rfl)⟩
              case measure => simp [intOf]; omega
        · go_wp2
          go_meet
          have hk2 : k = (bytesOf s).length := by rw [bytesOf_length]; omega
          rw [hk2, List.take_length]
          exact ⟨rfl, rfl, ⟨Below.refl _ _⟩⟩
  case rest =>
    obtain ⟨e5, rfl, hB⟩ := hcut
    obtain ⟨N, hNd0⟩ : ∃ N : Nat, N = s.size + cnt (bytesOf s) := ⟨_, rfl⟩
    rw [← hNd0] at e5
    subst e5
    have hNd := Aside0.mk hNd0
    clear hNd0
    by_cases h0 : cnt (bytesOf s) = 0
    · have hd : decide (0 < cnt (bytesOf s)) = false := decide_eq_false (by omega)
      go_wp2
      go_ret
      refine ⟨congrArg _ ?_, hB.out⟩
      rw [esc_none _ h0, str_self]
      rfl
    · have hd : decide (0 < cnt (bytesOf s)) = true := decide_eq_true (by omega)
      rw [hd]
      clear hd
      have hN48 : Aside0 (N ≤ 281474976710656) := ⟨by have := hNd.out; have := hcc.out.2.1; rw [bytesOf_length] at this; omega⟩
      have hmk := make_bytes wc N (by have := hNd.out; have := hcc.out.2.1; rw [bytesOf_length] at this; omega)
      have hbn0 : (wc.alloc (.cells (bufL [] N).toArray 5)).heap[wc.heap.size]? = some (.cells (bufL [] N).toArray 5 (0, 0)) := blk_new _ _
      have hbB0 : Below w.heap.size w (wc.alloc (.cells (bufL [] N).toArray 5)) := below_alloc hB.out _
      obtain ⟨gb, hgb0⟩ : ∃ g', g' = wc.heap.size := ⟨_, rfl⟩
      have hle0 : w.heap.size ≤ gb := by rw [hgb0]; exact hB.out.size
      have hle := Aside0.mk hle0
      have hbn := Aside0.mk hbn0
      have hbB := Aside0.mk hbB0
      clear hbn0 hbB0 hle0
      go_wp2
      rw [← hgb0]
      rw [← hgb0] at hbn
      have hgb := Aside0.mk hgb0
      clear hgb0 hmk
      go_loopw [13, 14] (fun v13 v14 wr => ∃ k j : Nat, k ≤ s.size ∧ v14 = .int .i64 k ∧ v13 = .int .i64 j ∧ Aside0 (j = (esc ((bytesOf s).take k)).length) ∧ Aside0 (wr.heap[gb]? = some (.cells (bufL (esc ((bytesOf s).take k)) N).toArray 5 (0, 0))) ∧ Aside0 (Below w.heap.size w wr)) (fun _ i _ => s.size - (intOf i).toNat)
      case atStart => exact ⟨0, 0, Nat.zero_le _, rfl, rfl, ⟨rfl⟩, hbn, hbB⟩
      case round =>
        obtain ⟨k, j, hk, rfl, rfl, hj, hbuf, hBr⟩ := hrel
        by_cases hlt : k < s.size
        · have hb : ((s[k]'hlt).toNat : Int) < 256 := by have := (s[k]'hlt).toNat_lt; omega
          have hgr := Aside0.mk (blk_below HG.out hBr.out)
          by_cases d34 : (s[k]'hlt).toNat = 34
          · have f34r := blk_cell hgr.out 34
            rw [tabF_at _ _ _ _ _ 34 (by omega), if_neg (by omega), if_pos rfl] at f34r
            have hS := Aside0.mk (esc_succ s k hlt)
            have hjN := fits s k hlt N hNd.out
            rw [← hj.out, if_pos d34] at hjN
            rw [if_pos d34] at hS
            have hjN' : (j : Int) < N := by simp at hjN; omega
            have hjle : j ≤ N := by omega
            have hjne : ¬ N = j := by omega
            have r0 := pw_cell_below hBr.out (Q1.out 0 (by omega))
            have r1 := pw_cell_below hBr.out (Q1.out 1 (by omega))
            have R := Aside0.mk (And.intro r0 r1)
            clear r0 r1
            go_wp2
            have HN : Aside0 (([Value.int .u8 92, Value.int .u8 34] : List Value).length = Nat.min 2 (N - j)) := ⟨min2 N j (by omega)⟩
            have HF : Aside0 (j + ([Value.int .u8 92, Value.int .u8 34] : List Value).length ≤ (bufL (esc ((bytesOf s).take k)) N).length) := ⟨by rw [bufL_length _ _ (by rw [← hj.out]; omega)]; simp; omega⟩
            go_region_law (refine step_copy_splice rfl (.tmp 105) (.tmp 111) 24 24 rfl 5 Tryz.underlying24 size1 (some ⟨gb, j, none⟩) (some ⟨h1, 0, none⟩) (N - j) (N - j) 2 c1 rfl rfl gb j (bufL (esc ((bytesOf s).take k)) N) 5 hbuf.out [.int .u8 92, .int .u8 34] HN.out (fun _ => ⟨rfl, _, rfl, src2 _ h1 _ _ R.out.1 R.out.2⟩) HF.out (one2 _ _) w.heap.size w (below_drew hBr.out) hle.out ?_; intro w4 hg4 hb4)
            go_wp2
            have x1 : j + 2 = (esc ((bytesOf s).take (k + 1))).length := by rw [hS.out, List.length_append, ← hj.out]; rfl
            have x2 : w4.heap[gb]? = some (.cells (bufL (esc ((bytesOf s).take (k + 1))) N).toArray 5 (0, 0)) := by rw [hS.out, ← bufL_two _ _ _ _ _ hj.out (by simp at hjN; omega)]; exact hg4.out
            go_roundw
            case rel =>
              exact ⟨k + 1, j + 2, by omega, congrArg (Value.int .i64) (by omega), congrArg (Value.int .i64) (wrapj2 j N (by omega) hN48.out), ⟨x1⟩, ⟨x2⟩, ⟨hb4⟩⟩
            case measure => simp [intOf]; omega
          · by_cases d92 : (s[k]'hlt).toNat = 92
            · have f92r := blk_cell hgr.out 92
              rw [tabF_at _ _ _ _ _ 92 (by omega), if_pos rfl] at f92r
              have hS := Aside0.mk (esc_succ s k hlt)
              have hjN := fits s k hlt N hNd.out
              rw [← hj.out, if_neg d34, if_pos d92] at hjN
              rw [if_neg d34, if_pos d92] at hS
              have hjN' : (j : Int) < N := by simp at hjN; omega
              have hjle : j ≤ N := by omega
              have hjne : ¬ N = j := by omega
              have r0 := pw_cell_below hBr.out (Q2.out 0 (by omega))
              have r1 := pw_cell_below hBr.out (Q2.out 1 (by omega))
              have R := Aside0.mk (And.intro r0 r1)
              clear r0 r1
              go_wp2
              have HN : Aside0 (([Value.int .u8 92, Value.int .u8 92] : List Value).length = Nat.min 2 (N - j)) := ⟨min2 N j (by omega)⟩
              have HF : Aside0 (j + ([Value.int .u8 92, Value.int .u8 92] : List Value).length ≤ (bufL (esc ((bytesOf s).take k)) N).length) := ⟨by rw [bufL_length _ _ (by rw [← hj.out]; omega)]; simp; omega⟩
              go_region_law (refine step_copy_splice rfl (.tmp 105) (.tmp 111) 24 24 rfl 5 Tryz.underlying24 size1 (some ⟨gb, j, none⟩) (some ⟨h2, 0, none⟩) (N - j) (N - j) 2 c2 rfl rfl gb j (bufL (esc ((bytesOf s).take k)) N) 5 hbuf.out [.int .u8 92, .int .u8 92] HN.out (fun _ => ⟨rfl, _, rfl, src2 _ h2 _ _ R.out.1 R.out.2⟩) HF.out (one2 _ _) w.heap.size w (below_drew hBr.out) hle.out ?_; intro w4 hg4 hb4)
              go_wp2
              have x1 : j + 2 = (esc ((bytesOf s).take (k + 1))).length := by rw [hS.out, List.length_append, ← hj.out]; rfl
              have x2 : w4.heap[gb]? = some (.cells (bufL (esc ((bytesOf s).take (k + 1))) N).toArray 5 (0, 0)) := by rw [hS.out, ← bufL_two _ _ _ _ _ hj.out (by simp at hjN; omega)]; exact hg4.out
              go_roundw
              case rel =>
                exact ⟨k + 1, j + 2, by omega, congrArg (Value.int .i64) (by omega), congrArg (Value.int .i64) (wrapj2 j N (by omega) hN48.out), ⟨x1⟩, ⟨x2⟩, ⟨hb4⟩⟩
              case measure => simp [intOf]; omega
            · have hcell := blk_cell hgr.out (s[k]'hlt).toNat
              rw [tabF_at _ _ _ _ _ _ (by have := (s[k]'hlt).toNat_lt; omega), if_neg d92, if_neg d34] at hcell
              have hS := Aside0.mk (esc_succ s k hlt)
              have hjN := fits s k hlt N hNd.out
              rw [← hj.out, if_neg d34, if_neg d92] at hjN
              have hcj := blk_cell hbuf.out j
              rw [bufL_next _ _ _ hj.out (by simp at hjN; omega)] at hcj
              have hfj := blk_frozen hbuf.out j
              have hjN' : (j : Int) < N := by simp at hjN; omega
              rw [if_neg d34, if_neg d92] at hS
              go_wp2
              refine ⟨⟨k + 1, j + 1, by omega, congrArg (Value.int .i64) (by omega), congrArg (Value.int .i64) (wrapj j N (by omega) hN48.out), ⟨?_⟩, ⟨?_⟩, ⟨below_set hBr.out hle.out⟩⟩, by simp [intOf]; omega⟩
              · rw [hS.out, List.length_append, ← hj.out]; rfl
              · rw [hS.out]; exact blk_put hbuf.out j _ (bufL_put _ _ _ _ hj.out (by omega))
        · have hk2 : k = (bytesOf s).length := by rw [bytesOf_length]; omega
          have hNl : (esc (bytesOf s)).length = N := by rw [esc_length, bytesOf_length]; exact hNd.out.symm
          have hbf := hbuf.out
          rw [hk2, List.take_length] at hbf
          have hcv := conv_buf wr gb N (esc (bytesOf s)) hNl hbf
          clear hbf
          go_wp2
          go_ret
          exact ⟨rfl, hBr.out⟩
end Go.Proofs.YtifgpigicgaadaaGreatDoor.Hand
end
section
/- strings.NewReplacer of the four strings, and (*strings.Replacer).Replace. -/
set_option linter.unusedSimpArgs false
set_option linter.unusedVariables false
namespace Go.Proofs.YtifgpigicgaadaaGreatDoor.Hand
open Go.RowKit Go.Proofs.YtifgpigicgaadaaGreatDoorW.PrintWords Go.Proofs.YtifgpigicgaadaaGreatDoorW.PrintLast Go.Proofs.YtifgpigicgaadaaGreatDoorH

def four : List Value := [.string ⟨#[92]⟩, .string ⟨#[92, 92]⟩, .string ⟨#[34]⟩, .string ⟨#[92, 34]⟩]
/-- What NewReplacer leaves: nothing is laid yet. -/
def Fresh (B : Nat) (W : World) (b : Nat) : Prop := ∃ bo co, B ≤ b ∧ bo ≠ b ∧ W.heap[b]? = some (.cells (repCells 0 0 .nilIface (.slice (some ⟨bo, 0, none⟩) 4 co)) 84 (0, 0)) ∧ ∀ j v, four[j]? = some v → W.cell? ⟨bo, j, none⟩ = some v
theorem app_four (W : World) (ba c : Nat) (h : ∀ j v, four[j]? = some v → W.cell? ⟨ba, j, none⟩ = some v) :
    (Builtin.append_ #[61, 61] 61 #[.slice none 0 0, .slice (some ⟨ba, 0, none⟩) 4 c]).run Tryz.prog W =
      .ok (.slice (some ⟨W.heap.size, 0, none⟩) 4 (grownCap W 4 0 9)) (W.drew.alloc (.cells (four.toArray ++ Builtin.zeroCells #[.string ⟨#[]⟩] (grownCap W 4 0 9 - 4)) 9)) := by
  have hinfo : (Tryz.prog.info? 9).map (fun i => (i.zero, i.size, i.bytes)) = some (some (.string ⟨#[]⟩), 1, 16) := by kernel_rfl
  obtain ⟨i, hi, hzz⟩ := Option.map_eq_some_iff.1 hinfo
  simp only [Prod.mk.injEq] at hzz
  obtain ⟨hz, hs, hb⟩ := hzz
  exact run_append_nil (P := Tryz.prog) W 61 61 9 i (.string ⟨#[]⟩) Tryz.underlying61 hi hz ⟨ba, 0, none⟩ 4 c four (by rw [hs]; rfl) (fun j v hj => by rw [add_plain]; exact h j v hj) (by omega) (by omega) (by rw [hb]; omega)
theorem four_at (W W' : World) (zs : Array Value) (t : TypeId) (hW : W' = W.drew.alloc (.cells (four.toArray ++ zs) t)) : ∀ j v, four[j]? = some v → W'.cell? ⟨W.heap.size, j, none⟩ = some v := by
  intro j v hj
  subst hW
  have := blk_cell (blk_new W.drew (.cells (four.toArray ++ zs) t)) j
  have hl : j < four.length := (List.getElem?_eq_some_iff.1 hj).1
  rw [Array.getElem?_append_left (by simpa using hl)] at this
  exact this.trans (by simpa using hj)
set_option maxRecDepth 100000 in
set_option maxHeartbeats 4000000 in
theorem new_calls (w : World) (ba c : Nat) (h : ∀ j v, four[j]? = some v → w.cell? ⟨ba, j, none⟩ = some v) :
    Calls Tryz.prog 35 #[.slice (some ⟨ba, 0, none⟩) 4 c] w fun e w' => Below w.heap.size w w' ∧ ∃ b, e = .returned (.pointer (some ⟨b, 0, none⟩)) ∧ Fresh w.heap.size w' b := by
  have hu84 := Tryz.underlying84
  have hbd : ∀ (W : World) (A : Option Addr) (n c : Nat), (Instr.build 84 #[(2, .slice A n c)]).run Tryz.prog W = .ok (.agg (repCells 0 0 .nilIface (.slice A n c))) W := fun W A n c => run_build W _ _ _ (by kernel_rfl)
  have hap := app_four w ba c h
  go_enter Tryz.func35, Tryz.ntmps35
  go_wp2_with ((with_reducible refine gate_dst (N := 9) rfl ?_); refine wpList_append_eq rfl _ _ 61 rfl (.slice none 0 0) (.slice (some ⟨ba, 0, none⟩) 4 c) _ rfl rfl hap ?_; intro W1 hW1; have B1 := Aside0.mk (show Below w.heap.size w W1 from hW1 ▸ below_alloc (below_drew (Below.refl _ _)) _); have F1 := Aside0.mk (four_at w W1 _ _ hW1); have S1 := Aside0.mk (show W1.heap.size = w.heap.size + 1 from hW1 ▸ (by simp)); clear hW1 hap)
  go_ret
  refine ⟨below_alloc B1.out _, W1.heap.size, rfl, w.heap.size, _, by rw [S1.out]; omega, by rw [S1.out]; omega, blk_new _ _, fun j v hj => ?_⟩
  exact pw_cell_below (below_alloc (Below.refl W1.heap.size W1) _) (F1.out j v hj)
set_option maxRecDepth 100000 in
set_option maxHeartbeats 4000000 in
theorem replace_calls (w : World) (B b : Nat) (hF : Fresh B w b) (hB : B ≤ w.heap.size) (s : ByteArray) (hs : s.size ≤ 140737488351232) :
    Calls Tryz.prog 36 #[.pointer (some ⟨b, 0, none⟩), .string s] w fun e w' => e = .returned (.string (strOfNums (esc (bytesOf s)))) ∧ Below B w w' := by
  obtain ⟨bo, co, hBb, hbo, hb, h4⟩ := hF
  have HB := Aside0.mk hb
  have H4 := Aside0.mk h4
  have hmf : ∀ (fn : Fn) (first cap : Array Value) (w : World), (Instr.makeFunc fn first cap).run Tryz.prog w = .ok (.func fn first cap) w := fun _ _ _ _ => rfl
  have hm : ∀ (g : Nat) (W : World), (method 315 146 (.pointer (some ⟨g, 0, none⟩)) "Replace").run Tryz.prog W = .ok (162, .pointer (some ⟨g, 0, none⟩)) W := fun _ _ => by kernel_rfl
  clear hb h4
  go_enter Tryz.func36, Tryz.ntmps36
  go_wp2_with (first | (go_at_call 50; refine (do_calls w b bo co B hBb HB.out hbo (H4.out 0 _ rfl) (H4.out 1 _ rfl) (H4.out 2 _ rfl) (H4.out 3 _ rfl)).mono ?_; rintro e w1 ⟨rfl, B1_, g, b1_, T1_⟩; have B1 := Aside0.mk B1_; have b1 := Aside0.mk b1_; have T1 := Aside0.mk T1_; clear B1_ b1_ T1_; have f3 := blk_cell b1.out 3; rw [show (repCells 1 0 (.iface 146 (.pointer (some ⟨g, 0, none⟩))) (.slice none 0 0))[3]? = some (.iface 146 (.pointer (some ⟨g, 0, none⟩))) from rfl] at f3) | (go_at_call 162; refine (rep_calls w1 _ g T1.out s hs).mono ?_; rintro e w2 ⟨rfl, B2_⟩; have B2 := Aside0.mk B2_; clear B2_))
  go_ret
  refine ⟨rfl, ?_⟩
  exact B1.out.trans (B2.out.mono (Nat.le_trans hB B1.out.size))
end Go.Proofs.YtifgpigicgaadaaGreatDoor.Hand
end
section
/- chars.Text: a number's digits, written from behind into an array of twenty bytes. -/
set_option linter.unusedSimpArgs false
set_option linter.unusedVariables false
namespace Go.Proofs.YtifgpigicgaadaaGreatDoor.Hand
open Go.RowKit Go.Proofs.YtifgpigicgaadaaGreatDoorW.PrintWords Go.Proofs.YtifgpigicgaadaaGreatDoorW.PrintLast Go.Proofs.YtifgpigicgaadaaGreatDoorH
def dec10 : Nat → Nat → List Int
  | 0, _ => []
  | f + 1, m => (if m < 10 then [] else dec10 f (m / 10)) ++ [48 + ((m % 10 : Nat) : Int)]
def textOf (n : Int) : List Int := (if n < 0 then [45] else []) ++ dec10 20 n.natAbs
def tail20 (l : List Int) : Array Value := (List.replicate (20 - l.length) (Value.int .u8 0) ++ l.map (Value.int .u8)).toArray
theorem zero20 : (Tryz.prog.info? 68).map (fun i => (i.zero, i.size)) = some (some (.agg (tail20 [])), 20) := by kernel_rfl
theorem tail_put (l : List Int) (h : l.length < 20) (x : Int) : (tail20 l).setIfInBounds (19 - l.length) (.int .u8 x) = tail20 (x :: l) := by
  apply Array.ext'
  rw [Array.toList_setIfInBounds]
  unfold tail20
  show (List.replicate (20 - l.length) (Value.int .u8 0) ++ l.map (Value.int .u8)).set (19 - l.length) _ = List.replicate (20 - (x :: l).length) (Value.int .u8 0) ++ (x :: l).map (Value.int .u8)
  rw [List.set_append_left _ _ (by simp; omega), List.length_cons, List.map_cons]
  obtain ⟨m, hm⟩ : ∃ m, 20 - l.length = m + 1 := ⟨19 - l.length, by omega⟩
  rw [hm, show 19 - l.length = m from by omega, show 20 - (l.length + 1) = m from by omega]
  rw [List.replicate_succ', List.set_append_right _ _ (by simp)]
  simp
theorem tail_at (l : List Int) (h : l.length < 20) : (tail20 l)[19 - l.length]? = some (.int .u8 0) := by
  unfold tail20
  rw [List.getElem?_toArray, List.getElem?_append_left (by simp; omega), List.getElem?_replicate, if_pos (by omega)]
theorem slice20 (g q : Nat) (h : q < 20) (W : World) : (Instr.sliceAt 68 (.pointer (some ⟨g, 0, none⟩)) (some (.int .i64 (q : Int))) none none).run Tryz.prog W = .ok (.slice (some ⟨g, q, none⟩) (20 - q) (20 - q)) W := by
  have ha : Tryz.prog.arrayLen 68 = 20 := by kernel_rfl
  have he : Tryz.prog.elem 68 = 5 := by kernel_rfl
  have ht : Tryz.prog.underlying 68 = some (.array (Tryz.prog.arrayLen 68) (Tryz.prog.elem 68)) := by rw [ha, he]; exact Tryz.underlying68
  have hs : (sizeOf 5).run Tryz.prog W = .ok 1 W := by
    obtain ⟨i, hi, hz⟩ := Option.map_eq_some_iff.1 size1
    simp [sizeOf, typeInfo, hi, hz]
  rw [run_sliceAt_array_l (P := Tryz.prog) W 68 ⟨g, 0, none⟩ ht .i64 (q : Int) (Int.natCast_nonneg q) (by rw [ha]; omega), he, hs]
  show Result.ok (slicedAt ⟨g, 0, none⟩ (q : Int).toNat (Tryz.prog.arrayLen 68) (Tryz.prog.arrayLen 68) 1) W = _
  rw [ha, Int.toNat_natCast]
  unfold slicedAt
  rw [if_neg (by omega), Nat.mul_one, add_plain]
theorem conv20 (W : World) (g q : Nat) (l : List Int) (hl : q + l.length = 20) (hb : W.heap[g]? = some (.cells (tail20 l) 68 (0, 0))) : (convert 24 9 (.slice (some ⟨g, q, none⟩) (20 - q) (20 - q))).run Tryz.prog W = .ok (.string (strOfNums l)) W := by
  refine run_convert_bytes_arg (P := Tryz.prog) W 24 5 Tryz.underlying24 Tryz.underlying5 g q (20 - q) (20 - q) l (by omega) (fun i hi => ?_) 9 Tryz.underlying9
  rw [blk_cell hb (q + i)]
  unfold tail20
  rw [List.getElem?_toArray, List.getElem?_append_right (by simp; omega), List.length_replicate, show q + i - (20 - l.length) = i from by omega, List.getElem?_map, List.getElem?_eq_getElem (by omega)]
  simp [List.getD_eq_getElem?_getD, List.getElem?_eq_getElem (show i < l.length by omega)]
theorem tmod_abs (x : Int) : x.tmod 10 = if 0 ≤ x then ((x.natAbs % 10 : Nat) : Int) else -((x.natAbs % 10 : Nat) : Int) := by
  by_cases h : 0 ≤ x
  · rw [if_pos h, Int.tmod_eq_emod_of_nonneg h]; omega
  · rw [if_neg h]
    obtain ⟨y, rfl⟩ : ∃ y, x = -y := ⟨-x, by omega⟩
    rw [Int.neg_tmod, Int.tmod_eq_emod_of_nonneg (by omega)]
    omega
theorem digit_at (x : Int) : wrap64 (48 + max (x.tmod 10) (wrap64 (-x.tmod 10))) % 256 = ((48 + x.natAbs % 10 : Nat) : Int) := by
  rw [tmod_abs]
  have : x.natAbs % 10 < 10 := Nat.mod_lt _ (by omega)
  generalize x.natAbs % 10 = q at *
  split
  · have e : wrap64 (-(q : Int)) = -(q : Int) := by unfold wrap64; omega
    rw [e, Int.max_def]
    split <;> (unfold wrap64; omega)
  · have e : wrap64 (- -(q : Int)) = (q : Int) := by unfold wrap64; omega
    rw [e, Int.max_def]
    split <;> (unfold wrap64; omega)
theorem tdiv_at (x : Int) (h : -9223372036854775808 ≤ x ∧ x ≤ 9223372036854775807) : wrap64 (x.tdiv 10) = x.tdiv 10 ∧ (x.tdiv 10).natAbs = x.natAbs / 10 ∧ (-9223372036854775808 ≤ x.tdiv 10 ∧ x.tdiv 10 ≤ 9223372036854775807) ∧ (x.tdiv 10 = 0 ↔ x.natAbs < 10) := by
  have e : (x.tdiv 10).natAbs = x.natAbs / 10 := by rw [Int.natAbs_tdiv]; rfl
  have h1 : x.natAbs ≤ 9223372036854775808 := by omega
  have h2 : (x.tdiv 10).natAbs ≤ 922337203685477580 := by rw [e]; omega
  refine ⟨by unfold wrap64; omega, e, by omega, ?_⟩
  rw [← Int.natAbs_eq_zero, e]
  omega
theorem dec_small (f m : Nat) (h : m < 10) : dec10 (f + 1) m = [48 + ((m % 10 : Nat) : Int)] := by
  rw [dec10, if_pos h]; rfl
theorem dec_big (f m : Nat) (h : ¬ m < 10) : dec10 (f + 1) m = dec10 f (m / 10) ++ [48 + ((m % 10 : Nat) : Int)] := by
  rw [dec10, if_neg h]
set_option maxRecDepth 100000 in
set_option maxHeartbeats 4000000 in
theorem text_calls (w : World) (n : Int) (hn : -9223372036854775808 ≤ n ∧ n ≤ 9223372036854775807) :
    Calls Tryz.prog 34 #[.int .i64 n] w fun e w' => e = .returned (.string (strOfNums (textOf n))) ∧ Below w.heap.size w w' := by
  have hzv := (zero_of_info zero20).1 w
  have hu68 := Tryz.underlying68
  go_enter Tryz.func34, Tryz.ntmps34
  go_wp2
  obtain ⟨g, hg0⟩ : ∃ g, g = w.heap.size := ⟨_, rfl⟩
  have hbn : (w.alloc (.cells (tail20 []) 68)).heap[g]? = some (.cells (tail20 []) 68 (0, 0)) := by rw [hg0]; exact blk_new _ _
  rw [← hg0]
  have hgw := Aside0.mk (Nat.le_of_eq hg0.symm)
  have HBN := Aside0.mk hbn
  clear hg0 hbn hzv
  go_loopw [4, 5] (fun v4 v5 wr => ∃ (l : List Int) (x : Int) (j : Nat), v4 = .int .i64 j ∧ v5 = .int .i64 x ∧ Aside0 (j + l.length = 20 ∧ 2 ≤ j ∧ x.natAbs < 10 ^ (j - 1) ∧ (-9223372036854775808 ≤ x ∧ x ≤ 9223372036854775807) ∧ dec10 20 n.natAbs = dec10 j x.natAbs ++ l) ∧ Aside0 (wr.heap[g]? = some (.cells (tail20 l) 68 (0, 0))) ∧ Aside0 (Below w.heap.size w wr)) (fun v4 _ _ => (intOf v4).toNat)
  case atStart => exact ⟨[], n, 20, rfl, rfl, ⟨rfl, by omega, by show n.natAbs < 10 ^ 19; omega, hn, by simp⟩, HBN, ⟨below_alloc (Below.refl _ _) _⟩⟩
  case round =>
    obtain ⟨l, x, j, rfl, rfl, hI, hbuf, hB⟩ := hrel
    obtain ⟨p, rfl⟩ : ∃ p, j = p + 2 := ⟨j - 2, by have := hI.out.2.1; omega⟩
    have hlen : p + 1 = 19 - l.length := by have := hI.out.1; omega
    have hl20 : l.length < 19 := by have := hI.out.1; omega
    have hc := blk_cell hbuf.out (p + 1)
    rw [hlen, tail_at _ (by omega), ← hlen] at hc
    have hf := blk_frozen hbuf.out (p + 1)
    have hT := Aside0.mk (tdiv_at x hI.out.2.2.2.1)
    have hD := digit_at x
    have wi : wrap64 ((p : Int) + 1) = (p : Int) + 1 := by have := hI.out.1; unfold wrap64; omega
    have wq := hT.out.1
    have hp20 : (p : Int) + 1 < 20 := by omega
    have hl := Aside0.mk hlen
    have hl2 := Aside0.mk hl20
    have q1 : (p : Int) + 2 - 1 = (p : Int) + 1 := by omega
    have hs1 := slice20 g (p + 1) (by omega)
    have hs0 := slice20 g p (by omega)
    rw [show ((p + 1 : Nat) : Int) = (p : Int) + 1 from by omega] at hs1
    obtain ⟨D, hDd⟩ : ∃ D : Int, D = 48 + (x.natAbs : Int) % 10 := ⟨_, rfl⟩
    have hD2 : 48 + (x.natAbs : Int) % 10 = D := hDd.symm
    have hDA := Aside0.mk hDd
    clear hDd
    have hb1 : Aside0 ((wr.setCell ⟨g, p + 1, none⟩ (.int .u8 D)).heap[g]? = some (.cells (tail20 (D :: l)) 68 (0, 0))) := ⟨blk_put hbuf.out (p + 1) _ (by rw [hlen]; exact tail_put l (by omega) D)⟩
    have hc2 := blk_cell hb1.out p
    rw [show p = 19 - (D :: l).length from by rw [List.length_cons]; omega, tail_at _ (by rw [List.length_cons]; omega), ← show p = 19 - (D :: l).length from by rw [List.length_cons]; omega] at hc2
    have hf2 := blk_frozen hb1.out p
    have hcv1 := conv20 (wr.setCell ⟨g, p + 1, none⟩ (.int .u8 D)) g (p + 1) (D :: l) (by rw [List.length_cons]; omega) hb1.out
    have hb2 : ((wr.setCell ⟨g, p + 1, none⟩ (.int .u8 D)).setCell ⟨g, p, none⟩ (.int .u8 45)).heap[g]? = some (.cells (tail20 (45 :: D :: l)) 68 (0, 0)) := blk_put hb1.out p _ (by rw [show p = 19 - (D :: l).length from by rw [List.length_cons]; omega]; exact tail_put (D :: l) (by rw [List.length_cons]; omega) 45)
    have hcv2 := conv20 ((wr.setCell ⟨g, p + 1, none⟩ (.int .u8 D)).setCell ⟨g, p, none⟩ (.int .u8 45)) g p (45 :: D :: l) (by rw [List.length_cons, List.length_cons]; omega) hb2
    rw [show 20 - (p + 1) = 19 - p from by omega] at hcv1
    clear hlen hl20 hb2
    by_cases hq : x.tdiv 10 = 0
    · have hx10 : x.natAbs < 10 := hT.out.2.2.2.1 hq
      have hE := Aside0.mk (show dec10 20 n.natAbs = D :: l from by rw [hI.out.2.2.2.2, dec_small (p + 1) _ hx10, hDA.out]; simp)
      clear hx10
      by_cases hneg : n < 0
      · go_wp2
        go_ret
        exact ⟨congrArg (fun x => Ending.returned (.string (strOfNums x))) (by unfold textOf; rw [if_pos hneg, hE.out]; rfl), below_set (below_set hB.out hgw.out) hgw.out⟩
      · go_wp2
        go_ret
        exact ⟨congrArg (fun x => Ending.returned (.string (strOfNums x))) (by unfold textOf; rw [if_neg (by omega), hE.out]; rfl), below_set hB.out hgw.out⟩
    · have hx10 : ¬ x.natAbs < 10 := fun h => hq (hT.out.2.2.2.2 h)
      have hlt := hI.out.2.2.1
      have hp1 : 1 ≤ p := by
        rcases Nat.eq_zero_or_pos p with h | h
        · subst h; omega
        · exact h
      have hx' : (x.tdiv 10).natAbs < 10 ^ (p + 1 - 1) := by
        rw [hT.out.2.1, Nat.div_lt_iff_lt_mul (by omega), show p + 1 - 1 = p from by omega, ← Nat.pow_succ]
        exact hlt
      have HN := Aside0.mk (show p + 1 + (D :: l).length = 20 ∧ 2 ≤ p + 1 ∧ (x.tdiv 10).natAbs < 10 ^ (p + 1 - 1) ∧ (-9223372036854775808 ≤ x.tdiv 10 ∧ x.tdiv 10 ≤ 9223372036854775807) ∧ dec10 20 n.natAbs = dec10 (p + 1) (x.tdiv 10).natAbs ++ D :: l from
        ⟨by rw [List.length_cons]; have := hI.out.1; omega, by omega, hx', hT.out.2.2.1, by rw [hI.out.2.2.2.2, dec_big (p + 1) _ hx10, hT.out.2.1, hDA.out, List.append_assoc]; simp⟩)
      clear hx10 hlt hp1 hx'
      go_wp2
      go_roundw
      case rel => exact ⟨D :: l, x.tdiv 10, p + 1, congrArg (Value.int .i64) (by omega), congrArg (Value.int .i64) hT.out.1, HN, hb1, ⟨below_set hB.out hgw.out⟩⟩
      case measure => simp [intOf]
end Go.Proofs.YtifgpigicgaadaaGreatDoor.Hand
end
