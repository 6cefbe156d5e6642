/- Several texts in one, in their order. -/
import Derived.Below
import Derived.Deep.Draws
import Derived.Deep.AppendLies
import Derived.Maps.AppendAt
import Derived.OwnWalk
import Derived.Laws.BytesArg
import Derived.Laws.MakeOwn
import Derived.Laws.OwnMore
import Derived.Deep.OwnRows
import Derived.Tactics
import Derived.Lib.ConvBytes
import Derived.Laws.Slices
import Derived.WalkKit
import Derived.KernelRfl
import Derived.RowKit3
import Derived.Deep.LoopGhost
import Derived.Deep.QuietTactic
import Derived.BigQuiet
import Derived.WideLaws
import Derived.Deep.DeepCutAuto
import Derived.Deep.CutBlock
import Derived.Deep.RegionHeld3
import Derived.Laws.Rows
import Derived.Lib.AppendStr
import Derived.ArgAppend
import Derived.Laws.IdiomCopy
import Derived.RowKit
import Derived.OrdersHeld
import Derived.Laws.BitsLemmas
import Derived.Shelf.Unicode.DecodeSlow
import Derived.Lib.LaidU8T
import Derived.Lib.Join
import Derived.Lib.SlTrimSet
section
-- PRINTED BY print.sh 35421559b90ae4d0a3588c463048766b98c2df88dd9212a6774a882060cdf62d: not written by this session
-- PRINTED WORDS (module Derived/Print/Words.lean): go-wishes' parts 1 to 38 and go-gate-2's additions: AI agents of Go's test side, Mon Nov 16 2026; no person has read them. Plain theorems and definitions: no macro, no elab, no axiom.
set_option linter.unusedVariables false
set_option linter.unusedSimpArgs false
namespace Go.Proofs.YtbcpnpbkbndkjaaGreatDoorW.PrintWords
open Go.RowKit

structure Aside0 (p : Prop) : Prop where mk :: (out : p)
structure Drawn0 (w w' : World) : Prop where mk :: (out : ∃ n, w' = w.drewN n)
theorem Drawn0.refl (w : World) : Drawn0 w w := ⟨⟨0, rfl⟩⟩
def rd (xs : List Int) (i : Int) : Int := xs.getD i.toNat 0
def bt (s : ByteArray) (i : Int) : Int := if h : i.toNat < s.size then ((s[i.toNat]'h).toNat : Int) else 0
theorem pw_cell_below {w w1 : World} (h : Below w.heap.size w w1) {a : Addr} {v : Value} (hc : w.cell? a = some v) : w1.cell? a = some v := (h.cell (World.block_lt_of_cell? w a hc)).trans hc

def ReadsInt (w : World) (k : IntKind) (A : Option Addr) (n : Nat) (xs : List Int) : Prop :=
  xs.length = n ∧ n ≤ 9223372036854775807 ∧ (0 < n → ∃ ad, A = some ad ∧ ∀ j, j < n → w.cell? (ad.add j) = some (.int k (xs.getD j 0)))
theorem own_base {w : World} {base : Nat} {e : TypeId} {size n : Nat} {v : Value} {xs : List Value} (h : w.ownsRow base e size v n xs) (k : Nat) (hk : v.ownBlock = some k) : base ≤ k := by
  rcases h.2 with ⟨rfl, _⟩ | ⟨g, cap, cur, rfl, hb, _⟩
  · simp [Value.ownBlock] at hk
  · have : g = k := by simpa [Value.ownBlock] using hk
    omega
theorem own_lt {w : World} {base : Nat} {e : TypeId} {size n : Nat} {v : Value} {xs : List Value} (h : w.ownsRow base e size v n xs) (k : Nat) (hk : v.ownBlock = some k) : k < w.heap.size := by
  rcases h.2 with ⟨rfl, _⟩ | ⟨g, cap, cur, rfl, hb, hh, _⟩
  · simp [Value.ownBlock] at hk
  · have : g = k := by simpa [Value.ownBlock] using hk
    subst this
    exact (Array.getElem?_eq_some_iff.1 hh).1
section
variable {P : Program} {ops : Array Oper} {rest : List Oper} {o : Oper} {a : Act} {Q : Exit → Act → World → Prop}

end

section
variable {P : Program}
end
section
variable {P : Program} {ops : Array Oper} {rest : List Oper} {o : Oper} {a : Act} {Q : Exit → Act → World → Prop}
end

def bytesOf (s : ByteArray) : List Int := s.data.toList.map fun b => (b.toNat : Int)
theorem data_length (s : ByteArray) : s.data.toList.length = s.size := by rw [Array.length_toList]; rfl
theorem bytesOf_length (s : ByteArray) : (bytesOf s).length = s.size := by rw [bytesOf, List.length_map, data_length]
theorem rd_bytesOf (s : ByteArray) (i : Int) : rd (bytesOf s) i = bt s i := by
  unfold rd bt bytesOf
  split
  · rename_i h
    have h' : i.toNat < s.data.toList.length := by rw [data_length]; exact h
    simp [List.getD_eq_getElem?_getD, List.getElem?_eq_getElem h']
    rfl
  · rename_i h
    have h' : s.data.toList.length ≤ i.toNat := by rw [data_length]; omega
    simp [List.getD_eq_getElem?_getD, List.getElem?_eq_none h']
def LeO {α : Type} (a b : Option α) : Prop := ∀ r, a = some r → b = some r
theorem LeO.refl {α : Type} (a : Option α) : LeO a a := fun _ h => h
theorem LeO.none {α : Type} (b : Option α) : LeO Option.none b := fun _ h => by cases h
theorem LeO.trans {α : Type} {a b c : Option α} (h : LeO a b) (k : LeO b c) : LeO a c := fun r hr => k r (h r hr)
theorem LeO.ite {α : Type} {c : Prop} [Decidable c] {a a' b b' : Option α} (h : LeO a a') (k : LeO b b') : LeO (if c then a else b) (if c then a' else b') := by
  split
  · exact h
  · exact k
theorem LeO.bind {α β : Type} {a a' : Option α} {f f' : α → Option β} (h : LeO a a') (k : ∀ x, LeO (f x) (f' x)) : LeO (a.bind f) (a'.bind f') := by
  intro r hr
  obtain ⟨x, hx, hf⟩ := Option.bind_eq_some_iff.1 hr
  exact Option.bind_eq_some_iff.2 ⟨x, h x hx, k x r hf⟩
theorem LeO.map {α β : Type} {a a' : Option α} (f : α → β) (h : LeO a a') : LeO (a.map f) (a'.map f) := by
  intro r hr
  obtain ⟨x, hx, hf⟩ := Option.map_eq_some_iff.1 hr
  exact Option.map_eq_some_iff.2 ⟨x, h x hx, hf⟩
def Reps {α : Type} (R : α → List Value → Prop) (size : Nat) (ps : List α) (cs : List Value) : Prop :=
  cs.length = ps.length * size ∧ ∀ j p, ps[j]? = some p → R p ((cs.drop (j * size)).take size)
theorem Reps.none {α : Type} (R : α → List Value → Prop) (size : Nat) : Reps R size [] [] := ⟨by simp, fun j p h => by simp at h⟩
theorem Reps.imp_ {α : Type} {R R' : α → List Value → Prop} {size : Nat} {ps : List α} {cs : List Value} (h : Reps R size ps cs) (hR : ∀ p c, R p c → R' p c) : Reps R' size ps cs := ⟨h.1, fun j p hj => hR _ _ (h.2 j p hj)⟩

def ReadsRow {α : Type} (R : α → List Value → Prop) (size : Nat) (w : World) (A : Option Addr) (n : Nat) (ps : List α) : Prop :=
  ps.length = n ∧ n ≤ 9223372036854775807 ∧ (0 < n → ∃ ad, A = some ad ∧ ∀ j p, ps[j]? = some p → ∃ c, c.length = size ∧ R p c ∧ ∀ i u, c[i]? = some u → w.cell? (ad.add (j * size + i)) = some u)
theorem ReadsRow.imp_ {α : Type} {R R' : α → List Value → Prop} {size : Nat} {w w1 : World} {A : Option Addr} {n : Nat} {ps : List α} (h : ReadsRow R size w A n ps) (hb : Below w.heap.size w w1) (hR : ∀ p c, R p c → R' p c) : ReadsRow R' size w1 A n ps :=
  ⟨h.1, h.2.1, fun hn => by
    obtain ⟨ad, e, hc⟩ := h.2.2 hn
    refine ⟨ad, e, fun j p hj => ?_⟩
    obtain ⟨c, hs, hr, hcell⟩ := hc j p hj
    exact ⟨c, hs, hR _ _ hr, fun i u hu => pw_cell_below hb (hcell i u hu)⟩⟩
theorem own_reads_row {α : Type} {R : α → List Value → Prop} {w : World} {base n size : Nat} {e : TypeId} {v : Value} {ps : List α} {cs : List Value} (h : w.ownsRow base e size v n cs) (hR : Reps R size ps cs) (hn : ps.length = n) :
    ∃ A c, v = .slice A n c ∧ ReadsRow R size w A n ps := by
  rcases Nat.eq_zero_or_pos n with h0 | h0
  · rcases h.2 with ⟨rfl, rfl⟩ | ⟨g, cap, cur, rfl, _⟩
    · exact ⟨none, 0, rfl, hn, by omega, fun hp => absurd hp (by omega)⟩
    · exact ⟨_, cap, rfl, hn, by omega, fun hp => absurd hp (by omega)⟩
  · obtain ⟨g, cap, rfl, _, _⟩ := h.form h0
    have hm : n ≤ 9223372036854775807 := by
      rcases h.2 with ⟨_, h1⟩ | ⟨g', cap', cur, he, _, _, h1, h2, _⟩
      · omega
      · simp only [maxLen] at h2
        omega
    refine ⟨_, cap, rfl, hn, hm, fun _ => ⟨_, rfl, fun j p hj => ⟨(cs.drop (j * size)).take size, ?_, hR.2 j p hj, fun i u hu => ?_⟩⟩⟩
    · have hjl := (List.getElem?_eq_some_iff.1 hj).1
      have h1 : j * size + size ≤ cs.length := by rw [hR.1, ← Nat.succ_mul]; exact Nat.mul_le_mul_right _ hjl
      rw [List.length_take, List.length_drop]
      omega
    · refine h.cells (g := g) rfl _ u ?_
      rw [List.getElem?_take] at hu
      split at hu
      · rw [List.getElem?_drop] at hu
        exact hu
      · cases hu
section
variable {P : Program} {ops : Array Oper} {rest : List Oper} {o : Oper} {a : Act} {Q : Exit → Act → World → Prop}
end

def KeepBut (w w' : World) (g : Nat) (row : Option Nat) : Prop := w.heap.size ≤ w'.heap.size ∧ ∀ i, i < w.heap.size → i ≠ g → some i ≠ row → w'.heap[i]? = w.heap[i]?
theorem KeepBut.refl (w : World) (g : Nat) (row : Option Nat) : KeepBut w w g row := ⟨Nat.le_refl _, fun _ _ _ _ => rfl⟩
theorem KeepBut.trans {w w1 w2 : World} {g : Nat} {row row1 : Option Nat} (h : KeepBut w w1 g row) (k : KeepBut w1 w2 g row1) (hr : row1 = row ∨ ∃ b, row1 = some b ∧ w.heap.size ≤ b) : KeepBut w w2 g row :=
  ⟨Nat.le_trans h.1 k.1, fun i hi hg hn => by
    refine (k.2 i (Nat.lt_of_lt_of_le hi h.1) hg ?_).trans (h.2 i hi hg hn)
    rcases hr with rfl | ⟨b, rfl, hb⟩
    · exact hn
    · intro e
      injection e with e
      omega⟩
def Ev {α : Type} (g : Nat → Option α) (r : α) : Prop := ∃ K, ∀ k, K ≤ k → g k = some r
theorem Ev.bind {α β : Type} {g : Nat → Option α} {f : Nat → α → Option β} {a : α} {r : β} (h : Ev g a) (k : Ev (fun n => f n a) r) : Ev (fun n => (g n).bind (f n)) r := by
  obtain ⟨K, h⟩ := h
  obtain ⟨K', k⟩ := k
  refine ⟨max K K', fun n hn => ?_⟩
  have h1 := h n (by omega)
  have h2 := k n (by omega)
  simp only [h1, Option.bind_some]
  exact h2
section
variable {P : Program} {ops : Array Oper} {o : Oper} {a : Act} {Q : Exit → Act → World → Prop} {K : Act → World → Prop}
end
theorem own_weaken {w : World} {base base' : Nat} {e : TypeId} {size n : Nat} {v : Value} {xs : List Value} (h : w.ownsRow base e size v n xs) (hb : base' ≤ base) : w.ownsRow base' e size v n xs := by
  obtain ⟨h1, h2⟩ := h
  refine ⟨h1, ?_⟩
  rcases h2 with h2 | ⟨g, cap, cur, rfl, hg, r⟩
  · exact .inl h2
  · exact .inr ⟨g, cap, cur, rfl, Nat.le_trans hb hg, r⟩
section
variable {α : Type} {enc : α → Value} {d : α}
def rdOf (d : α) (xs : List α) (i : Int) : α := xs.getD i.toNat d
def ReadsOf (enc : α → Value) (d : α) (w : World) (A : Option Addr) (n : Nat) (xs : List α) : Prop :=
  xs.length = n ∧ n ≤ 9223372036854775807 ∧ (0 < n → ∃ ad, A = some ad ∧ ∀ j, j < n → w.cell? (ad.add j) = some (enc (xs.getD j d)))
end
section
variable {α : Type} {P : Program} {ops : Array Oper} {rest : List Oper} {o : Oper} {a : Act} {Q : Exit → Act → World → Prop}
end

section
variable {P : Program}
end
theorem own_le {w : World} {base n m c size : Nat} {e : TypeId} {A : Option Addr} {xs : List Value} (h : w.ownsRow base e size (.slice A m c) n xs) : m ≤ c := by
  rcases h.2 with ⟨he, _⟩ | ⟨g, cap, cur, he, _, _, hnc, _⟩
  · injection he with _ h2 h3
    omega
  · injection he with _ h2 h3
    omega
def OwnRow {α : Type} (R : α → List Value → Prop) (e : TypeId) (size : Nat) (w : World) (base : Nat) (v : Value) (ps : List α) : Prop :=
  ∃ inner, w.ownsRow base e size v ps.length inner ∧ Reps R size ps inner
section
variable {α : Type} {R R' : α → List Value → Prop} {e : TypeId} {size : Nat} {w w1 : World} {base : Nat} {v : Value} {ps : List α}
theorem OwnRow.imp_ (h : OwnRow R e size w base v ps) (hR : ∀ p c, R p c → R' p c) : OwnRow R' e size w base v ps := by
  obtain ⟨inner, ho, hr⟩ := h
  exact ⟨inner, ho, hr.imp_ hR⟩
theorem OwnRow.reads (h : OwnRow R e size w base v ps) : ∃ A c, v = .slice A ps.length c ∧ ps.length ≤ c ∧ ReadsRow R size w A ps.length ps := by
  obtain ⟨inner, ho, hr⟩ := h
  obtain ⟨A, c, rfl, hrow⟩ := own_reads_row ho hr rfl
  exact ⟨A, c, rfl, own_le ho, hrow⟩
end
section
variable {P : Program} {ops : Array Oper} {rest : List Oper} {o : Oper} {a : Act} {Q : Exit → Act → World → Prop} {α : Type} {R : α → List Value → Prop}
end
section
variable {P : Program} {ops : Array Oper} {o : Oper} {a : Act} {Q : Exit → Act → World → Prop} {K : Act → World → Prop} {α : Type} {R : α → List Value → Prop}
end
section
variable {α : Type} {P : Program}
end

section
variable {P : Program} {ops : Array Oper} {rest : List Oper} {o : Oper} {a : Act} {Q : Exit → Act → World → Prop}
end
structure Kd (α : Type) where
  sz : Nat
  E : List Nat
  K : World → α → List Value → Prop
  M : World → Nat → (Nat → Prop) → α → List Value → Prop
  K_len : ∀ {w x cs}, K w x cs → cs.length = sz
  K_one : ∀ {w x cs}, K w x cs → ∀ u ∈ cs, u.oneCell' = true
  K_below : ∀ {w w1 : World} {x cs}, Below w.heap.size w w1 → K w x cs → K w1 x cs
  K_of_M : ∀ {w base ok x cs}, M w base ok x cs → K w x cs
  M_mono : ∀ {w base ok ok' x cs}, (∀ k, ok k → ok' k) → M w base ok x cs → M w base ok' x cs
  M_bound : ∀ {w : World} {base ok x cs}, M w base ok x cs → M w base (fun k => ok k ∧ base ≤ k ∧ k < w.heap.size ∧ ∃ q, q ∈ E ∧ ∃ cells, w.heap[k]? = some (.cells cells q (0, 0))) x cs
  M_move : ∀ {w w1 : World} {base ok x cs}, (∀ k, ok k → w1.heap[k]? = w.heap[k]?) → M w base ok x cs → M w1 base ok x cs
  M_lower : ∀ {w base base' ok x cs}, base' ≤ base → M w base ok x cs → M w base' ok x cs

theorem own_move {w w1 : World} {base : Nat} {e : TypeId} {size n : Nat} {v : Value} {xs : List Value} (h : w.ownsRow base e size v n xs) (hm : ∀ k, v.ownBlock = some k → w1.heap[k]? = w.heap[k]?) : w1.ownsRow base e size v n xs := by
  obtain ⟨h1, h2⟩ := h
  refine ⟨h1, ?_⟩
  rcases h2 with h2 | ⟨g, cap, cur, rfl, hg, hh, r⟩
  · exact .inl h2
  · exact .inr ⟨g, cap, cur, rfl, hg, (hm g (by simp [Value.ownBlock])).trans hh, r⟩
theorem own_typed {w : World} {base : Nat} {e : TypeId} {size n : Nat} {v : Value} {xs : List Value} (h : w.ownsRow base e size v n xs) (k : Nat) (hk : v.ownBlock = some k) : ∃ cells, w.heap[k]? = some (.cells cells e (0, 0)) := by
  rcases h.2 with ⟨rfl, _⟩ | ⟨g, cap, cur, rfl, hg, hh, r⟩
  · simp [Value.ownBlock] at hk
  · have : g = k := by simpa [Value.ownBlock] using hk
    subst this
    exact ⟨cur, hh⟩

namespace Kd
def C {α : Type} (d : Kd α) (w : World) (A : Option Addr) (n : Nat) (xs : List α) : Prop := ReadsRow (d.K w) d.sz w A n xs
def R {α : Type} (d : Kd α) (e : Nat) (w : World) (base : Nat) (ok : Nat → Prop) (v : Value) (xs : List α) : Prop :=
  (∀ k, v.ownBlock = some k → ok k) ∧ OwnRow (d.M w base (fun k => ok k ∧ some k ≠ v.ownBlock)) e d.sz w base v xs
section
variable {α : Type} {d : Kd α} {e : Nat} {w w1 : World} {base : Nat} {ok ok' : Nat → Prop} {v : Value} {xs : List α}
theorem C_below {A : Option Addr} {n : Nat} (h : d.C w A n xs) (hb : Below w.heap.size w w1) : d.C w1 A n xs := ReadsRow.imp_ h hb (fun _ _ hp => d.K_below hb hp)
theorem R_mono (h : d.R e w base ok v xs) (hok : ∀ k, ok k → ok' k) : d.R e w base ok' v xs := ⟨fun k hk => hok k (h.1 k hk), h.2.imp_ (fun _ _ hp => d.M_mono (fun k hk => ⟨hok k hk.1, hk.2⟩) hp)⟩
theorem R_bound (h : d.R e w base ok v xs) : d.R e w base (fun k => ok k ∧ base ≤ k ∧ k < w.heap.size ∧ ∃ q, q ∈ e :: d.E ∧ ∃ cells, w.heap[k]? = some (.cells cells q (0, 0))) v xs := by
  obtain ⟨h0, inner, ho, hr⟩ := h
  refine ⟨fun k hk => ?_, inner, ho, hr.imp_ (fun _ _ hp => d.M_mono (fun k hk => ?_) (d.M_bound hp))⟩
  · obtain ⟨cells, hc⟩ := own_typed ho k hk
    exact ⟨h0 k hk, own_base ho k hk, own_lt ho k hk, e, List.mem_cons_self, cells, hc⟩
  · obtain ⟨⟨h1, h2⟩, h3, h4, q, hq, hc⟩ := hk
    exact ⟨⟨h1, h3, h4, q, List.mem_cons_of_mem _ hq, hc⟩, h2⟩
theorem R_move (h : d.R e w base ok v xs) (hm : ∀ k, ok k → w1.heap[k]? = w.heap[k]?) : d.R e w1 base ok v xs := by
  obtain ⟨h0, inner, ho, hr⟩ := h
  exact ⟨h0, inner, own_move ho (fun k hk => hm k (h0 k hk)), hr.imp_ (fun _ _ hp => d.M_move (fun k hk => hm k hk.1) hp)⟩
theorem R_lower {base' : Nat} (h : d.R e w base ok v xs) (hb : base' ≤ base) : d.R e w base' ok v xs := by
  obtain ⟨h0, inner, ho, hr⟩ := h
  exact ⟨h0, inner, own_weaken ho hb, hr.imp_ (fun _ _ hp => d.M_lower hb hp)⟩
theorem R_reads (h : d.R e w base ok v xs) : ∃ A c, v = .slice A xs.length c ∧ xs.length ≤ c ∧ d.C w A xs.length xs := by
  obtain ⟨A, c, he, hl, hr⟩ := OwnRow.reads h.2
  exact ⟨A, c, he, hl, hr.imp_ (Below.refl _ _) (fun _ _ hp => d.K_of_M hp)⟩
end

def scalar {α : Type} (enc : α → Value) (h1 : ∀ x, (enc x).oneCell' = true) : Kd α where
  sz := 1
  E := []
  K := fun _ x cs => cs = [enc x]
  M := fun _ _ _ x cs => cs = [enc x]
  K_len := fun h => by rw [h]; rfl
  K_one := fun h u hu => by
    rw [h] at hu
    rw [List.mem_singleton.1 hu]
    exact h1 _
  K_below := fun _ h => h
  K_of_M := fun h => h
  M_mono := fun _ h => h
  M_bound := fun h => h
  M_move := fun _ h => h
  M_lower := fun _ h => h
def int (k : IntKind) : Kd Int := scalar (Value.int k) (fun _ => rfl)
def slice {α : Type} (e : Nat) (d : Kd α) : Kd (List α) where
  sz := 1
  E := e :: d.E
  K := fun w xs cs => ∃ A c, cs = [.slice A xs.length c] ∧ xs.length ≤ c ∧ d.C w A xs.length xs
  M := fun w base ok xs cs => ∃ v, cs = [v] ∧ d.R e w base ok v xs
  K_len := by
    rintro w x cs ⟨A, c, rfl, _⟩
    rfl
  K_one := by
    rintro w x cs ⟨A, c, rfl, _⟩ u hu
    rw [List.mem_singleton.1 hu]
    rfl
  K_below := by
    rintro w w1 x cs hb ⟨A, c, rfl, hl, hr⟩
    exact ⟨A, c, rfl, hl, C_below hr hb⟩
  K_of_M := by
    rintro w base ok x cs ⟨v, rfl, h⟩
    obtain ⟨A, c, rfl, hl, hr⟩ := R_reads h
    exact ⟨A, c, rfl, hl, hr⟩
  M_mono := by
    rintro w base ok ok' x cs hok ⟨v, rfl, h⟩
    exact ⟨v, rfl, R_mono h hok⟩
  M_bound := by
    rintro w base ok x cs ⟨v, rfl, h⟩
    exact ⟨v, rfl, R_bound h⟩
  M_move := by
    rintro w w1 base ok x cs hm ⟨v, rfl, h⟩
    exact ⟨v, rfl, R_move h hm⟩
  M_lower := by
    rintro w base base' ok x cs hb ⟨v, rfl, h⟩
    exact ⟨v, rfl, R_lower h hb⟩
def bot {α : Type} (sz : Nat) (E : List Nat) : Kd α where
  sz := sz
  E := E
  K := fun _ _ _ => False
  M := fun _ _ _ _ _ => False
  K_len := fun h => h.elim
  K_one := fun h => h.elim
  K_below := fun _ h => h
  K_of_M := fun h => h
  M_mono := fun _ h => h
  M_bound := fun h => h
  M_move := fun _ h => h
  M_lower := fun _ h => h
def upto {α : Type} (F : Kd α → Kd α) (sz : Nat) (E : List Nat) : Nat → Kd α
  | 0 => bot sz E
  | n + 1 => F (upto F sz E n)
section
variable {P : Program} {ops : Array Oper} {rest : List Oper} {o : Oper} {a : Act} {Q : Exit → Act → World → Prop} {α : Type}
end
section
variable {P : Program} {ops : Array Oper} {o : Oper} {a : Act} {Q : Exit → Act → World → Prop} {Kc : Act → World → Prop} {α : Type}
end
end Kd
namespace Kd
structure Mono {α β : Type} (F : Kd α → Kd β) : Prop where
  sz : ∀ d d' : Kd α, d.sz = d'.sz → (F d).sz = (F d').sz
  K : ∀ d d' : Kd α, d.sz = d'.sz → (∀ w x cs, d.K w x cs → d'.K w x cs) → ∀ w x cs, (F d).K w x cs → (F d').K w x cs
  M : ∀ d d' : Kd α, d.sz = d'.sz → (∀ w base ok x cs, d.M w base ok x cs → d'.M w base ok x cs) → ∀ w base ok x cs, (F d).M w base ok x cs → (F d').M w base ok x cs
section
variable {α : Type} {F : Kd α → Kd α} {sz : Nat} {E : List Nat} {hs : ∀ n, (upto F sz E n).sz = sz} {hE : ∀ n q, q ∈ (upto F sz E n).E → q ∈ E}
end
end Kd
namespace Kd
end Kd
namespace Kd
section
variable {α β : Type} {d : Kd α} {d' : Kd β} {e e' : Nat} {w w1 W : World} {base b b' : Nat} {ok ok' okv oku : Nat → Prop} {v u : Value} {xs : List α} {ys : List β}
end
section
variable {w W : World} {A : Option Addr} {n : Nat}
variable {α : Type} {enc : α → Value} {h1 : ∀ x, (enc x).oneCell' = true} {e base g cap : Nat} {ok : Nat → Prop} {xs : List α}
end

section
variable {P : Program} {ops : Array Oper} {rest : List Oper} {o : Oper} {a : Act} {Q : Exit → Act → World → Prop}
variable {α : Type}
end
end Kd
section
variable {P : Program}
end
def QRow (w : World) (base : Nat) (e : TypeId) (size : Nat) (v : Value) (n : Nat) (xs : List Value) : Prop :=
  xs.length = n * size ∧
  ((n = 0 ∧ ∃ A, v = .slice A 0 0 ∧ ∀ a, A = some a → base ≤ a.block ∧ ∃ cur, w.heap[a.block]? = some (.cells cur e (0, 0))) ∨
   ∃ g off cap cur, v = .slice (some ⟨g, off * size, none⟩) n cap ∧ base ≤ g ∧ w.heap[g]? = some (.cells cur e (0, 0)) ∧ n ≤ cap ∧ off + cap ≤ maxLen ∧ cur.size = (off + cap) * size ∧ (cur.toList.drop (off * size)).take (n * size) = xs)
section
variable {w w1 : World} {base n size : Nat} {e : TypeId} {v : Value} {xs : List Value}
end
section
variable {P : Program}
end
namespace Kd
def Q {α : Type} (d : Kd α) (e : Nat) (w : World) (base : Nat) (ok : Nat → Prop) (v : Value) (xs : List α) : Prop :=
  (∀ k, v.ownBlock = some k → ok k) ∧ ∃ inner, QRow w base e d.sz v xs.length inner ∧ Reps (d.M w base (fun k => ok k ∧ some k ≠ v.ownBlock)) d.sz xs inner
section
variable {α : Type} {d : Kd α} {e : Nat} {w w1 W : World} {base : Nat} {ok ok' : Nat → Prop} {v : Value} {xs : List α}
end
section
variable {P : Program} {ops : Array Oper} {rest : List Oper} {o : Oper} {a : Act} {Q' : Exit → Act → World → Prop} {Kc : Act → World → Prop} {α : Type}
end
end Kd
namespace Kd
section
variable {α : Type} {d : Kd α} {e e' : Nat} {w w1 W : World} {base : Nat} {ok : Nat → Prop} {u v : Value} {xs : List α}
end
end Kd
namespace Kd
section
variable {α : Type} {d : Kd α} {e base g n cap : Nat} {ok okp : Nat → Prop} {W : World} {xs : List α}
end
end Kd
namespace Kd
section
variable {α : Type} {F : Kd α → Kd α} {sz : Nat} {E : List Nat} {hs : ∀ n, (upto F sz E n).sz = sz} {hE : ∀ n q, q ∈ (upto F sz E n).E → q ∈ E}
end
end Kd
namespace Kd
section
variable {P : Program} {ops : Array Oper} {rest : List Oper} {o : Oper} {a : Act} {Q : Exit → Act → World → Prop} {α : Type}
end
end Kd
namespace Kd
section
variable {P : Program} {ops : Array Oper} {rest : List Oper} {o : Oper} {a : Act} {Q : Exit → Act → World → Prop} {α : Type}
end
end Kd
namespace Kd
section
variable {α : Type} {k : Kd α} {w : World} {A : Option Addr} {xs : List α} {m c : Nat}
end
end Kd
section
variable {P : Program}
end
theorem ReadsInt.nil (W : World) (k : IntKind) : ReadsInt W k none ([] : List Int).length [] := ⟨rfl, by simp, fun h => absurd h (Nat.lt_irrefl 0)⟩
theorem ReadsInt.drewN {W : World} {k : IntKind} {A : Option Addr} {n : Nat} {xs : List Int} (h : ReadsInt W k A n xs) (m : Nat) : ReadsInt (W.drewN m) k A n xs := h
theorem ReadsOf.nil {α : Type} (enc : α → Value) (d : α) (W : World) : ReadsOf enc d W none ([] : List α).length [] := ⟨rfl, by simp, fun h => absurd h (Nat.lt_irrefl 0)⟩
theorem ReadsOf.drewN {α : Type} {enc : α → Value} {d : α} {W : World} {A : Option Addr} {n : Nat} {xs : List α} (h : ReadsOf enc d W A n xs) (m : Nat) : ReadsOf enc d (W.drewN m) A n xs := h
namespace Kd
section
variable {α β : Type} {d : Kd α} {d' : Kd β} {e e' base base' n : Nat} {ok ok' : Nat → Prop} {w W w1 W1 : World} {v u : Value} {xs : List α} {ys : List β} {A : Option Addr} {c : Nat}
end
section
variable {α : Type} {enc : α → Value} {h1 : ∀ x, (enc x).oneCell' = true} {w W : World} {A : Option Addr} {n g : Nat} {xs : List α}
end
end Kd
namespace Kd
section
variable {α : Type} {d : Kd α} {e base g : Nat} {ok : Nat → Prop} {w w1 : World} {v : Value} {xs : List α} {o : Obj}
end
end Kd
section
variable {P : Program} {ops : Array Oper} {rest : List Oper} {o : Oper} {a : Act} {Q : Exit → Act → World → Prop}
end
namespace Kd
section
variable {α : Type} {enc : α → Value} {h1 : ∀ x, (enc x).oneCell' = true} {e base g n cap : Nat} {ok : Nat → Prop} {W : World} {xs : List α}
end
end Kd
section
variable {P : Program} {ops : Array Oper} {rest : List Oper} {o : Oper} {a : Act} {Q : Exit → Act → World → Prop}
end
namespace Kd
section
variable {α : Type} {enc : α → Value} {h1 : ∀ x, (enc x).oneCell' = true} {e base g n cap : Nat} {ok : Nat → Prop} {W : World} {xs : List α}
end
end Kd
section
variable {P : Program} {ops : Array Oper} {rest : List Oper} {o : Oper} {a : Act} {Q : Exit → Act → World → Prop} {W : World}
end
section
variable {P : Program} {ops : Array Oper} {o : Oper} {a : Act} {Q : Exit → Act → World → Prop} {Kc : Act → World → Prop}
namespace Kd
variable {α : Type}
end Kd
end
inductive Vals (P : Program) (tmps : Array Value) (w : World) : List ResultVar → List Value → Prop where
  | nil : Vals P tmps w [] []
  | tmp {u : Tmp} {rs : List ResultVar} {vs : List Value} (h : Vals P tmps w rs vs) : Vals P tmps w (.tmp u :: rs) (tmps.getD u undef :: vs)
  | cell {p : Tmp} {ty : TypeId} {rs : List ResultVar} {vs : List Value} (g : Nat) (t : TypeId) (cs : Array Value) (fr : Nat × Nat) (d : TypeDesc)
      (hp : tmps.getD p undef = .pointer (some ⟨g, 0, none⟩)) (hg : w.heap[g]? = some (.cells cs t fr))
      (hu : P.underlying ty = some d) (hd : (match d with | .struct _ | .array _ _ => true | _ => false) = true) (hi : (P.info? ty).map (·.size) = some cs.size)
      (h : Vals P tmps w rs vs) : Vals P tmps w (.cell p ty :: rs) (.agg cs :: vs)
section
variable {P : Program} {tmps : Array Value} {w : World}
end
namespace Kd
section
variable {P : Program} {α : Type}
end
section
variable {P : Program} {ops : Array Oper} {rest : List Oper} {o : Oper} {a : Act} {Q : Exit → Act → World → Prop} {Kc : Act → World → Prop} {α : Type}
end
end Kd

end Go.Proofs.YtbcpnpbkbndkjaaGreatDoorW.PrintWords
end
section
-- PRINTED BY print.sh 35421559b90ae4d0a3588c463048766b98c2df88dd9212a6774a882060cdf62d: not written by this session
namespace Go.Proofs.YtbcpnpbkbndkjaaGreatDoorW.PrintLast

section
variable {P : Program} {ops : Array Oper} {Q : Exit → Act → World → Prop} {md : Region.Mode} {S : World → Prop} {ds : List Nat}

def wpAnyLast (P : Program) (md : Region.Mode) (ops : Array Oper) (Q : Exit → Act → World → Prop) (S : World → Prop) (ds : List Nat) : Nat → Array Bool → Act → World → Prop
  | 0, listed, a, w => Region.ready md ops listed = [] ∧ Q .normal a w
  | fuel + 1, listed, a, w =>
    (Region.ready md ops listed = [] → Q .normal a w) ∧
    ∀ i ∈ Region.ready md ops listed, wpOp P ops Q i (fun a' w' => (i ∉ ds → S w → S w') ∧ wpAnyLast P md ops Q S ds fuel (listed.setIfInBounds i true) a' w') a w

end

section
variable {P : Program} {ops : Array Oper} {Q : Exit → Act → World → Prop} {md : Region.Mode} {S : World → Prop} {ds : List Nat}

def AllReadyL (P : Program) (md : Region.Mode) (ops : Array Oper) (Q : Exit → Act → World → Prop) (S : World → Prop) (ds : List Nat) (fuel : Nat) (listed : Array Bool) (a : Act) (w : World) (rs : List Nat) : Prop :=
  ∀ i ∈ rs, wpOp P ops Q i (fun a' w' => (i ∉ ds → S w → S w') ∧ wpAnyLast P md ops Q S ds fuel (listed.setIfInBounds i true) a' w') a w
theorem AllReadyL.nil {fuel : Nat} {listed : Array Bool} {a : Act} {w : World} : AllReadyL P md ops Q S ds fuel listed a w [] := fun _ h => by cases h
end
end Go.Proofs.YtbcpnpbkbndkjaaGreatDoorW.PrintLast
end
section
-- PRINTED BY print.sh 35421559b90ae4d0a3588c463048766b98c2df88dd9212a6774a882060cdf62d: not written by this session
namespace Go.Proofs.YtbcpnpbkbndkjaaGreatDoorW.PrintWords
open Go.RowKit
namespace Kd
section
variable {α : Type} {d : Kd α} {e base g o n cap : Nat} {ok okp : Nat → Prop} {w W : World} {v : Value} {xs : List α}
end
section
variable {α : Type} {enc : α → Value} {h1 : ∀ x, (enc x).oneCell' = true} {e base g o n cap : Nat} {ok : Nat → Prop} {W : World} {xs : List α}
end
end Kd
end Go.Proofs.YtbcpnpbkbndkjaaGreatDoorW.PrintWords
end
section
-- PRINTED BY print.sh 35421559b90ae4d0a3588c463048766b98c2df88dd9212a6774a882060cdf62d: not written by this session
namespace Go.Proofs.YtbcpnpbkbndkjaaGreatDoorW.PrintWords
open Go.RowKit
namespace Kd
def tag {α : Type} (f : Nat → Nat) (d : Kd α) : Kd (α × Nat) where
  sz := d.sz
  E := d.E
  K := fun w x cs => d.K w x.1 cs
  M := fun w base ok x cs => d.M w base (fun k => ok k ∧ f k = x.2) x.1 cs
  K_len := fun h => d.K_len h
  K_one := fun h => d.K_one h
  K_below := fun hb h => d.K_below hb h
  K_of_M := fun h => d.K_of_M h
  M_mono := fun hok h => d.M_mono (fun k hk => ⟨hok k hk.1, hk.2⟩) h
  M_bound := fun h => d.M_mono (fun _ hk => ⟨⟨hk.1.1, hk.2⟩, hk.1.2⟩) (d.M_bound h)
  M_move := fun hm h => d.M_move (fun k hk => hm k hk.1) h
  M_lower := fun hb h => d.M_lower hb h
def raw (sz : Nat) : Kd (List Value) where
  sz := sz
  E := []
  K := fun _ x cs => cs = x ∧ cs.length = sz ∧ ∀ u ∈ cs, u.oneCell' = true
  M := fun _ _ _ x cs => cs = x ∧ cs.length = sz ∧ ∀ u ∈ cs, u.oneCell' = true
  K_len := fun h => h.2.1
  K_one := fun h => h.2.2
  K_below := fun _ h => h
  K_of_M := fun h => h
  M_mono := fun _ h => h
  M_bound := fun h => h
  M_move := fun _ h => h
  M_lower := fun _ h => h
def S {α : Type} (d : Kd α) (e : Nat) (w : World) (base : Nat) (ok : Nat → Prop) (v : Value) (xs : List α) : Prop := ∃ f, (tag f d).R e w base ok v xs.zipIdx
section
variable {α β : Type} {d : Kd α} {d' : Kd β} {e e' : Nat} {w w1 W : World} {base b : Nat} {ok ok' okv oku : Nat → Prop} {u v : Value} {xs : List α} {ys : List β}
end
section
variable {α β : Type} {d : Kd α} {d' : Kd β} {e e' g : Nat} {w w1 W : World} {base b : Nat} {ok ok' okv oku : Nat → Prop} {u v : Value} {xs : List α} {ys : List β}
end
section
variable {P : Program} {ops : Array Oper} {rest : List Oper} {o : Oper} {a : Act} {Q : Exit → Act → World → Prop} {Kc : Act → World → Prop} {α : Type}
end
section
variable {α β : Type} {d : Kd α} {e e' g n cap : Nat} {w w1 W : World} {base : Nat} {ok ok' oki okp : Nat → Prop} {u v : Value} {xs : List α} {i : Int} {c : List Value}
end
section
variable {P : Program} {ops : Array Oper} {rest : List Oper} {o : Oper} {a : Act} {Q : Exit → Act → World → Prop} {α : Type}
end
end Kd
end Go.Proofs.YtbcpnpbkbndkjaaGreatDoorW.PrintWords
end
section
-- PRINTED BY print.sh 35421559b90ae4d0a3588c463048766b98c2df88dd9212a6774a882060cdf62d: not written by this session
namespace Go.Proofs.YtbcpnpbkbndkjaaGreatDoorW.PrintWords
open Go.RowKit
namespace Kd
section
variable {α : Type} {n : Nat} {d : Kd α} {hs : 0 < d.sz} {w : World} {base : Nat} {ok : Nat → Prop} {xs : List α} {cs : List Value}
end
section
variable {α : Type} {n : Nat} {enc : α → Value} {h1 : ∀ x, (enc x).oneCell' = true} {hs : 0 < (scalar enc h1).sz} {w : World} {base : Nat} {ok : Nat → Prop} {xs : List α} {cs : List Value}
end
end Kd
end Go.Proofs.YtbcpnpbkbndkjaaGreatDoorW.PrintWords
end
section
-- PRINTED BY print.sh 35421559b90ae4d0a3588c463048766b98c2df88dd9212a6774a882060cdf62d: not written by this session
namespace Go.Proofs.YtbcpnpbkbndkjaaGreatDoorW.PrintWords
open Go.RowKit
section
variable {P : Program}
end
namespace Kd
section
variable {P : Program} {ops : Array Oper} {rest : List Oper} {o : Oper} {a : Act} {Q : Exit → Act → World → Prop} {Kc : Act → World → Prop} {α : Type}
end
section
variable {α : Type} {d : Kd α} {e : Nat} {w : World} {base : Nat} {ok : Nat → Prop} {v : Value} {xs : List α}
end
section
variable {P : Program} {ops : Array Oper} {rest : List Oper} {o : Oper} {a : Act} {Q : Exit → Act → World → Prop} {Kc : Act → World → Prop} {α : Type}
end
end Kd
end Go.Proofs.YtbcpnpbkbndkjaaGreatDoorW.PrintWords
end
section
-- PRINTED BY print.sh 35421559b90ae4d0a3588c463048766b98c2df88dd9212a6774a882060cdf62d: not written by this session
namespace Go.Proofs.YtbcpnpbkbndkjaaGreatDoorW.PrintWords
open Go.RowKit
namespace Kd
structure Heap {α : Type} (d : Kd α) : Prop where
  K : ∀ {w w1 : World} {x : α} {cs : List Value}, (∀ k, k < w.heap.size → w1.heap[k]? = w.heap[k]?) → d.K w x cs → d.K w1 x cs
theorem cell_heap {w w1 : World} (hb : ∀ k, k < w.heap.size → w1.heap[k]? = w.heap[k]?) {a : Addr} {v : Value} (h : w.cell? a = some v) : w1.cell? a = some v := by
  have := hb a.block (World.block_lt_of_cell? w a h)
  simpa [World.cell?, this] using h
theorem Heap.C {α : Type} {d : Kd α} (hd : Heap d) {w w1 : World} {A : Option Addr} {n : Nat} {xs : List α} (hb : ∀ k, k < w.heap.size → w1.heap[k]? = w.heap[k]?) (h : d.C w A n xs) : d.C w1 A n xs :=
  ⟨h.1, h.2.1, fun hn => by
    obtain ⟨ad, e, hc⟩ := h.2.2 hn
    refine ⟨ad, e, fun j p hj => ?_⟩
    obtain ⟨c, hs, hr, hcell⟩ := hc j p hj
    exact ⟨c, hs, hd.K hb hr, fun i u hu => cell_heap hb (hcell i u hu)⟩⟩
section
variable {α : Type} {d : Kd α} {e base g n c : Nat} {ok : Nat → Prop} {w w0 W : World} {A : Option Addr} {xs : List α}
end
end Kd
end Go.Proofs.YtbcpnpbkbndkjaaGreatDoorW.PrintWords
end
section
-- PRINTED BY print.sh 35421559b90ae4d0a3588c463048766b98c2df88dd9212a6774a882060cdf62d: not written by this session
namespace Go.Proofs.YtbcpnpbkbndkjaaGreatDoorW.PrintWords
open Go.RowKit
def Kept (w W : World) (S : Nat → Prop) : Prop := w.heap.size ≤ W.heap.size ∧ ∀ i, i < w.heap.size → ¬ S i → W.heap[i]? = w.heap[i]?
section
variable {w W W2 : World} {S S2 S' : Nat → Prop}
theorem Kept.refl (w : World) (S : Nat → Prop) : Kept w w S := ⟨Nat.le_refl _, fun _ _ _ => rfl⟩
theorem Kept.drewN (h : Kept w W S) (m : Nat) : Kept w (W.drewN m) S := h
end
namespace Kd
section
variable {α : Type} {d : Kd α} {e base n c : Nat} {ok oki S S2 : Nat → Prop} {w w0 W W1 W2 : World} {v : Value} {A : Option Addr} {xs : List α} {i : Int} {cs : List Value}
end
end Kd
end Go.Proofs.YtbcpnpbkbndkjaaGreatDoorW.PrintWords
end
section
-- PRINTED BY print.sh 35421559b90ae4d0a3588c463048766b98c2df88dd9212a6774a882060cdf62d: not written by this session
namespace Go.Proofs.YtbcpnpbkbndkjaaGreatDoorW.PrintWords
open Go.RowKit
def Foot (P : World → Prop) (W : World) (ok : Nat → Prop) : Prop := ∀ W' : World, (∀ k, ok k → k < W.heap.size → W'.heap[k]? = W.heap[k]?) → P W'
namespace Foot
variable {P Q : World → Prop} {W W1 : World} {ok ok' : Nat → Prop}
end Foot
namespace Kd
def F {α : Type} (d : Kd α) (W : World) (ok : Nat → Prop) (A : Option Addr) (n : Nat) (xs : List α) : Prop := Foot (fun W => d.C W A n xs) W ok
def FK {α : Type} (d : Kd α) (W : World) (ok : Nat → Prop) (x : α) (c : List Value) : Prop := Foot (fun W => d.K W x c) W ok
section
variable {α β : Type} {d : Kd α} {e base n n' cc g N : Nat} {ok ok' okp S : Nat → Prop} {w w0 w1 W W1 : World} {A A' : Option Addr} {u v v1 : Value} {xs : List α} {xs' : List β} {d' : Kd β} {x : α} {c : List Value}
end
end Kd
end Go.Proofs.YtbcpnpbkbndkjaaGreatDoorW.PrintWords
end
section
-- PRINTED BY print.sh 35421559b90ae4d0a3588c463048766b98c2df88dd9212a6774a882060cdf62d: not written by this session
namespace Go.Proofs.YtbcpnpbkbndkjaaGreatDoorW.PrintWords
open Go.RowKit
namespace Kd
section
variable {α : Type} {d : Kd α} {e base n cc g : Nat} {ok ok' okp S : Nat → Prop} {w w1 W W1 : World} {A : Option Addr} {u v v1 : Value} {xs : List α} {x : α} {c : List Value}
def N {α : Type} (d : Kd α) (e : Nat) (w : World) (base : Nat) (ok : Nat → Prop) (v : Value) (xs : List α) : Prop :=
  (∀ k, v.ownBlock = some k → ok k) ∧ ∃ rows : List (List Value), rows.length = xs.length ∧ (raw d.sz).R e w base (fun k => some k = v.ownBlock) v rows ∧ ∀ (j : Nat) (x : α) (c : List Value), xs[j]? = some x → rows[j]? = some c → FK d w (fun k => ok k ∧ some k ≠ v.ownBlock) x c
end
end Kd
end Go.Proofs.YtbcpnpbkbndkjaaGreatDoorW.PrintWords
end
section
-- PRINTED BY print.sh 35421559b90ae4d0a3588c463048766b98c2df88dd9212a6774a882060cdf62d: not written by this session
namespace Go.Proofs.YtbcpnpbkbndkjaaGreatDoorW.PrintWords
open Go.RowKit
namespace Kd
section
variable {α : Type} {d : Kd α} {e base n cap g : Nat} {ok ok' okp : Nat → Prop} {w w1 W : World} {v v1 : Value} {xs ys : List α}
end
section
variable {P : Program} {ops : Array Oper} {rest : List Oper} {o : Oper} {a : Act} {Q : Exit → Act → World → Prop} {Kc : Act → World → Prop} {α : Type}
end
end Kd
end Go.Proofs.YtbcpnpbkbndkjaaGreatDoorW.PrintWords
end
section
-- PRINTED BY print.sh 35421559b90ae4d0a3588c463048766b98c2df88dd9212a6774a882060cdf62d: not written by this session
-- PRINTED WORDS (module Derived/Print/More.lean): go-gate-2's additions: an AI agent of Go's test side, Tue Nov 17 2026; no person has read it. Lean checks it.
namespace Go.Proofs.YtbcpnpbkbndkjaaGreatDoorW.PrintMore
open Go.RowKit Go.Proofs.YtbcpnpbkbndkjaaGreatDoorW.PrintWords
namespace Kd
open Go.Proofs.YtbcpnpbkbndkjaaGreatDoorW.PrintWords.Kd
end Kd

namespace Kd
open Go.Proofs.YtbcpnpbkbndkjaaGreatDoorW.PrintWords.Kd
section
variable {α : Type} {d : Kd α} {e base g N : Nat} {ok : Nat → Prop} {W w1 : World} {u v : Value} {xs : List α}
end
end Kd
end Go.Proofs.YtbcpnpbkbndkjaaGreatDoorW.PrintMore
namespace Go.Proofs.YtbcpnpbkbndkjaaGreatDoorW.PrintWords
open Go.RowKit
section
variable {P : Program} {ops : Array Oper} {rest : List Oper} {o : Oper} {a : Act} {Q : Exit → Act → World → Prop} {W : World}
end
def mn (a b : Int) : Int := if b < a then b else a
namespace Kd
section
variable {α : Type} {d : Kd α} {e base : Nat} {ok : Nat → Prop} {W w1 : World} {v : Value} {xs : List α}
end
section
variable {α : Type} {d : Kd α} {e base g n cap : Nat} {ok oki okp : Nat → Prop} {W : World} {xs : List α} {i : Int} {c : List Value}
end
section
variable {α : Type} {d : Kd α} {e base b b' g N : Nat} {ok ok1 : Nat → Prop} {W W2 w1 : World} {u v : Value} {xs ys : List α} {S : Nat → Prop}
end
end Kd
end Go.Proofs.YtbcpnpbkbndkjaaGreatDoorW.PrintWords
namespace Go.Proofs.YtbcpnpbkbndkjaaGreatDoorW.PrintWords
open Go.RowKit
namespace Kd
section
variable {α β : Type} {d : Kd α} {e base base' n m c g N' lo hi : Nat} {ok ok' S : Nat → Prop} {w W w1 : World} {A : Option Addr} {ad : Addr} {u v v1 : Value} {xs : List α}
end
end Kd
end Go.Proofs.YtbcpnpbkbndkjaaGreatDoorW.PrintWords
end
section
/- Words that this session's own contracts use: what is of no program. -/
namespace Go.Proofs.YtbcpnpbkbndkjaaGreatDoorH
open Go.RowKit Go.Proofs.YtbcpnpbkbndkjaaGreatDoorW.PrintWords Go.Proofs.YtbcpnpbkbndkjaaGreatDoorW.PrintLast Go.Proofs.YtbcpnpbkbndkjaaGreatDoorW.PrintMore

/-! Bytes of a string, as a row that is read: what was there stays. -/
section
variable {α : Type} {d : Kd α} {e : Nat} {w : World} {base : Nat} {ok : Nat → Prop} {v : Value} {xs : List α}
end
theorem bytesLess_turn : ∀ a b : List UInt8, (!(Op.bytesLess a b || a == b)) = Op.bytesLess b a
  | [], [] => rfl
  | [], _ :: _ => rfl
  | _ :: _, [] => rfl
  | x :: a, y :: b => by
    have ih := bytesLess_turn a b
    rcases Nat.lt_trichotomy x.toNat y.toNat with h | h | h
    · have h1 : x < y := UInt8.lt_iff_toNat_lt.2 h
      have h2 : ¬ y < x := fun z => by have := UInt8.lt_iff_toNat_lt.1 z; omega
      have h3 : ¬ y = x := fun z => by subst z; omega
      simp [Op.bytesLess, h1, h2, h3]
    · obtain rfl : x = y := UInt8.toNat_inj.1 h
      have h2 : ¬ x < x := fun z => by have := UInt8.lt_iff_toNat_lt.1 z; omega
      simp only [Op.bytesLess, h2, decide_false, Bool.false_or, beq_self_eq_true, Bool.true_and]
      rw [← ih]
      simp
    · have h1 : y < x := UInt8.lt_iff_toNat_lt.2 h
      have h2 : ¬ x < y := fun z => by have := UInt8.lt_iff_toNat_lt.1 z; omega
      have h3 : ¬ x = y := fun z => by subst z; omega
      simp [Op.bytesLess, h1, h2, h3]
@[go_sem] theorem binOp_str_gtr (t : TypeId) (a b : ByteArray) : binOp .gtr t (.string a) (.string b) = pure (.bool (Op.bytesLess b.toList a.toList)) := by
  rw [← bytesLess_turn]; simp [binOp, Op.stringOp]
@[go_sem] theorem binOp_str_leq (t : TypeId) (a b : ByteArray) : binOp .leq t (.string a) (.string b) = pure (.bool (!Op.bytesLess b.toList a.toList)) := by
  rw [← bytesLess_turn]; simp [binOp, Op.stringOp]
@[go_sem] theorem binOp_str_geq (t : TypeId) (a b : ByteArray) : binOp .geq t (.string a) (.string b) = pure (.bool (!Op.bytesLess a.toList b.toList)) := by
  simp [binOp, Op.stringOp]
theorem strOfNums_get! (l : List Int) (j : Nat) (hj : j < l.length) : (strOfNums l).get! j = UInt8.ofNat (l[j]).toNat := by
  simp [ByteArray.get!, strOfNums, hj]
/-! What the program lays: the two tables of unicode/utf8. -/
def Laid (w : World) : Prop := Lib.Utf8Tabs 0 1 w
theorem Laid_below {w W : World} (h : Laid w) (hb : Below w.heap.size w W) : Laid W := by
  have c : ∀ {a : Addr} {v : Value}, w.cell? a = some v → W.cell? a = some v := fun hv => (hb.cell (World.block_lt_of_cell? w _ hv)).trans hv
  exact ⟨fun i hi => c (h.1 i hi), fun i hi => ⟨c (h.2 i hi).1, c (h.2 i hi).2⟩⟩
end Go.Proofs.YtbcpnpbkbndkjaaGreatDoorH
end
section
set_option linter.unusedVariables false
namespace Go.Proofs.YtbcpnpbkbndkjaaGreatDoor.Q
open Go.RowKit Go.Proofs.YtbcpnpbkbndkjaaGreatDoorH Go.Proofs.YtbcpnpbkbndkjaaGreatDoorW.PrintWords Go.Proofs.YtbcpnpbkbndkjaaGreatDoorW.PrintLast Go.Proofs.YtbcpnpbkbndkjaaGreatDoorW.PrintMore
structure S182 where
 f0 : Int
 f1 : Int
def z182 : S182 := ⟨(0 : Int),(0 : Int)⟩
def rd_T182 (xs : List S182) (i : Int) : S182 := xs.getD i.toNat z182
structure S69 where
 f0 : Int
 f1 : ByteArray
 f2 : Int
def z69 : S69 := ⟨(0 : Int),(⟨#[]⟩ : ByteArray),(0 : Int)⟩
structure S40 where
 f0 : Int
 f1 : Int
 f2 : Bool
 f3 : ByteArray
structure S43 where
 f0 : Int
 f1 : S40
 f2 : ByteArray
 f3 : Int
 f4 : (List S43)
structure S38 where
 f0 : ByteArray
 f1 : Int
 f2 : Int
 f3 : (List S38)
 f4 : (List ByteArray)
structure S50 where
 f0 : ByteArray
 f1 : ByteArray
 f2 : Int
 f3 : Int
 f4 : (List Int)
 f5 : Int
structure S52 where
 f0 : ByteArray
 f1 : S40
 f2 : (List ByteArray)
def strings_TrimLeft.f (a0 : ByteArray) (a1 : ByteArray) : Option ByteArray := if a1.data.toList.all (fun b => decide (b.toNat < 128)) = true ∧ a1.size < 4294967281 then some ⟨(Lib.trimLeftS a0.data.toList a1.data.toList).toArray⟩ else none
def strings_IndexByte.f (a0 : ByteArray) (a1 : Int) : Option Int := some (Lib.indexByte a0.data.toList a1.toNat.toUInt8)
def lexer_is.f (a0 : Int) (a1 : ByteArray) : Option (Bool) := (strings_IndexByte.f a1 a0).bind fun t101 => (some (decide (t101 ≥ 0)))
def lexer_run.l0 : Nat → ByteArray → ByteArray → Int → Option (ByteArray)
 | 0,_,_,_ => none
 | k + 1,x0,x1,x5 => if x5 < (x0.size : Int) then (if 0 ≤ x5 then ((lexer_is.f (bt x0 x5) x1).bind fun t102 => (if t102 = true then (lexer_run.l0 k x0 x1 (wrap64 (x5 + 1))) else (if x5 ≤ (x0.size : Int) then (some (x0.extract 0 (x5 : Int).toNat)) else (none)))) else (none)) else (if 0 ≤ x5 then (if x5 ≤ (x0.size : Int) then (some (x0.extract 0 (x5 : Int).toNat)) else (none)) else (none))
def lexer_run.f (k : Nat) (a0 : ByteArray) (a1 : ByteArray) : Option (ByteArray) := lexer_run.l0 k a0 a1 0
theorem lexer_run.mono_l : ∀ k,(∀ y0 y1 y2,LeO (lexer_run.l0 k y0 y1 y2) (lexer_run.l0 (k + 1) y0 y1 y2))
 | 0 => fun _ _ _ r h => by simp [lexer_run.l0] at h
 | k + 1 => by
  have ih0 := lexer_run.mono_l k
  · intro y0 y1 y2
    unfold lexer_run.l0
    repeat' first
    | (with_reducible exact ih0 _ _ _)
    | (with_reducible exact LeO.refl _)
    | (with_reducible exact LeO.none _)
    | (with_reducible refine LeO.ite ?_ ?_)
    | (with_reducible refine LeO.bind ?_ (fun _ => ?_))
    | exact ih0 _ _ _
    | exact LeO.none _
    | refine LeO.ite ?_ ?_
    | refine LeO.bind ?_ (fun _ => ?_)
theorem lexer_run.mono : ∀ a0 a1 k,LeO (lexer_run.f k a0 a1) (lexer_run.f (k + 1) a0 a1) := by
 intro a0 a1 k
 have ih0 := lexer_run.mono_l k
 unfold lexer_run.f
 repeat' first
  | (with_reducible exact ih0 _ _ _)
  | (with_reducible exact LeO.refl _)
  | (with_reducible exact LeO.none _)
  | (with_reducible refine LeO.ite ?_ ?_)
  | (with_reducible refine LeO.bind ?_ (fun _ => ?_))
  | exact ih0 _ _ _
  | exact LeO.none _
  | refine LeO.ite ?_ ?_
  | refine LeO.bind ?_ (fun _ => ?_)
mutual
def chars_Number.j0 : Nat → ByteArray → Bool → Option (Int × Int)
 | 0,_,_ => none
 | k + 1,x0,x4 => if x4 = true then (if 1 ≤ (x0.size : Int) then (chars_Number.j1 k x0 x4 (x0.extract 1 x0.size)) else (none)) else (chars_Number.j1 k x0 x4 x0)
def chars_Number.j1 : Nat → ByteArray → Bool → ByteArray → Option (Int × Int)
 | 0,_,_,_ => none
 | k + 1,x0,x4,x5 => if x5.toList = ([] : List UInt8) then (chars_Number.j2 k x4 x5 true) else (if 0 < (x5.size : Int) then (if (bt x5 0) = 48 then (chars_Number.j2 k x4 x5 (decide ((x0.size : Int) > 1))) else (chars_Number.j2 k x4 x5 false)) else (none))
def chars_Number.j2 : Nat → Bool → ByteArray → Bool → Option (Int × Int)
 | 0,_,_,_ => none
 | k + 1,x4,x5,x34 => if x34 = true then (some (0,5)) else (if x5.size < 140737488355328 then (chars_Number.l0 k x4 0 (decide ((x5.size : Int) > 19)) x5 (x5.size : Int) 0) else none)
def chars_Number.l0 : Nat → Bool → Int → Bool → ByteArray → Int → Int → Option (Int × Int)
 | 0,_,_,_,_,_,_ => none
 | k + 1,x4,x6,x7,x39,x40,x41 => if x41 < x40 then (if 0 ≤ x41 then (if x41 < (x39.size : Int) then (if (bt x39 x41) < 48 then (chars_Number.j4 k x4 x6 x7 (bt x39 x41) x39 x40 x41 true) else (chars_Number.j4 k x4 x6 x7 (bt x39 x41) x39 x40 x41 (decide ((bt x39 x41) > 57)))) else (none)) else (none)) else (if x4 = true then (chars_Number.j5 k x4 x6 x7 9223372036854775808) else (chars_Number.j5 k x4 x6 x7 (9223372036854775808 - 1)))
def chars_Number.j4 : Nat → Bool → Int → Bool → Int → ByteArray → Int → Int → Bool → Option (Int × Int)
 | 0,_,_,_,_,_,_,_,_ => none
 | k + 1,x4,x6,x7,x9,x39,x40,x41,x50 => if x50 = true then (some (0,5)) else (if x7 = true then (chars_Number.l0 k x4 x6 x7 x39 x40 (wrap64 (x41 + 1))) else (chars_Number.l0 k x4 (IntKind.u64.wrap ((IntKind.u64.wrap (10 * x6)) + ((x9 - 48) % 256))) x7 x39 x40 (wrap64 (x41 + 1))))
def chars_Number.j5 : Nat → Bool → Int → Bool → Int → Option (Int × Int)
 | 0,_,_,_,_ => none
 | k + 1,x4,x6,x7,x10 => if x7 = true then (chars_Number.j6 k x4 x6 true) else (chars_Number.j6 k x4 x6 (decide (x6 > x10)))
def chars_Number.j6 : Nat → Bool → Int → Bool → Option (Int × Int)
 | 0,_,_,_ => none
 | k + 1,x4,x6,x64 => if x64 = true then (some (0,4)) else (if x4 = true then (some (wrap64 (-(wrap64 (x6))),0)) else (some (wrap64 (x6),0)))
end
def chars_Number.f (k : Nat) (a0 : ByteArray) : Option (Int × Int) := if (a0.size : Int) > 0 then (if 0 < (a0.size : Int) then (chars_Number.j0 k a0 ((bt a0 0) == 45)) else (none)) else (chars_Number.j0 k a0 false)
theorem chars_Number.mono_l : ∀ k,(∀ y0 y1,LeO (chars_Number.j0 k y0 y1) (chars_Number.j0 (k + 1) y0 y1)) ∧ (∀ y0 y1 y2,LeO (chars_Number.j1 k y0 y1 y2) (chars_Number.j1 (k + 1) y0 y1 y2)) ∧ (∀ y0 y1 y2,LeO (chars_Number.j2 k y0 y1 y2) (chars_Number.j2 (k + 1) y0 y1 y2)) ∧ (∀ y0 y1 y2 y3 y4 y5,LeO (chars_Number.l0 k y0 y1 y2 y3 y4 y5) (chars_Number.l0 (k + 1) y0 y1 y2 y3 y4 y5)) ∧ (∀ y0 y1 y2 y3 y4 y5 y6 y7,LeO (chars_Number.j4 k y0 y1 y2 y3 y4 y5 y6 y7) (chars_Number.j4 (k + 1) y0 y1 y2 y3 y4 y5 y6 y7)) ∧ (∀ y0 y1 y2 y3,LeO (chars_Number.j5 k y0 y1 y2 y3) (chars_Number.j5 (k + 1) y0 y1 y2 y3)) ∧ (∀ y0 y1 y2,LeO (chars_Number.j6 k y0 y1 y2) (chars_Number.j6 (k + 1) y0 y1 y2))
 | 0 => ⟨fun _ _ r h => by simp [chars_Number.j0] at h,fun _ _ _ r h => by simp [chars_Number.j1] at h,fun _ _ _ r h => by simp [chars_Number.j2] at h,fun _ _ _ _ _ _ r h => by simp [chars_Number.l0] at h,fun _ _ _ _ _ _ _ _ r h => by simp [chars_Number.j4] at h,fun _ _ _ _ r h => by simp [chars_Number.j5] at h,fun _ _ _ r h => by simp [chars_Number.j6] at h⟩
 | k + 1 => by
  obtain ⟨ih0,ih1,ih2,ih3,ih4,ih5,ih6⟩ := chars_Number.mono_l k
  refine ⟨?_,?_,?_,?_,?_,?_,?_⟩
  · intro y0 y1
    unfold chars_Number.j0
    repeat' first
    | (with_reducible exact ih0 _ _)
    | (with_reducible exact ih1 _ _ _)
    | (with_reducible exact ih2 _ _ _)
    | (with_reducible exact ih3 _ _ _ _ _ _)
    | (with_reducible exact ih4 _ _ _ _ _ _ _ _)
    | (with_reducible exact ih5 _ _ _ _)
    | (with_reducible exact ih6 _ _ _)
    | (with_reducible exact LeO.refl _)
    | (with_reducible exact LeO.none _)
    | (with_reducible refine LeO.ite ?_ ?_)
    | (with_reducible refine LeO.bind ?_ (fun _ => ?_))
    | exact ih0 _ _
    | exact ih1 _ _ _
    | exact ih2 _ _ _
    | exact ih3 _ _ _ _ _ _
    | exact ih4 _ _ _ _ _ _ _ _
    | exact ih5 _ _ _ _
    | exact ih6 _ _ _
    | exact LeO.none _
    | refine LeO.ite ?_ ?_
    | refine LeO.bind ?_ (fun _ => ?_)
  · intro y0 y1 y2
    unfold chars_Number.j1
    repeat' first
    | (with_reducible exact ih0 _ _)
    | (with_reducible exact ih1 _ _ _)
    | (with_reducible exact ih2 _ _ _)
    | (with_reducible exact ih3 _ _ _ _ _ _)
    | (with_reducible exact ih4 _ _ _ _ _ _ _ _)
    | (with_reducible exact ih5 _ _ _ _)
    | (with_reducible exact ih6 _ _ _)
    | (with_reducible exact LeO.refl _)
    | (with_reducible exact LeO.none _)
    | (with_reducible refine LeO.ite ?_ ?_)
    | (with_reducible refine LeO.bind ?_ (fun _ => ?_))
    | exact ih0 _ _
    | exact ih1 _ _ _
    | exact ih2 _ _ _
    | exact ih3 _ _ _ _ _ _
    | exact ih4 _ _ _ _ _ _ _ _
    | exact ih5 _ _ _ _
    | exact ih6 _ _ _
    | exact LeO.none _
    | refine LeO.ite ?_ ?_
    | refine LeO.bind ?_ (fun _ => ?_)
  · intro y0 y1 y2
    unfold chars_Number.j2
    repeat' first
    | (with_reducible exact ih0 _ _)
    | (with_reducible exact ih1 _ _ _)
    | (with_reducible exact ih2 _ _ _)
    | (with_reducible exact ih3 _ _ _ _ _ _)
    | (with_reducible exact ih4 _ _ _ _ _ _ _ _)
    | (with_reducible exact ih5 _ _ _ _)
    | (with_reducible exact ih6 _ _ _)
    | (with_reducible exact LeO.refl _)
    | (with_reducible exact LeO.none _)
    | (with_reducible refine LeO.ite ?_ ?_)
    | (with_reducible refine LeO.bind ?_ (fun _ => ?_))
    | exact ih0 _ _
    | exact ih1 _ _ _
    | exact ih2 _ _ _
    | exact ih3 _ _ _ _ _ _
    | exact ih4 _ _ _ _ _ _ _ _
    | exact ih5 _ _ _ _
    | exact ih6 _ _ _
    | exact LeO.none _
    | refine LeO.ite ?_ ?_
    | refine LeO.bind ?_ (fun _ => ?_)
  · intro y0 y1 y2 y3 y4 y5
    unfold chars_Number.l0
    repeat' first
    | (with_reducible exact ih0 _ _)
    | (with_reducible exact ih1 _ _ _)
    | (with_reducible exact ih2 _ _ _)
    | (with_reducible exact ih3 _ _ _ _ _ _)
    | (with_reducible exact ih4 _ _ _ _ _ _ _ _)
    | (with_reducible exact ih5 _ _ _ _)
    | (with_reducible exact ih6 _ _ _)
    | (with_reducible exact LeO.refl _)
    | (with_reducible exact LeO.none _)
    | (with_reducible refine LeO.ite ?_ ?_)
    | (with_reducible refine LeO.bind ?_ (fun _ => ?_))
    | exact ih0 _ _
    | exact ih1 _ _ _
    | exact ih2 _ _ _
    | exact ih3 _ _ _ _ _ _
    | exact ih4 _ _ _ _ _ _ _ _
    | exact ih5 _ _ _ _
    | exact ih6 _ _ _
    | exact LeO.none _
    | refine LeO.ite ?_ ?_
    | refine LeO.bind ?_ (fun _ => ?_)
  · intro y0 y1 y2 y3 y4 y5 y6 y7
    unfold chars_Number.j4
    repeat' first
    | (with_reducible exact ih0 _ _)
    | (with_reducible exact ih1 _ _ _)
    | (with_reducible exact ih2 _ _ _)
    | (with_reducible exact ih3 _ _ _ _ _ _)
    | (with_reducible exact ih4 _ _ _ _ _ _ _ _)
    | (with_reducible exact ih5 _ _ _ _)
    | (with_reducible exact ih6 _ _ _)
    | (with_reducible exact LeO.refl _)
    | (with_reducible exact LeO.none _)
    | (with_reducible refine LeO.ite ?_ ?_)
    | (with_reducible refine LeO.bind ?_ (fun _ => ?_))
    | exact ih0 _ _
    | exact ih1 _ _ _
    | exact ih2 _ _ _
    | exact ih3 _ _ _ _ _ _
    | exact ih4 _ _ _ _ _ _ _ _
    | exact ih5 _ _ _ _
    | exact ih6 _ _ _
    | exact LeO.none _
    | refine LeO.ite ?_ ?_
    | refine LeO.bind ?_ (fun _ => ?_)
  · intro y0 y1 y2 y3
    unfold chars_Number.j5
    repeat' first
    | (with_reducible exact ih0 _ _)
    | (with_reducible exact ih1 _ _ _)
    | (with_reducible exact ih2 _ _ _)
    | (with_reducible exact ih3 _ _ _ _ _ _)
    | (with_reducible exact ih4 _ _ _ _ _ _ _ _)
    | (with_reducible exact ih5 _ _ _ _)
    | (with_reducible exact ih6 _ _ _)
    | (with_reducible exact LeO.refl _)
    | (with_reducible exact LeO.none _)
    | (with_reducible refine LeO.ite ?_ ?_)
    | (with_reducible refine LeO.bind ?_ (fun _ => ?_))
    | exact ih0 _ _
    | exact ih1 _ _ _
    | exact ih2 _ _ _
    | exact ih3 _ _ _ _ _ _
    | exact ih4 _ _ _ _ _ _ _ _
    | exact ih5 _ _ _ _
    | exact ih6 _ _ _
    | exact LeO.none _
    | refine LeO.ite ?_ ?_
    | refine LeO.bind ?_ (fun _ => ?_)
  · intro y0 y1 y2
    unfold chars_Number.j6
    repeat' first
    | (with_reducible exact ih0 _ _)
    | (with_reducible exact ih1 _ _ _)
    | (with_reducible exact ih2 _ _ _)
    | (with_reducible exact ih3 _ _ _ _ _ _)
    | (with_reducible exact ih4 _ _ _ _ _ _ _ _)
    | (with_reducible exact ih5 _ _ _ _)
    | (with_reducible exact ih6 _ _ _)
    | (with_reducible exact LeO.refl _)
    | (with_reducible exact LeO.none _)
    | (with_reducible refine LeO.ite ?_ ?_)
    | (with_reducible refine LeO.bind ?_ (fun _ => ?_))
    | exact ih0 _ _
    | exact ih1 _ _ _
    | exact ih2 _ _ _
    | exact ih3 _ _ _ _ _ _
    | exact ih4 _ _ _ _ _ _ _ _
    | exact ih5 _ _ _ _
    | exact ih6 _ _ _
    | exact LeO.none _
    | refine LeO.ite ?_ ?_
    | refine LeO.bind ?_ (fun _ => ?_)
theorem chars_Number.mono : ∀ a0 k,LeO (chars_Number.f k a0) (chars_Number.f (k + 1) a0) := by
 intro a0 k
 obtain ⟨ih0,ih1,ih2,ih3,ih4,ih5,ih6⟩ := chars_Number.mono_l k
 unfold chars_Number.f
 repeat' first
  | (with_reducible exact ih0 _ _)
  | (with_reducible exact ih1 _ _ _)
  | (with_reducible exact ih2 _ _ _)
  | (with_reducible exact ih3 _ _ _ _ _ _)
  | (with_reducible exact ih4 _ _ _ _ _ _ _ _)
  | (with_reducible exact ih5 _ _ _ _)
  | (with_reducible exact ih6 _ _ _)
  | (with_reducible exact LeO.refl _)
  | (with_reducible exact LeO.none _)
  | (with_reducible refine LeO.ite ?_ ?_)
  | (with_reducible refine LeO.bind ?_ (fun _ => ?_))
  | exact ih0 _ _
  | exact ih1 _ _ _
  | exact ih2 _ _ _
  | exact ih3 _ _ _ _ _ _
  | exact ih4 _ _ _ _ _ _ _ _
  | exact ih5 _ _ _ _
  | exact ih6 _ _ _
  | exact LeO.none _
  | refine LeO.ite ?_ ?_
  | refine LeO.bind ?_ (fun _ => ?_)
def utf8_DecodeRune.f (l0 : List Int) : Option (Int × Int) := if (l0.all fun x => decide (0 ≤ x) && decide (x < 256)) = true then some (((Lib.decodeGo (strOfNums l0)).1 : Int),((Lib.decodeGo (strOfNums l0)).2 : Int)) else none
def chars_Decode.f (l0 : List Int) : Option (Int × Int) := (utf8_DecodeRune.f l0).bind fun bt103 => (if bt103.1 = 65533 then (if bt103.2 ≤ 1 then (some (0,0)) else (some (wrap64 (bt103.1),bt103.2))) else (some (wrap64 (bt103.1),bt103.2)))
def chars_in.l0 : Nat → Int → List (S182) → Int → Int → Option (Bool)
 | 0,_,_,_,_ => none
 | k + 1,x0,x7,x8,x9 => if x9 < x8 then (if 0 ≤ x9 then (if x9 < (x7.length : Int) then (if ((rd_T182 x7 x9).f0) ≤ x0 then (if x0 ≤ ((rd_T182 x7 x9).f1) then (some true) else (chars_in.l0 k x0 x7 x8 (wrap64 (x9 + 1)))) else (chars_in.l0 k x0 x7 x8 (wrap64 (x9 + 1)))) else (none)) else (none)) else (some false)
def chars_in.f (k : Nat) (a0 : Int) (l1 : List (S182)) : Option (Bool) := chars_in.l0 k a0 l1 (l1.length : Int) 0
theorem chars_in.mono_l : ∀ k,(∀ y0 y1 y2 y3,LeO (chars_in.l0 k y0 y1 y2 y3) (chars_in.l0 (k + 1) y0 y1 y2 y3))
 | 0 => fun _ _ _ _ r h => by simp [chars_in.l0] at h
 | k + 1 => by
  have ih0 := chars_in.mono_l k
  · intro y0 y1 y2 y3
    unfold chars_in.l0
    repeat' first
    | (with_reducible exact ih0 _ _ _ _)
    | (with_reducible exact LeO.refl _)
    | (with_reducible exact LeO.none _)
    | (with_reducible refine LeO.ite ?_ ?_)
    | (with_reducible refine LeO.bind ?_ (fun _ => ?_))
    | exact ih0 _ _ _ _
    | exact LeO.none _
    | refine LeO.ite ?_ ?_
    | refine LeO.bind ?_ (fun _ => ?_)
theorem chars_in.mono : ∀ a0 a1 k,LeO (chars_in.f k a0 a1) (chars_in.f (k + 1) a0 a1) := by
 intro a0 a1 k
 have ih0 := chars_in.mono_l k
 unfold chars_in.f
 repeat' first
  | (with_reducible exact ih0 _ _ _ _)
  | (with_reducible exact LeO.refl _)
  | (with_reducible exact LeO.none _)
  | (with_reducible refine LeO.ite ?_ ?_)
  | (with_reducible refine LeO.bind ?_ (fun _ => ?_))
  | exact ih0 _ _ _ _
  | exact LeO.none _
  | refine LeO.ite ?_ ?_
  | refine LeO.bind ?_ (fun _ => ?_)
def chars_ofXML.f (k : Nat) (a0 : Int) : Option (Bool) := (chars_in.f k a0 (([(⟨32,55295⟩ : S182),(⟨9,10⟩ : S182),(⟨13,13⟩ : S182),(⟨57344,65533⟩ : S182),(⟨65536,1114111⟩ : S182)] : List (S182)))).bind fun t110 => (some t110)
theorem chars_ofXML.mono : ∀ a0 k,LeO (chars_ofXML.f k a0) (chars_ofXML.f (k + 1) a0) := by
 intro a0 k
 unfold chars_ofXML.f
 repeat' first
  | (with_reducible exact chars_in.mono _ _ _)
  | (with_reducible exact LeO.refl _)
  | (with_reducible exact LeO.none _)
  | (with_reducible refine LeO.ite ?_ ?_)
  | (with_reducible refine LeO.bind ?_ (fun _ => ?_))
  | exact chars_in.mono _ _ _
  | exact LeO.none _
  | refine LeO.ite ?_ ?_
  | refine LeO.bind ?_ (fun _ => ?_)
def chars_Wrong.l0 : Nat → List Int → Int → Option (Int)
 | 0,_,_ => none
 | k + 1,x0,x3 => if x3 < (x0.length : Int) then (if 0 ≤ x3 then (if x3 ≤ (x0.length : Int) then ((chars_Decode.f (x0.drop (x3 : Int).toNat)).bind fun bt112 => (if bt112.2 = 0 then (some x3) else ((chars_ofXML.f k bt112.1).bind fun t114 => (if t114 = true then (chars_Wrong.l0 k x0 (wrap64 (x3 + bt112.2))) else (some x3))))) else (none)) else (none)) else (some (-1))
def chars_Wrong.f (k : Nat) (l0 : List Int) : Option (Int) := chars_Wrong.l0 k l0 0
theorem chars_Wrong.mono_l : ∀ k,(∀ y0 y1,LeO (chars_Wrong.l0 k y0 y1) (chars_Wrong.l0 (k + 1) y0 y1))
 | 0 => fun _ _ r h => by simp [chars_Wrong.l0] at h
 | k + 1 => by
  have ih0 := chars_Wrong.mono_l k
  · intro y0 y1
    unfold chars_Wrong.l0
    repeat' first
    | (with_reducible exact ih0 _ _)
    | (with_reducible exact chars_ofXML.mono _ _)
    | (with_reducible exact LeO.refl _)
    | (with_reducible exact LeO.none _)
    | (with_reducible refine LeO.ite ?_ ?_)
    | (with_reducible refine LeO.bind ?_ (fun _ => ?_))
    | exact ih0 _ _
    | exact chars_ofXML.mono _ _
    | exact LeO.none _
    | refine LeO.ite ?_ ?_
    | refine LeO.bind ?_ (fun _ => ?_)
theorem chars_Wrong.mono : ∀ a0 k,LeO (chars_Wrong.f k a0) (chars_Wrong.f (k + 1) a0) := by
 intro a0 k
 have ih0 := chars_Wrong.mono_l k
 unfold chars_Wrong.f
 repeat' first
  | (with_reducible exact ih0 _ _)
  | (with_reducible exact chars_ofXML.mono _ _)
  | (with_reducible exact LeO.refl _)
  | (with_reducible exact LeO.none _)
  | (with_reducible refine LeO.ite ?_ ?_)
  | (with_reducible refine LeO.bind ?_ (fun _ => ?_))
  | exact ih0 _ _
  | exact chars_ofXML.mono _ _
  | exact LeO.none _
  | refine LeO.ite ?_ ?_
  | refine LeO.bind ?_ (fun _ => ?_)
mutual
def lexer_quoted.l0 : Nat → ByteArray → List Int → Int → Option (ByteArray × Int)
 | 0,_,_,_ => none
 | k + 1,x0,x4,x5 => if x5 < (x0.size : Int) then (if 0 ≤ x5 then (if (bt x0 x5) = 34 then (if (x4.length : Int) > 256 then (lexer_quoted.j1 k x4 x5 true) else ((chars_Wrong.f k x4).bind fun t122 => (lexer_quoted.j1 k x4 x5 (decide (t122 ≥ 0))))) else (if (bt x0 x5) = 92 then (if (wrap64 (x5 + 1)) = (x0.size : Int) then (some ((⟨#[]⟩ : ByteArray),0)) else (if 0 ≤ (wrap64 (x5 + 1)) then (if (wrap64 (x5 + 1)) < (x0.size : Int) then ((lexer_is.f (bt x0 (wrap64 (x5 + 1))) (⟨#[34,92]⟩ : ByteArray)).bind fun t115 => (if t115 = true then (if x4.length < 140737488355328 then (lexer_quoted.l0 k x0 (x4 ++ [bt x0 (wrap64 (x5 + 1))]) (wrap64 ((wrap64 (x5 + 1)) + 1))) else (none)) else (some ((⟨#[]⟩ : ByteArray),0)))) else (none)) else (none))) else (if x4.length < 140737488355328 then (lexer_quoted.l0 k x0 (x4 ++ [bt x0 x5]) (wrap64 (x5 + 1))) else (none)))) else (none)) else (some ((⟨#[]⟩ : ByteArray),0))
def lexer_quoted.j1 : Nat → List Int → Int → Bool → Option (ByteArray × Int)
 | 0,_,_,_ => none
 | k + 1,x4,x5,x29 => if x29 = true then (some ((⟨#[]⟩ : ByteArray),0)) else (some (strOfNums x4,wrap64 (x5 + 1)))
end
def lexer_quoted.f (k : Nat) (a0 : ByteArray) : Option (ByteArray × Int) := lexer_quoted.l0 k a0 ([] : List Int) 1
theorem lexer_quoted.mono_l : ∀ k,(∀ y0 y1 y2,LeO (lexer_quoted.l0 k y0 y1 y2) (lexer_quoted.l0 (k + 1) y0 y1 y2)) ∧ (∀ y0 y1 y2,LeO (lexer_quoted.j1 k y0 y1 y2) (lexer_quoted.j1 (k + 1) y0 y1 y2))
 | 0 => ⟨fun _ _ _ r h => by simp [lexer_quoted.l0] at h,fun _ _ _ r h => by simp [lexer_quoted.j1] at h⟩
 | k + 1 => by
  obtain ⟨ih0,ih1⟩ := lexer_quoted.mono_l k
  refine ⟨?_,?_⟩
  · intro y0 y1 y2
    unfold lexer_quoted.l0
    repeat' first
    | (with_reducible exact ih0 _ _ _)
    | (with_reducible exact ih1 _ _ _)
    | (with_reducible exact chars_Wrong.mono _ _)
    | (with_reducible exact LeO.refl _)
    | (with_reducible exact LeO.none _)
    | (with_reducible refine LeO.ite ?_ ?_)
    | (with_reducible refine LeO.bind ?_ (fun _ => ?_))
    | exact ih0 _ _ _
    | exact ih1 _ _ _
    | exact chars_Wrong.mono _ _
    | exact LeO.none _
    | refine LeO.ite ?_ ?_
    | refine LeO.bind ?_ (fun _ => ?_)
  · intro y0 y1 y2
    unfold lexer_quoted.j1
    repeat' first
    | (with_reducible exact ih0 _ _ _)
    | (with_reducible exact ih1 _ _ _)
    | (with_reducible exact chars_Wrong.mono _ _)
    | (with_reducible exact LeO.refl _)
    | (with_reducible exact LeO.none _)
    | (with_reducible refine LeO.ite ?_ ?_)
    | (with_reducible refine LeO.bind ?_ (fun _ => ?_))
    | exact ih0 _ _ _
    | exact ih1 _ _ _
    | exact chars_Wrong.mono _ _
    | exact LeO.none _
    | refine LeO.ite ?_ ?_
    | refine LeO.bind ?_ (fun _ => ?_)
theorem lexer_quoted.mono : ∀ a0 k,LeO (lexer_quoted.f k a0) (lexer_quoted.f (k + 1) a0) := by
 intro a0 k
 obtain ⟨ih0,ih1⟩ := lexer_quoted.mono_l k
 unfold lexer_quoted.f
 repeat' first
  | (with_reducible exact ih0 _ _ _)
  | (with_reducible exact ih1 _ _ _)
  | (with_reducible exact chars_Wrong.mono _ _)
  | (with_reducible exact LeO.refl _)
  | (with_reducible exact LeO.none _)
  | (with_reducible refine LeO.ite ?_ ?_)
  | (with_reducible refine LeO.bind ?_ (fun _ => ?_))
  | exact ih0 _ _ _
  | exact ih1 _ _ _
  | exact chars_Wrong.mono _ _
  | exact LeO.none _
  | refine LeO.ite ?_ ?_
  | refine LeO.bind ?_ (fun _ => ?_)
def lexer_sign.l0 : Nat → ByteArray → Int → Option (ByteArray)
 | 0,_,_ => none
 | k + 1,x0,x3 => if x3 > 0 then (if 0 ≤ x3 then (if x3 ≤ (x0.size : Int) then (if (x0.extract 0 (x3 : Int).toNat).toList = ([60,61] : List UInt8) then (some (x0.extract 0 (x3 : Int).toNat)) else (if (x0.extract 0 (x3 : Int).toNat).toList = ([62,61] : List UInt8) then (some (x0.extract 0 (x3 : Int).toNat)) else (if (x0.extract 0 (x3 : Int).toNat).toList = ([33,61] : List UInt8) then (some (x0.extract 0 (x3 : Int).toNat)) else (if (x0.extract 0 (x3 : Int).toNat).toList = ([40] : List UInt8) then (some (x0.extract 0 (x3 : Int).toNat)) else (if (x0.extract 0 (x3 : Int).toNat).toList = ([41] : List UInt8) then (some (x0.extract 0 (x3 : Int).toNat)) else (if (x0.extract 0 (x3 : Int).toNat).toList = ([46] : List UInt8) then (some (x0.extract 0 (x3 : Int).toNat)) else (if (x0.extract 0 (x3 : Int).toNat).toList = ([44] : List UInt8) then (some (x0.extract 0 (x3 : Int).toNat)) else (if (x0.extract 0 (x3 : Int).toNat).toList = ([43] : List UInt8) then (some (x0.extract 0 (x3 : Int).toNat)) else (if (x0.extract 0 (x3 : Int).toNat).toList = ([45] : List UInt8) then (some (x0.extract 0 (x3 : Int).toNat)) else (if (x0.extract 0 (x3 : Int).toNat).toList = ([42] : List UInt8) then (some (x0.extract 0 (x3 : Int).toNat)) else (if (x0.extract 0 (x3 : Int).toNat).toList = ([47] : List UInt8) then (some (x0.extract 0 (x3 : Int).toNat)) else (if (x0.extract 0 (x3 : Int).toNat).toList = ([37] : List UInt8) then (some (x0.extract 0 (x3 : Int).toNat)) else (if (x0.extract 0 (x3 : Int).toNat).toList = ([60] : List UInt8) then (some (x0.extract 0 (x3 : Int).toNat)) else (if (x0.extract 0 (x3 : Int).toNat).toList = ([62] : List UInt8) then (some (x0.extract 0 (x3 : Int).toNat)) else (if (x0.extract 0 (x3 : Int).toNat).toList = ([61] : List UInt8) then (some (x0.extract 0 (x3 : Int).toNat)) else (lexer_sign.l0 k x0 (wrap64 (x3 - 1)))))))))))))))))) else (none)) else (none)) else (some (⟨#[]⟩ : ByteArray))
def lexer_sign.f (k : Nat) (a0 : ByteArray) : Option (ByteArray) := lexer_sign.l0 k a0 (mn 2 (a0.size : Int))
theorem lexer_sign.mono_l : ∀ k,(∀ y0 y1,LeO (lexer_sign.l0 k y0 y1) (lexer_sign.l0 (k + 1) y0 y1))
 | 0 => fun _ _ r h => by simp [lexer_sign.l0] at h
 | k + 1 => by
  have ih0 := lexer_sign.mono_l k
  · intro y0 y1
    unfold lexer_sign.l0
    repeat' first
    | (with_reducible exact ih0 _ _)
    | (with_reducible exact LeO.refl _)
    | (with_reducible exact LeO.none _)
    | (with_reducible refine LeO.ite ?_ ?_)
    | (with_reducible refine LeO.bind ?_ (fun _ => ?_))
    | exact ih0 _ _
    | exact LeO.none _
    | refine LeO.ite ?_ ?_
    | refine LeO.bind ?_ (fun _ => ?_)
theorem lexer_sign.mono : ∀ a0 k,LeO (lexer_sign.f k a0) (lexer_sign.f (k + 1) a0) := by
 intro a0 k
 have ih0 := lexer_sign.mono_l k
 unfold lexer_sign.f
 repeat' first
  | (with_reducible exact ih0 _ _)
  | (with_reducible exact LeO.refl _)
  | (with_reducible exact LeO.none _)
  | (with_reducible refine LeO.ite ?_ ?_)
  | (with_reducible refine LeO.bind ?_ (fun _ => ?_))
  | exact ih0 _ _
  | exact LeO.none _
  | refine LeO.ite ?_ ?_
  | refine LeO.bind ?_ (fun _ => ?_)
def lexer_word.f (k : Nat) (a0 : ByteArray) : Option (Int × ByteArray × Int × Int) := if 0 < (a0.size : Int) then ((lexer_is.f (bt a0 0) (⟨#[65,66,67,68,69,70,71,72,73,74,75,76,77,78,79,80,81,82,83,84,85,86,87,88,89,90,97,98,99,100,101,102,103,104,105,106,107,108,109,110,111,112,113,114,115,116,117,118,119,120,121,122,95]⟩ : ByteArray)).bind fun t124 => (if t124 = true then ((lexer_run.f k a0 (⟨#[65,66,67,68,69,70,71,72,73,74,75,76,77,78,79,80,81,82,83,84,85,86,87,88,89,90,97,98,99,100,101,102,103,104,105,106,107,108,109,110,111,112,113,114,115,116,117,118,119,120,121,122,95,48,49,50,51,52,53,54,55,56,57]⟩ : ByteArray)).bind fun t125 => (some (1,t125,0,(t125.size : Int)))) else ((lexer_is.f (bt a0 0) (⟨#[48,49,50,51,52,53,54,55,56,57]⟩ : ByteArray)).bind fun t126 => (if t126 = true then ((lexer_run.f k a0 (⟨#[48,49,50,51,52,53,54,55,56,57]⟩ : ByteArray)).bind fun t127 => ((chars_Number.f k t127).bind fun bt128 => (if bt128.2 = 0 then (some (2,(⟨#[]⟩ : ByteArray),bt128.1,(t127.size : Int))) else (some (0,(⟨#[]⟩ : ByteArray),0,0))))) else (if (bt a0 0) = 34 then ((lexer_quoted.f k a0).bind fun bt130 => (some (3,bt130.1,0,bt130.2))) else ((lexer_sign.f k a0).bind fun t132 => (some (4,t132,0,(t132.size : Int))))))))) else (none)
theorem lexer_word.mono : ∀ a0 k,LeO (lexer_word.f k a0) (lexer_word.f (k + 1) a0) := by
 intro a0 k
 unfold lexer_word.f
 repeat' first
  | (with_reducible exact chars_Number.mono _ _)
  | (with_reducible exact lexer_quoted.mono _ _)
  | (with_reducible exact lexer_run.mono _ _ _)
  | (with_reducible exact lexer_sign.mono _ _)
  | (with_reducible exact LeO.refl _)
  | (with_reducible exact LeO.none _)
  | (with_reducible refine LeO.ite ?_ ?_)
  | (with_reducible refine LeO.bind ?_ (fun _ => ?_))
  | exact chars_Number.mono _ _
  | exact lexer_quoted.mono _ _
  | exact lexer_run.mono _ _ _
  | exact lexer_sign.mono _ _
  | exact LeO.none _
  | refine LeO.ite ?_ ?_
  | refine LeO.bind ?_ (fun _ => ?_)
def lexer_Words.l0 : Nat → ByteArray → List (S69) → ByteArray → Option ((List (S69)) × Int × Int)
 | 0,_,_,_ => none
 | k + 1,x0,x5,x6 => if x6.toList = ([] : List UInt8) then (if x5.length < 4398046511104 then (some ((x5 ++ [(⟨0,(⟨#[]⟩ : ByteArray),0⟩ : S69)]),0,0)) else (none)) else ((lexer_word.f k x6).bind fun bt137 => (if bt137.2.2.2 = 0 then (some (([] : List (S69)),wrap64 ((x0.size : Int) - (x6.size : Int)),20)) else (if x5.length < 4398046511104 then (if 0 ≤ bt137.2.2.2 then (if bt137.2.2.2 ≤ (x6.size : Int) then ((strings_TrimLeft.f (x6.extract (bt137.2.2.2 : Int).toNat x6.size) (⟨#[32,9,10,13]⟩ : ByteArray)).bind fun t145 => (lexer_Words.l0 k x0 (x5 ++ [(⟨bt137.1,bt137.2.1,bt137.2.2.1⟩ : S69)]) t145)) else (none)) else (none)) else (none))))
def lexer_Words.f (k : Nat) (a0 : ByteArray) : Option ((List (S69)) × Int × Int) := if (a0.size : Int) > 400 then (some (([] : List (S69)),0,4)) else ((strings_TrimLeft.f a0 (⟨#[32,9,10,13]⟩ : ByteArray)).bind fun t133 => (lexer_Words.l0 k a0 ([] : List (S69)) t133))
theorem lexer_Words.mono_l : ∀ k,(∀ y0 y1 y2,LeO (lexer_Words.l0 k y0 y1 y2) (lexer_Words.l0 (k + 1) y0 y1 y2))
 | 0 => fun _ _ _ r h => by simp [lexer_Words.l0] at h
 | k + 1 => by
  have ih0 := lexer_Words.mono_l k
  · intro y0 y1 y2
    unfold lexer_Words.l0
    repeat' first
    | (with_reducible exact ih0 _ _ _)
    | (with_reducible exact lexer_word.mono _ _)
    | (with_reducible exact LeO.refl _)
    | (with_reducible exact LeO.none _)
    | (with_reducible refine LeO.ite ?_ ?_)
    | (with_reducible refine LeO.bind ?_ (fun _ => ?_))
    | exact ih0 _ _ _
    | exact lexer_word.mono _ _
    | exact LeO.none _
    | refine LeO.ite ?_ ?_
    | refine LeO.bind ?_ (fun _ => ?_)
theorem lexer_Words.mono : ∀ a0 k,LeO (lexer_Words.f k a0) (lexer_Words.f (k + 1) a0) := by
 intro a0 k
 have ih0 := lexer_Words.mono_l k
 unfold lexer_Words.f
 repeat' first
  | (with_reducible exact ih0 _ _ _)
  | (with_reducible exact lexer_word.mono _ _)
  | (with_reducible exact LeO.refl _)
  | (with_reducible exact LeO.none _)
  | (with_reducible refine LeO.ite ?_ ?_)
  | (with_reducible refine LeO.bind ?_ (fun _ => ?_))
  | exact ih0 _ _ _
  | exact lexer_word.mono _ _
  | exact LeO.none _
  | refine LeO.ite ?_ ?_
  | refine LeO.bind ?_ (fun _ => ?_)
def strings_Join.f (l0 : List ByteArray) (a1 : ByteArray) : Option ByteArray := if l0.length ≤ 140737488355328 ∧ (Lib.join (l0.map (·.data.toList)) a1.data.toList).length ≤ 140737488355328 then some ⟨(Lib.join (l0.map (·.data.toList)) a1.data.toList).toArray⟩ else none
def dossierref01_Space.f (a0 : Int) : Option (Bool) := if a0 = 9 then (some true) else (if a0 = 10 then (some true) else (if a0 = 13 then (some true) else (some (a0 == 32))))
def dossierref08_digit.f (a0 : Int) : Option (Bool) := if a0 ≥ 48 then (some (decide (a0 ≤ 57))) else (some false)
def dossierref01_Text.f : Nat → Int → Option (ByteArray)
 | 0,_ => none
 | k + 1,a0 => if a0 < 0 then (if a0 > (-10) then ((dossierref01_Text.f k (wrap64 (-a0))).bind fun t204 => (if 1 + t204.size ≤ 9223372036854775807 then (some ((⟨#[45]⟩ : ByteArray) ++ t204)) else (none))) else ((dossierref01_Text.f k (wrap64 (Int.tdiv a0 10))).bind fun t205 => ((dossierref01_Text.f k (wrap64 (-(Int.tmod a0 10)))).bind fun t206 => (if t205.size + t206.size ≤ 9223372036854775807 then (some (t205 ++ t206)) else (none))))) else (if a0 < 10 then (if 0 ≤ a0 then (if a0 ≤ (wrap64 (a0 + 1)) then (if (wrap64 (a0 + 1)) ≤ 10 then (some ((⟨#[48,49,50,51,52,53,54,55,56,57]⟩ : ByteArray).extract (a0 : Int).toNat ((wrap64 (a0 + 1)) : Int).toNat)) else (none)) else (none)) else (none)) else ((dossierref01_Text.f k (wrap64 (Int.tdiv a0 10))).bind fun t207 => ((dossierref01_Text.f k (Int.tmod a0 10)).bind fun t208 => (if t207.size + t208.size ≤ 9223372036854775807 then (some (t207 ++ t208)) else (none)))))
theorem dossierref01_Text.mono_l : ∀ k,(∀ y0,LeO (dossierref01_Text.f k y0) (dossierref01_Text.f (k + 1) y0))
 | 0 => fun _ r h => by simp [dossierref01_Text.f] at h
 | k + 1 => by
  have ih0 := dossierref01_Text.mono_l k
  · intro y0
    unfold dossierref01_Text.f
    repeat' first
    | (with_reducible exact ih0 _)
    | (with_reducible exact LeO.refl _)
    | (with_reducible exact LeO.none _)
    | (with_reducible refine LeO.ite ?_ ?_)
    | (with_reducible refine LeO.bind ?_ (fun _ => ?_))
    | exact ih0 _
    | exact LeO.none _
    | refine LeO.ite ?_ ?_
    | refine LeO.bind ?_ (fun _ => ?_)
theorem dossierref01_Text.mono : ∀ a0 k,LeO (dossierref01_Text.f k a0) (dossierref01_Text.f (k + 1) a0) := by
 intro a0 k
 have ih0 := dossierref01_Text.mono_l k
 exact ih0 a0
mutual
def dossierref01_Number.j0 : Nat → ByteArray → ByteArray → Bool → Option (Int × Int)
 | 0,_,_,_ => none
 | k + 1,x0,x4,x16 => if x16 = true then (if 1 ≤ (x0.size : Int) then (dossierref01_Number.j1 k x0 (x0.extract 1 x0.size)) else (none)) else (dossierref01_Number.j1 k x0 x4)
def dossierref01_Number.j1 : Nat → ByteArray → ByteArray → Option (Int × Int)
 | 0,_,_ => none
 | k + 1,x0,x4 => if (x4.size : Int) = 0 then (dossierref01_Number.j2 k x0 x4 true) else (if 0 < (x4.size : Int) then (if (bt x4 0) = 48 then (dossierref01_Number.j2 k x0 x4 (decide ((x0.size : Int) > 1))) else (dossierref01_Number.j2 k x0 x4 false)) else (none))
def dossierref01_Number.j2 : Nat → ByteArray → ByteArray → Bool → Option (Int × Int)
 | 0,_,_,_ => none
 | k + 1,x0,x4,x31 => if x31 = true then (some (0,5)) else (dossierref01_Number.l0 k x0 x4 (x4.size : Int) 0)
def dossierref01_Number.l0 : Nat → ByteArray → ByteArray → Int → Int → Option (Int × Int)
 | 0,_,_,_,_ => none
 | k + 1,x0,x4,x33,x34 => if x34 < x33 then (if 0 ≤ x34 then (if x34 < (x4.size : Int) then (if (bt x4 x34) < 48 then (some (0,5)) else (if (bt x4 x34) > 57 then (some (0,5)) else (dossierref01_Number.l0 k x0 x4 x33 (wrap64 (x34 + 1))))) else (none)) else (none)) else (if (x4.size : Int) > 19 then (some (0,4)) else (dossierref01_Number.l1 k x0 x4 0 (x4.size : Int) 0))
def dossierref01_Number.l1 : Nat → ByteArray → ByteArray → Int → Int → Int → Option (Int × Int)
 | 0,_,_,_,_,_ => none
 | k + 1,x0,x4,x6,x52,x53 => if x53 < x52 then (if 0 ≤ x53 then (if x53 < (x4.size : Int) then (dossierref01_Number.l1 k x0 x4 (wrap64 ((wrap64 (10 * x6)) - (((bt x4 x53) - 48) % 256))) x52 (wrap64 (x53 + 1))) else (none)) else (none)) else (if (x4.size : Int) = (x0.size : Int) then ((dossierref01_Text.f k (wrap64 (-x6))).bind fun t209 => (if t209.toList = x0.toList then (some (wrap64 (-x6),0)) else (some (0,4)))) else ((dossierref01_Text.f k x6).bind fun t210 => (if t210.toList = x0.toList then (some (x6,0)) else (some (0,4)))))
end
def dossierref01_Number.f (k : Nat) (a0 : ByteArray) : Option (Int × Int) := if (a0.size : Int) > 0 then (if 0 < (a0.size : Int) then (dossierref01_Number.j0 k a0 a0 ((bt a0 0) == 45)) else (none)) else (dossierref01_Number.j0 k a0 a0 false)
theorem dossierref01_Number.mono_l : ∀ k,(∀ y0 y1 y2,LeO (dossierref01_Number.j0 k y0 y1 y2) (dossierref01_Number.j0 (k + 1) y0 y1 y2)) ∧ (∀ y0 y1,LeO (dossierref01_Number.j1 k y0 y1) (dossierref01_Number.j1 (k + 1) y0 y1)) ∧ (∀ y0 y1 y2,LeO (dossierref01_Number.j2 k y0 y1 y2) (dossierref01_Number.j2 (k + 1) y0 y1 y2)) ∧ (∀ y0 y1 y2 y3,LeO (dossierref01_Number.l0 k y0 y1 y2 y3) (dossierref01_Number.l0 (k + 1) y0 y1 y2 y3)) ∧ (∀ y0 y1 y2 y3 y4,LeO (dossierref01_Number.l1 k y0 y1 y2 y3 y4) (dossierref01_Number.l1 (k + 1) y0 y1 y2 y3 y4))
 | 0 => ⟨fun _ _ _ r h => by simp [dossierref01_Number.j0] at h,fun _ _ r h => by simp [dossierref01_Number.j1] at h,fun _ _ _ r h => by simp [dossierref01_Number.j2] at h,fun _ _ _ _ r h => by simp [dossierref01_Number.l0] at h,fun _ _ _ _ _ r h => by simp [dossierref01_Number.l1] at h⟩
 | k + 1 => by
  obtain ⟨ih0,ih1,ih2,ih3,ih4⟩ := dossierref01_Number.mono_l k
  refine ⟨?_,?_,?_,?_,?_⟩
  · intro y0 y1 y2
    unfold dossierref01_Number.j0
    repeat' first
    | (with_reducible exact ih0 _ _ _)
    | (with_reducible exact ih1 _ _)
    | (with_reducible exact ih2 _ _ _)
    | (with_reducible exact ih3 _ _ _ _)
    | (with_reducible exact ih4 _ _ _ _ _)
    | (with_reducible exact dossierref01_Text.mono _ _)
    | (with_reducible exact LeO.refl _)
    | (with_reducible exact LeO.none _)
    | (with_reducible refine LeO.ite ?_ ?_)
    | (with_reducible refine LeO.bind ?_ (fun _ => ?_))
    | exact ih0 _ _ _
    | exact ih1 _ _
    | exact ih2 _ _ _
    | exact ih3 _ _ _ _
    | exact ih4 _ _ _ _ _
    | exact dossierref01_Text.mono _ _
    | exact LeO.none _
    | refine LeO.ite ?_ ?_
    | refine LeO.bind ?_ (fun _ => ?_)
  · intro y0 y1
    unfold dossierref01_Number.j1
    repeat' first
    | (with_reducible exact ih0 _ _ _)
    | (with_reducible exact ih1 _ _)
    | (with_reducible exact ih2 _ _ _)
    | (with_reducible exact ih3 _ _ _ _)
    | (with_reducible exact ih4 _ _ _ _ _)
    | (with_reducible exact dossierref01_Text.mono _ _)
    | (with_reducible exact LeO.refl _)
    | (with_reducible exact LeO.none _)
    | (with_reducible refine LeO.ite ?_ ?_)
    | (with_reducible refine LeO.bind ?_ (fun _ => ?_))
    | exact ih0 _ _ _
    | exact ih1 _ _
    | exact ih2 _ _ _
    | exact ih3 _ _ _ _
    | exact ih4 _ _ _ _ _
    | exact dossierref01_Text.mono _ _
    | exact LeO.none _
    | refine LeO.ite ?_ ?_
    | refine LeO.bind ?_ (fun _ => ?_)
  · intro y0 y1 y2
    unfold dossierref01_Number.j2
    repeat' first
    | (with_reducible exact ih0 _ _ _)
    | (with_reducible exact ih1 _ _)
    | (with_reducible exact ih2 _ _ _)
    | (with_reducible exact ih3 _ _ _ _)
    | (with_reducible exact ih4 _ _ _ _ _)
    | (with_reducible exact dossierref01_Text.mono _ _)
    | (with_reducible exact LeO.refl _)
    | (with_reducible exact LeO.none _)
    | (with_reducible refine LeO.ite ?_ ?_)
    | (with_reducible refine LeO.bind ?_ (fun _ => ?_))
    | exact ih0 _ _ _
    | exact ih1 _ _
    | exact ih2 _ _ _
    | exact ih3 _ _ _ _
    | exact ih4 _ _ _ _ _
    | exact dossierref01_Text.mono _ _
    | exact LeO.none _
    | refine LeO.ite ?_ ?_
    | refine LeO.bind ?_ (fun _ => ?_)
  · intro y0 y1 y2 y3
    unfold dossierref01_Number.l0
    repeat' first
    | (with_reducible exact ih0 _ _ _)
    | (with_reducible exact ih1 _ _)
    | (with_reducible exact ih2 _ _ _)
    | (with_reducible exact ih3 _ _ _ _)
    | (with_reducible exact ih4 _ _ _ _ _)
    | (with_reducible exact dossierref01_Text.mono _ _)
    | (with_reducible exact LeO.refl _)
    | (with_reducible exact LeO.none _)
    | (with_reducible refine LeO.ite ?_ ?_)
    | (with_reducible refine LeO.bind ?_ (fun _ => ?_))
    | exact ih0 _ _ _
    | exact ih1 _ _
    | exact ih2 _ _ _
    | exact ih3 _ _ _ _
    | exact ih4 _ _ _ _ _
    | exact dossierref01_Text.mono _ _
    | exact LeO.none _
    | refine LeO.ite ?_ ?_
    | refine LeO.bind ?_ (fun _ => ?_)
  · intro y0 y1 y2 y3 y4
    unfold dossierref01_Number.l1
    repeat' first
    | (with_reducible exact ih0 _ _ _)
    | (with_reducible exact ih1 _ _)
    | (with_reducible exact ih2 _ _ _)
    | (with_reducible exact ih3 _ _ _ _)
    | (with_reducible exact ih4 _ _ _ _ _)
    | (with_reducible exact dossierref01_Text.mono _ _)
    | (with_reducible exact LeO.refl _)
    | (with_reducible exact LeO.none _)
    | (with_reducible refine LeO.ite ?_ ?_)
    | (with_reducible refine LeO.bind ?_ (fun _ => ?_))
    | exact ih0 _ _ _
    | exact ih1 _ _
    | exact ih2 _ _ _
    | exact ih3 _ _ _ _
    | exact ih4 _ _ _ _ _
    | exact dossierref01_Text.mono _ _
    | exact LeO.none _
    | refine LeO.ite ?_ ?_
    | refine LeO.bind ?_ (fun _ => ?_)
theorem dossierref01_Number.mono : ∀ a0 k,LeO (dossierref01_Number.f k a0) (dossierref01_Number.f (k + 1) a0) := by
 intro a0 k
 obtain ⟨ih0,ih1,ih2,ih3,ih4⟩ := dossierref01_Number.mono_l k
 unfold dossierref01_Number.f
 repeat' first
  | (with_reducible exact ih0 _ _ _)
  | (with_reducible exact ih1 _ _)
  | (with_reducible exact ih2 _ _ _)
  | (with_reducible exact ih3 _ _ _ _)
  | (with_reducible exact ih4 _ _ _ _ _)
  | (with_reducible exact dossierref01_Text.mono _ _)
  | (with_reducible exact LeO.refl _)
  | (with_reducible exact LeO.none _)
  | (with_reducible refine LeO.ite ?_ ?_)
  | (with_reducible refine LeO.bind ?_ (fun _ => ?_))
  | exact ih0 _ _ _
  | exact ih1 _ _
  | exact ih2 _ _ _
  | exact ih3 _ _ _ _
  | exact ih4 _ _ _ _ _
  | exact dossierref01_Text.mono _ _
  | exact LeO.none _
  | refine LeO.ite ?_ ?_
  | refine LeO.bind ?_ (fun _ => ?_)
def dossierref08_integer.l0 : Nat → ByteArray → Int → Option (Int × ByteArray × Int × Int × Bool)
 | 0,_,_ => none
 | k + 1,x0,x5 => if x5 < (x0.size : Int) then (if 0 ≤ x5 then ((dossierref08_digit.f (bt x0 x5)).bind fun t212 => (if t212 = true then (dossierref08_integer.l0 k x0 (wrap64 (x5 + 1))) else (if x5 ≤ (x0.size : Int) then ((dossierref01_Number.f k (x0.extract 0 (x5 : Int).toNat)).bind fun bt213 => (some (2,(⟨#[]⟩ : ByteArray),bt213.1,x5,(bt213.2 == 0)))) else (none)))) else (none)) else (if 0 ≤ x5 then (if x5 ≤ (x0.size : Int) then ((dossierref01_Number.f k (x0.extract 0 (x5 : Int).toNat)).bind fun bt215 => (some (2,(⟨#[]⟩ : ByteArray),bt215.1,x5,(bt215.2 == 0)))) else (none)) else (none))
def dossierref08_integer.f (k : Nat) (a0 : ByteArray) : Option (Int × ByteArray × Int × Int × Bool) := dossierref08_integer.l0 k a0 0
theorem dossierref08_integer.mono_l : ∀ k,(∀ y0 y1,LeO (dossierref08_integer.l0 k y0 y1) (dossierref08_integer.l0 (k + 1) y0 y1))
 | 0 => fun _ _ r h => by simp [dossierref08_integer.l0] at h
 | k + 1 => by
  have ih0 := dossierref08_integer.mono_l k
  · intro y0 y1
    unfold dossierref08_integer.l0
    repeat' first
    | (with_reducible exact ih0 _ _)
    | (with_reducible exact dossierref01_Number.mono _ _)
    | (with_reducible exact LeO.refl _)
    | (with_reducible exact LeO.none _)
    | (with_reducible refine LeO.ite ?_ ?_)
    | (with_reducible refine LeO.bind ?_ (fun _ => ?_))
    | exact ih0 _ _
    | exact dossierref01_Number.mono _ _
    | exact LeO.none _
    | refine LeO.ite ?_ ?_
    | refine LeO.bind ?_ (fun _ => ?_)
theorem dossierref08_integer.mono : ∀ a0 k,LeO (dossierref08_integer.f k a0) (dossierref08_integer.f (k + 1) a0) := by
 intro a0 k
 have ih0 := dossierref08_integer.mono_l k
 unfold dossierref08_integer.f
 repeat' first
  | (with_reducible exact ih0 _ _)
  | (with_reducible exact dossierref01_Number.mono _ _)
  | (with_reducible exact LeO.refl _)
  | (with_reducible exact LeO.none _)
  | (with_reducible refine LeO.ite ?_ ?_)
  | (with_reducible refine LeO.bind ?_ (fun _ => ?_))
  | exact ih0 _ _
  | exact dossierref01_Number.mono _ _
  | exact LeO.none _
  | refine LeO.ite ?_ ?_
  | refine LeO.bind ?_ (fun _ => ?_)
def dossierref01_Encode.j0 : Nat → Int → Bool → Option (List Int)
 | 0,_,_ => none
 | k + 1,x0,x3 => if x3 = true then (some ([] : List Int)) else (if x0 < 128 then (some (([(x0) % 256] : List Int))) else (if x0 < 2048 then (some (([(wrap64 (192 + (x0 / 64))) % 256,(wrap64 (128 + (Int.tmod x0 64))) % 256] : List Int))) else (if x0 < 65536 then (some (([(wrap64 (224 + (x0 / 4096))) % 256,(wrap64 (128 + (Int.tmod (x0 / 64) 64))) % 256,(wrap64 (128 + (Int.tmod x0 64))) % 256] : List Int))) else (some (([(wrap64 (240 + (x0 / 262144))) % 256,(wrap64 (128 + (Int.tmod (x0 / 4096) 64))) % 256,(wrap64 (128 + (Int.tmod (x0 / 64) 64))) % 256,(wrap64 (128 + (Int.tmod x0 64))) % 256] : List Int))))))
def dossierref01_Encode.f (k : Nat) (a0 : Int) : Option (List Int) := if a0 < 0 then (dossierref01_Encode.j0 k a0 true) else (if a0 > 1114111 then (dossierref01_Encode.j0 k a0 true) else (if a0 ≥ 55296 then (dossierref01_Encode.j0 k a0 (decide (a0 ≤ 57343))) else (dossierref01_Encode.j0 k a0 false)))
theorem dossierref01_Encode.mono_l : ∀ k,(∀ y0 y1,LeO (dossierref01_Encode.j0 k y0 y1) (dossierref01_Encode.j0 (k + 1) y0 y1))
 | 0 => fun _ _ r h => by simp [dossierref01_Encode.j0] at h
 | k + 1 => by
  have ih0 := dossierref01_Encode.mono_l k
  · intro y0 y1
    unfold dossierref01_Encode.j0
    repeat' first
    | (with_reducible exact ih0 _ _)
    | (with_reducible exact LeO.refl _)
    | (with_reducible exact LeO.none _)
    | (with_reducible refine LeO.ite ?_ ?_)
    | (with_reducible refine LeO.bind ?_ (fun _ => ?_))
    | exact ih0 _ _
    | exact LeO.none _
    | refine LeO.ite ?_ ?_
    | refine LeO.bind ?_ (fun _ => ?_)
theorem dossierref01_Encode.mono : ∀ a0 k,LeO (dossierref01_Encode.f k a0) (dossierref01_Encode.f (k + 1) a0) := by
 intro a0 k
 have ih0 := dossierref01_Encode.mono_l k
 unfold dossierref01_Encode.f
 repeat' first
  | (with_reducible exact ih0 _ _)
  | (with_reducible exact LeO.refl _)
  | (with_reducible exact LeO.none _)
  | (with_reducible refine LeO.ite ?_ ?_)
  | (with_reducible refine LeO.bind ?_ (fun _ => ?_))
  | exact ih0 _ _
  | exact LeO.none _
  | refine LeO.ite ?_ ?_
  | refine LeO.bind ?_ (fun _ => ?_)
mutual
def dossierref01_Decode.j0 : Nat → List Int → Int → Int → Option (Int × Int)
 | 0,_,_,_ => none
 | k + 1,x0,x4,x5 => if x4 > (x0.length : Int) then (some (0,0)) else (if 1 ≤ x4 then (if x4 ≤ (x0.length : Int) then (dossierref01_Decode.l0 k x0 x4 x5 ((x0.take (x4 : Int).toNat).drop 1) (((x0.take (x4 : Int).toNat).drop 1).length : Int) 0) else (none)) else (none))
def dossierref01_Decode.l0 : Nat → List Int → Int → Int → List Int → Int → Int → Option (Int × Int)
 | 0,_,_,_,_,_,_ => none
 | k + 1,x0,x4,x5,x51,x52,x53 => if x53 < x52 then (if 0 ≤ x53 then (if x53 < (x51.length : Int) then (if (rd x51 x53) < 128 then (some (0,0)) else (if (rd x51 x53) > 191 then (some (0,0)) else (dossierref01_Decode.l0 k x0 x4 (wrap64 ((wrap64 ((wrap64 (x5 * 64)) + (wrap64 (rd x51 x53)))) - 128)) x51 x52 (wrap64 (x53 + 1))))) else (none)) else (none)) else ((dossierref01_Encode.f k x5).bind fun t238 => (if 0 ≤ x4 then (if x4 ≤ (x0.length : Int) then (if (strOfNums t238).toList = (strOfNums (x0.take (x4 : Int).toNat)).toList then (some (x5,x4)) else (some (0,0))) else (none)) else (none)))
end
def dossierref01_Decode.f (k : Nat) (l0 : List Int) : Option (Int × Int) := if (l0.length : Int) = 0 then (some (0,0)) else (if 0 < (l0.length : Int) then (if (rd l0 0) ≥ 240 then (dossierref01_Decode.j0 k l0 4 (wrap64 ((wrap64 (rd l0 0)) - 240))) else (if (rd l0 0) ≥ 224 then (dossierref01_Decode.j0 k l0 3 (wrap64 ((wrap64 (rd l0 0)) - 224))) else (if (rd l0 0) ≥ 192 then (dossierref01_Decode.j0 k l0 2 (wrap64 ((wrap64 (rd l0 0)) - 192))) else (dossierref01_Decode.j0 k l0 1 (wrap64 (rd l0 0)))))) else (none))
theorem dossierref01_Decode.mono_l : ∀ k,(∀ y0 y1 y2,LeO (dossierref01_Decode.j0 k y0 y1 y2) (dossierref01_Decode.j0 (k + 1) y0 y1 y2)) ∧ (∀ y0 y1 y2 y3 y4 y5,LeO (dossierref01_Decode.l0 k y0 y1 y2 y3 y4 y5) (dossierref01_Decode.l0 (k + 1) y0 y1 y2 y3 y4 y5))
 | 0 => ⟨fun _ _ _ r h => by simp [dossierref01_Decode.j0] at h,fun _ _ _ _ _ _ r h => by simp [dossierref01_Decode.l0] at h⟩
 | k + 1 => by
  obtain ⟨ih0,ih1⟩ := dossierref01_Decode.mono_l k
  refine ⟨?_,?_⟩
  · intro y0 y1 y2
    unfold dossierref01_Decode.j0
    repeat' first
    | (with_reducible exact ih0 _ _ _)
    | (with_reducible exact ih1 _ _ _ _ _ _)
    | (with_reducible exact dossierref01_Encode.mono _ _)
    | (with_reducible exact LeO.refl _)
    | (with_reducible exact LeO.none _)
    | (with_reducible refine LeO.ite ?_ ?_)
    | (with_reducible refine LeO.bind ?_ (fun _ => ?_))
    | exact ih0 _ _ _
    | exact ih1 _ _ _ _ _ _
    | exact dossierref01_Encode.mono _ _
    | exact LeO.none _
    | refine LeO.ite ?_ ?_
    | refine LeO.bind ?_ (fun _ => ?_)
  · intro y0 y1 y2 y3 y4 y5
    unfold dossierref01_Decode.l0
    repeat' first
    | (with_reducible exact ih0 _ _ _)
    | (with_reducible exact ih1 _ _ _ _ _ _)
    | (with_reducible exact dossierref01_Encode.mono _ _)
    | (with_reducible exact LeO.refl _)
    | (with_reducible exact LeO.none _)
    | (with_reducible refine LeO.ite ?_ ?_)
    | (with_reducible refine LeO.bind ?_ (fun _ => ?_))
    | exact ih0 _ _ _
    | exact ih1 _ _ _ _ _ _
    | exact dossierref01_Encode.mono _ _
    | exact LeO.none _
    | refine LeO.ite ?_ ?_
    | refine LeO.bind ?_ (fun _ => ?_)
theorem dossierref01_Decode.mono : ∀ a0 k,LeO (dossierref01_Decode.f k a0) (dossierref01_Decode.f (k + 1) a0) := by
 intro a0 k
 obtain ⟨ih0,ih1⟩ := dossierref01_Decode.mono_l k
 unfold dossierref01_Decode.f
 repeat' first
  | (with_reducible exact ih0 _ _ _)
  | (with_reducible exact ih1 _ _ _ _ _ _)
  | (with_reducible exact dossierref01_Encode.mono _ _)
  | (with_reducible exact LeO.refl _)
  | (with_reducible exact LeO.none _)
  | (with_reducible refine LeO.ite ?_ ?_)
  | (with_reducible refine LeO.bind ?_ (fun _ => ?_))
  | exact ih0 _ _ _
  | exact ih1 _ _ _ _ _ _
  | exact dossierref01_Encode.mono _ _
  | exact LeO.none _
  | refine LeO.ite ?_ ?_
  | refine LeO.bind ?_ (fun _ => ?_)
def dossierref01_within.l0 : Nat → Int → List Int → Int → Option (Bool)
 | 0,_,_,_ => none
 | k + 1,x0,x1,x5 => if (wrap64 (x5 + 1)) < (x1.length : Int) then (if 0 ≤ x5 then (if x5 < (x1.length : Int) then (if x0 ≥ (rd x1 x5) then (if 0 ≤ (wrap64 (x5 + 1)) then (if x0 ≤ (rd x1 (wrap64 (x5 + 1))) then (some true) else (dossierref01_within.l0 k x0 x1 (wrap64 (x5 + 2)))) else (none)) else (dossierref01_within.l0 k x0 x1 (wrap64 (x5 + 2)))) else (none)) else (none)) else (some false)
def dossierref01_within.f (k : Nat) (a0 : Int) (l1 : List Int) : Option (Bool) := dossierref01_within.l0 k a0 l1 0
theorem dossierref01_within.mono_l : ∀ k,(∀ y0 y1 y2,LeO (dossierref01_within.l0 k y0 y1 y2) (dossierref01_within.l0 (k + 1) y0 y1 y2))
 | 0 => fun _ _ _ r h => by simp [dossierref01_within.l0] at h
 | k + 1 => by
  have ih0 := dossierref01_within.mono_l k
  · intro y0 y1 y2
    unfold dossierref01_within.l0
    repeat' first
    | (with_reducible exact ih0 _ _ _)
    | (with_reducible exact LeO.refl _)
    | (with_reducible exact LeO.none _)
    | (with_reducible refine LeO.ite ?_ ?_)
    | (with_reducible refine LeO.bind ?_ (fun _ => ?_))
    | exact ih0 _ _ _
    | exact LeO.none _
    | refine LeO.ite ?_ ?_
    | refine LeO.bind ?_ (fun _ => ?_)
theorem dossierref01_within.mono : ∀ a0 a1 k,LeO (dossierref01_within.f k a0 a1) (dossierref01_within.f (k + 1) a0 a1) := by
 intro a0 a1 k
 have ih0 := dossierref01_within.mono_l k
 unfold dossierref01_within.f
 repeat' first
  | (with_reducible exact ih0 _ _ _)
  | (with_reducible exact LeO.refl _)
  | (with_reducible exact LeO.none _)
  | (with_reducible refine LeO.ite ?_ ?_)
  | (with_reducible refine LeO.bind ?_ (fun _ => ?_))
  | exact ih0 _ _ _
  | exact LeO.none _
  | refine LeO.ite ?_ ?_
  | refine LeO.bind ?_ (fun _ => ?_)
def dossierref01_OfXML.f (k : Nat) (a0 : Int) : Option (Bool) := (dossierref01_within.f k a0 (([9,10,13,13,32,55295,57344,65533,65536,1114111] : List Int))).bind fun t247 => (some t247)
theorem dossierref01_OfXML.mono : ∀ a0 k,LeO (dossierref01_OfXML.f k a0) (dossierref01_OfXML.f (k + 1) a0) := by
 intro a0 k
 unfold dossierref01_OfXML.f
 repeat' first
  | (with_reducible exact dossierref01_within.mono _ _ _)
  | (with_reducible exact LeO.refl _)
  | (with_reducible exact LeO.none _)
  | (with_reducible refine LeO.ite ?_ ?_)
  | (with_reducible refine LeO.bind ?_ (fun _ => ?_))
  | exact dossierref01_within.mono _ _ _
  | exact LeO.none _
  | refine LeO.ite ?_ ?_
  | refine LeO.bind ?_ (fun _ => ?_)
def dossierref08_text.l0 : Nat → ByteArray → ByteArray → Int → Option (Int × ByteArray × Int × Int × Bool)
 | 0,_,_,_ => none
 | k + 1,x0,x5,x6 => if x6 < (x0.size : Int) then (if 0 ≤ x6 then (if (bt x0 x6) = 34 then (some (3,x5,0,wrap64 (x6 + 1),decide ((x5.size : Int) ≤ 256))) else (if (bt x0 x6) = 92 then (if (wrap64 (x6 + 1)) ≥ (x0.size : Int) then (some (0,(⟨#[]⟩ : ByteArray),0,0,false)) else (if 0 ≤ (wrap64 (x6 + 1)) then (if (wrap64 (x6 + 1)) < (x0.size : Int) then (if (bt x0 (wrap64 (x6 + 1))) = 34 then (if (wrap64 (x6 + 1)) ≤ (wrap64 (x6 + 2)) then (if (wrap64 (x6 + 2)) ≤ (x0.size : Int) then (if x5.size + (x0.extract ((wrap64 (x6 + 1)) : Int).toNat ((wrap64 (x6 + 2)) : Int).toNat).size ≤ 9223372036854775807 then (dossierref08_text.l0 k x0 (x5 ++ (x0.extract ((wrap64 (x6 + 1)) : Int).toNat ((wrap64 (x6 + 2)) : Int).toNat)) (wrap64 (x6 + 2))) else (none)) else (none)) else (none)) else (if (bt x0 (wrap64 (x6 + 1))) = 92 then (if (wrap64 (x6 + 1)) ≤ (wrap64 (x6 + 2)) then (if (wrap64 (x6 + 2)) ≤ (x0.size : Int) then (if x5.size + (x0.extract ((wrap64 (x6 + 1)) : Int).toNat ((wrap64 (x6 + 2)) : Int).toNat).size ≤ 9223372036854775807 then (dossierref08_text.l0 k x0 (x5 ++ (x0.extract ((wrap64 (x6 + 1)) : Int).toNat ((wrap64 (x6 + 2)) : Int).toNat)) (wrap64 (x6 + 2))) else (none)) else (none)) else (none)) else (some (0,(⟨#[]⟩ : ByteArray),0,0,false)))) else (none)) else (none))) else (if x6 ≤ (x0.size : Int) then (if (x0.extract (x6 : Int).toNat x0.size).size < 140737488355328 then ((dossierref01_Decode.f k (bytesOf (x0.extract (x6 : Int).toNat x0.size))).bind fun bt249 => (if bt249.2 = 0 then (some (0,(⟨#[]⟩ : ByteArray),0,0,false)) else ((dossierref01_OfXML.f k bt249.1).bind fun t251 => (if t251 = true then (if x6 ≤ (wrap64 (x6 + bt249.2)) then (if (wrap64 (x6 + bt249.2)) ≤ (x0.size : Int) then (if x5.size + (x0.extract (x6 : Int).toNat ((wrap64 (x6 + bt249.2)) : Int).toNat).size ≤ 9223372036854775807 then (dossierref08_text.l0 k x0 (x5 ++ (x0.extract (x6 : Int).toNat ((wrap64 (x6 + bt249.2)) : Int).toNat)) (wrap64 (x6 + bt249.2))) else (none)) else (none)) else (none)) else (some (0,(⟨#[]⟩ : ByteArray),0,0,false)))))) else (none)) else (none)))) else (none)) else (some (0,(⟨#[]⟩ : ByteArray),0,0,false))
def dossierref08_text.f (k : Nat) (a0 : ByteArray) : Option (Int × ByteArray × Int × Int × Bool) := dossierref08_text.l0 k a0 (⟨#[]⟩ : ByteArray) 1
theorem dossierref08_text.mono_l : ∀ k,(∀ y0 y1 y2,LeO (dossierref08_text.l0 k y0 y1 y2) (dossierref08_text.l0 (k + 1) y0 y1 y2))
 | 0 => fun _ _ _ r h => by simp [dossierref08_text.l0] at h
 | k + 1 => by
  have ih0 := dossierref08_text.mono_l k
  · intro y0 y1 y2
    unfold dossierref08_text.l0
    repeat' first
    | (with_reducible exact ih0 _ _ _)
    | (with_reducible exact dossierref01_Decode.mono _ _)
    | (with_reducible exact dossierref01_OfXML.mono _ _)
    | (with_reducible exact LeO.refl _)
    | (with_reducible exact LeO.none _)
    | (with_reducible refine LeO.ite ?_ ?_)
    | (with_reducible refine LeO.bind ?_ (fun _ => ?_))
    | exact ih0 _ _ _
    | exact dossierref01_Decode.mono _ _
    | exact dossierref01_OfXML.mono _ _
    | exact LeO.none _
    | refine LeO.ite ?_ ?_
    | refine LeO.bind ?_ (fun _ => ?_)
theorem dossierref08_text.mono : ∀ a0 k,LeO (dossierref08_text.f k a0) (dossierref08_text.f (k + 1) a0) := by
 intro a0 k
 have ih0 := dossierref08_text.mono_l k
 unfold dossierref08_text.f
 repeat' first
  | (with_reducible exact ih0 _ _ _)
  | (with_reducible exact dossierref01_Decode.mono _ _)
  | (with_reducible exact dossierref01_OfXML.mono _ _)
  | (with_reducible exact LeO.refl _)
  | (with_reducible exact LeO.none _)
  | (with_reducible refine LeO.ite ?_ ?_)
  | (with_reducible refine LeO.bind ?_ (fun _ => ?_))
  | exact ih0 _ _ _
  | exact dossierref01_Decode.mono _ _
  | exact dossierref01_OfXML.mono _ _
  | exact LeO.none _
  | refine LeO.ite ?_ ?_
  | refine LeO.bind ?_ (fun _ => ?_)
def dossierref08_letter.f (a0 : Int) : Option (Bool) := if a0 ≥ 65 then (if a0 ≤ 90 then (some true) else (if a0 ≥ 97 then (if a0 ≤ 122 then (some true) else (some (a0 == 95))) else (some (a0 == 95)))) else (if a0 ≥ 97 then (if a0 ≤ 122 then (some true) else (some (a0 == 95))) else (some (a0 == 95)))
mutual
def dossierref08_sign.j0 : Nat → ByteArray → Bool → Option (Int × ByteArray × Int × Int × Bool)
 | 0,_,_ => none
 | k + 1,x0,x24 => if x24 = true then (if 0 ≤ 2 then (if 2 ≤ (x0.size : Int) then (some (4,x0.extract 0 2,0,2,true)) else (none)) else (none)) else ((some (([(⟨#[40]⟩ : ByteArray),(⟨#[41]⟩ : ByteArray),(⟨#[46]⟩ : ByteArray),(⟨#[44]⟩ : ByteArray),(⟨#[43]⟩ : ByteArray),(⟨#[45]⟩ : ByteArray),(⟨#[42]⟩ : ByteArray),(⟨#[47]⟩ : ByteArray),(⟨#[37]⟩ : ByteArray),(⟨#[60]⟩ : ByteArray),(⟨#[62]⟩ : ByteArray),(⟨#[61]⟩ : ByteArray)] : List ByteArray) : List ByteArray)).bind fun y253 => (dossierref08_sign.l0 k x0 y253 (y253.length : Int) 0))
def dossierref08_sign.l0 : Nat → ByteArray → List ByteArray → Int → Int → Option (Int × ByteArray × Int × Int × Bool)
 | 0,_,_,_,_ => none
 | k + 1,x0,x28,x29,x30 => if x30 < x29 then (if 0 ≤ x30 then (if x30 < (x28.length : Int) then (if 0 ≤ 1 then (if 1 ≤ (x0.size : Int) then (if (x0.extract 0 1).toList = (rdOf ByteArray.empty x28 x30).toList then (some (4,rdOf ByteArray.empty x28 x30,0,1,true)) else (dossierref08_sign.l0 k x0 x28 x29 (wrap64 (x30 + 1)))) else (none)) else (none)) else (none)) else (none)) else (some (0,(⟨#[]⟩ : ByteArray),0,0,false))
end
def dossierref08_sign.f (k : Nat) (a0 : ByteArray) : Option (Int × ByteArray × Int × Int × Bool) := if (a0.size : Int) ≥ 2 then (if 0 ≤ 2 then (if 2 ≤ (a0.size : Int) then (if (a0.extract 0 2).toList = ([60,61] : List UInt8) then (dossierref08_sign.j0 k a0 true) else (if (a0.extract 0 2).toList = ([62,61] : List UInt8) then (dossierref08_sign.j0 k a0 true) else (dossierref08_sign.j0 k a0 ((a0.extract 0 2).toList == ([33,61] : List UInt8))))) else (none)) else (none)) else (dossierref08_sign.j0 k a0 false)
theorem dossierref08_sign.mono_l : ∀ k,(∀ y0 y1,LeO (dossierref08_sign.j0 k y0 y1) (dossierref08_sign.j0 (k + 1) y0 y1)) ∧ (∀ y0 y1 y2 y3,LeO (dossierref08_sign.l0 k y0 y1 y2 y3) (dossierref08_sign.l0 (k + 1) y0 y1 y2 y3))
 | 0 => ⟨fun _ _ r h => by simp [dossierref08_sign.j0] at h,fun _ _ _ _ r h => by simp [dossierref08_sign.l0] at h⟩
 | k + 1 => by
  obtain ⟨ih0,ih1⟩ := dossierref08_sign.mono_l k
  refine ⟨?_,?_⟩
  · intro y0 y1
    unfold dossierref08_sign.j0
    repeat' first
    | (with_reducible exact ih0 _ _)
    | (with_reducible exact ih1 _ _ _ _)
    | (with_reducible exact LeO.refl _)
    | (with_reducible exact LeO.none _)
    | (with_reducible refine LeO.ite ?_ ?_)
    | (with_reducible refine LeO.bind ?_ (fun _ => ?_))
    | exact ih0 _ _
    | exact ih1 _ _ _ _
    | exact LeO.none _
    | refine LeO.ite ?_ ?_
    | refine LeO.bind ?_ (fun _ => ?_)
  · intro y0 y1 y2 y3
    unfold dossierref08_sign.l0
    repeat' first
    | (with_reducible exact ih0 _ _)
    | (with_reducible exact ih1 _ _ _ _)
    | (with_reducible exact LeO.refl _)
    | (with_reducible exact LeO.none _)
    | (with_reducible refine LeO.ite ?_ ?_)
    | (with_reducible refine LeO.bind ?_ (fun _ => ?_))
    | exact ih0 _ _
    | exact ih1 _ _ _ _
    | exact LeO.none _
    | refine LeO.ite ?_ ?_
    | refine LeO.bind ?_ (fun _ => ?_)
theorem dossierref08_sign.mono : ∀ a0 k,LeO (dossierref08_sign.f k a0) (dossierref08_sign.f (k + 1) a0) := by
 intro a0 k
 obtain ⟨ih0,ih1⟩ := dossierref08_sign.mono_l k
 unfold dossierref08_sign.f
 repeat' first
  | (with_reducible exact ih0 _ _)
  | (with_reducible exact ih1 _ _ _ _)
  | (with_reducible exact LeO.refl _)
  | (with_reducible exact LeO.none _)
  | (with_reducible refine LeO.ite ?_ ?_)
  | (with_reducible refine LeO.bind ?_ (fun _ => ?_))
  | exact ih0 _ _
  | exact ih1 _ _ _ _
  | exact LeO.none _
  | refine LeO.ite ?_ ?_
  | refine LeO.bind ?_ (fun _ => ?_)
def dossierref08_word.l0 : Nat → ByteArray → Int → Option (Int × ByteArray × Int × Int × Bool)
 | 0,_,_ => none
 | k + 1,x0,x5 => if x5 < (x0.size : Int) then (if 0 ≤ x5 then ((dossierref08_letter.f (bt x0 x5)).bind fun t275 => (if t275 = true then (dossierref08_word.l0 k x0 (wrap64 (x5 + 1))) else ((dossierref08_digit.f (bt x0 x5)).bind fun t276 => (if t276 = true then (dossierref08_word.l0 k x0 (wrap64 (x5 + 1))) else (if x5 ≤ (x0.size : Int) then (some (1,x0.extract 0 (x5 : Int).toNat,0,x5,true)) else (none)))))) else (none)) else (if 0 ≤ x5 then (if x5 ≤ (x0.size : Int) then (some (1,x0.extract 0 (x5 : Int).toNat,0,x5,true)) else (none)) else (none))
def dossierref08_word.f (k : Nat) (a0 : ByteArray) : Option (Int × ByteArray × Int × Int × Bool) := if 0 < (a0.size : Int) then ((dossierref08_digit.f (bt a0 0)).bind fun t258 => (if t258 = true then ((dossierref08_integer.f k a0).bind fun bt259 => (some (bt259.1,bt259.2.1,bt259.2.2.1,bt259.2.2.2.1,bt259.2.2.2.2))) else (if (bt a0 0) = 34 then ((dossierref08_text.f k a0).bind fun bt264 => (some (bt264.1,bt264.2.1,bt264.2.2.1,bt264.2.2.2.1,bt264.2.2.2.2))) else ((dossierref08_letter.f (bt a0 0)).bind fun t269 => (if t269 = true then (dossierref08_word.l0 k a0 1) else ((dossierref08_sign.f k a0).bind fun bt270 => (some (bt270.1,bt270.2.1,bt270.2.2.1,bt270.2.2.2.1,bt270.2.2.2.2)))))))) else (none)
theorem dossierref08_word.mono_l : ∀ k,(∀ y0 y1,LeO (dossierref08_word.l0 k y0 y1) (dossierref08_word.l0 (k + 1) y0 y1))
 | 0 => fun _ _ r h => by simp [dossierref08_word.l0] at h
 | k + 1 => by
  have ih0 := dossierref08_word.mono_l k
  · intro y0 y1
    unfold dossierref08_word.l0
    repeat' first
    | (with_reducible exact ih0 _ _)
    | (with_reducible exact dossierref08_integer.mono _ _)
    | (with_reducible exact dossierref08_sign.mono _ _)
    | (with_reducible exact dossierref08_text.mono _ _)
    | (with_reducible exact LeO.refl _)
    | (with_reducible exact LeO.none _)
    | (with_reducible refine LeO.ite ?_ ?_)
    | (with_reducible refine LeO.bind ?_ (fun _ => ?_))
    | exact ih0 _ _
    | exact dossierref08_integer.mono _ _
    | exact dossierref08_sign.mono _ _
    | exact dossierref08_text.mono _ _
    | exact LeO.none _
    | refine LeO.ite ?_ ?_
    | refine LeO.bind ?_ (fun _ => ?_)
theorem dossierref08_word.mono : ∀ a0 k,LeO (dossierref08_word.f k a0) (dossierref08_word.f (k + 1) a0) := by
 intro a0 k
 have ih0 := dossierref08_word.mono_l k
 unfold dossierref08_word.f
 repeat' first
  | (with_reducible exact ih0 _ _)
  | (with_reducible exact dossierref08_integer.mono _ _)
  | (with_reducible exact dossierref08_sign.mono _ _)
  | (with_reducible exact dossierref08_text.mono _ _)
  | (with_reducible exact LeO.refl _)
  | (with_reducible exact LeO.none _)
  | (with_reducible refine LeO.ite ?_ ?_)
  | (with_reducible refine LeO.bind ?_ (fun _ => ?_))
  | exact ih0 _ _
  | exact dossierref08_integer.mono _ _
  | exact dossierref08_sign.mono _ _
  | exact dossierref08_text.mono _ _
  | exact LeO.none _
  | refine LeO.ite ?_ ?_
  | refine LeO.bind ?_ (fun _ => ?_)
def dossierref08_Words.l0 : Nat → ByteArray → List (S69) → Int → Option ((List (S69)) × Int × Int)
 | 0,_,_,_ => none
 | k + 1,x0,x5,x6 => if x6 < (x0.size : Int) then (if 0 ≤ x6 then ((dossierref01_Space.f (wrap64 (bt x0 x6))).bind fun t280 => (if t280 = true then (dossierref08_Words.l0 k x0 x5 (wrap64 (x6 + 1))) else (if x6 ≤ (x0.size : Int) then ((dossierref08_word.f k (x0.extract (x6 : Int).toNat x0.size)).bind fun bt281 => (if bt281.2.2.2.2 = true then (if x5.length < 4398046511104 then (dossierref08_Words.l0 k x0 (x5 ++ [(⟨bt281.1,bt281.2.1,bt281.2.2.1⟩ : S69)]) (wrap64 (x6 + bt281.2.2.2.1))) else (none)) else (some (([] : List (S69)),x6,20)))) else (none)))) else (none)) else (if x5.length < 4398046511104 then (some ((x5 ++ [(⟨0,(⟨#[]⟩ : ByteArray),0⟩ : S69)]),0,0)) else (none))
def dossierref08_Words.f (k : Nat) (a0 : ByteArray) : Option ((List (S69)) × Int × Int) := if (a0.size : Int) > 400 then (some (([] : List (S69)),0,4)) else (dossierref08_Words.l0 k a0 ([] : List (S69)) 0)
theorem dossierref08_Words.mono_l : ∀ k,(∀ y0 y1 y2,LeO (dossierref08_Words.l0 k y0 y1 y2) (dossierref08_Words.l0 (k + 1) y0 y1 y2))
 | 0 => fun _ _ _ r h => by simp [dossierref08_Words.l0] at h
 | k + 1 => by
  have ih0 := dossierref08_Words.mono_l k
  · intro y0 y1 y2
    unfold dossierref08_Words.l0
    repeat' first
    | (with_reducible exact ih0 _ _ _)
    | (with_reducible exact dossierref08_word.mono _ _)
    | (with_reducible exact LeO.refl _)
    | (with_reducible exact LeO.none _)
    | (with_reducible refine LeO.ite ?_ ?_)
    | (with_reducible refine LeO.bind ?_ (fun _ => ?_))
    | exact ih0 _ _ _
    | exact dossierref08_word.mono _ _
    | exact LeO.none _
    | refine LeO.ite ?_ ?_
    | refine LeO.bind ?_ (fun _ => ?_)
theorem dossierref08_Words.mono : ∀ a0 k,LeO (dossierref08_Words.f k a0) (dossierref08_Words.f (k + 1) a0) := by
 intro a0 k
 have ih0 := dossierref08_Words.mono_l k
 unfold dossierref08_Words.f
 repeat' first
  | (with_reducible exact ih0 _ _ _)
  | (with_reducible exact dossierref08_word.mono _ _)
  | (with_reducible exact LeO.refl _)
  | (with_reducible exact LeO.none _)
  | (with_reducible refine LeO.ite ?_ ?_)
  | (with_reducible refine LeO.bind ?_ (fun _ => ?_))
  | exact ih0 _ _ _
  | exact dossierref08_word.mono _ _
  | exact LeO.none _
  | refine LeO.ite ?_ ?_
  | refine LeO.bind ?_ (fun _ => ?_)
def dossierref01_Wrong.l0 : Nat → List Int → Int → Option (Int)
 | 0,_,_ => none
 | k + 1,x0,x3 => if x3 < (x0.length : Int) then (if 0 ≤ x3 then (if x3 ≤ (x0.length : Int) then ((dossierref01_Decode.f k (x0.drop (x3 : Int).toNat)).bind fun bt333 => (if bt333.2 = 0 then (some x3) else ((dossierref01_OfXML.f k bt333.1).bind fun t335 => (if t335 = true then (dossierref01_Wrong.l0 k x0 (wrap64 (x3 + bt333.2))) else (some x3))))) else (none)) else (none)) else (some (-1))
def dossierref01_Wrong.f (k : Nat) (l0 : List Int) : Option (Int) := dossierref01_Wrong.l0 k l0 0
theorem dossierref01_Wrong.mono_l : ∀ k,(∀ y0 y1,LeO (dossierref01_Wrong.l0 k y0 y1) (dossierref01_Wrong.l0 (k + 1) y0 y1))
 | 0 => fun _ _ r h => by simp [dossierref01_Wrong.l0] at h
 | k + 1 => by
  have ih0 := dossierref01_Wrong.mono_l k
  · intro y0 y1
    unfold dossierref01_Wrong.l0
    repeat' first
    | (with_reducible exact ih0 _ _)
    | (with_reducible exact dossierref01_Decode.mono _ _)
    | (with_reducible exact dossierref01_OfXML.mono _ _)
    | (with_reducible exact LeO.refl _)
    | (with_reducible exact LeO.none _)
    | (with_reducible refine LeO.ite ?_ ?_)
    | (with_reducible refine LeO.bind ?_ (fun _ => ?_))
    | exact ih0 _ _
    | exact dossierref01_Decode.mono _ _
    | exact dossierref01_OfXML.mono _ _
    | exact LeO.none _
    | refine LeO.ite ?_ ?_
    | refine LeO.bind ?_ (fun _ => ?_)
theorem dossierref01_Wrong.mono : ∀ a0 k,LeO (dossierref01_Wrong.f k a0) (dossierref01_Wrong.f (k + 1) a0) := by
 intro a0 k
 have ih0 := dossierref01_Wrong.mono_l k
 unfold dossierref01_Wrong.f
 repeat' first
  | (with_reducible exact ih0 _ _)
  | (with_reducible exact dossierref01_Decode.mono _ _)
  | (with_reducible exact dossierref01_OfXML.mono _ _)
  | (with_reducible exact LeO.refl _)
  | (with_reducible exact LeO.none _)
  | (with_reducible refine LeO.ite ?_ ?_)
  | (with_reducible refine LeO.bind ?_ (fun _ => ?_))
  | exact ih0 _ _
  | exact dossierref01_Decode.mono _ _
  | exact dossierref01_OfXML.mono _ _
  | exact LeO.none _
  | refine LeO.ite ?_ ?_
  | refine LeO.bind ?_ (fun _ => ?_)
end Go.Proofs.YtbcpnpbkbndkjaaGreatDoor.Q
end
