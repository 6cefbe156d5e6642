/- Words that this session's own contracts use: what is of no program. -/
import Derived.Test.YtifgpigicgaadaaWMore
import Derived.Test.YtifgpigicgaadaaWZeros
import Derived.WalkKit
import Derived.Lib.ConvBytes
namespace Go.Proofs.YtifgpigicgaadaaH
open Go.RowKit Go.Proofs.YtifgpigicgaadaaW.PrintWords Go.Proofs.YtifgpigicgaadaaW.PrintLast Go.Proofs.YtifgpigicgaadaaW.PrintMore

/-- A row of integers that was just made reads as its list. -/
theorem C_new_ints (w : World) (k : IntKind) (l : List Int) (cs : Array Value) (t : TypeId) (n : Nat) (hn : l.length = n) (hl : l.length ≤ 9223372036854775807) (hc : cs = (l.map (Value.int k)).toArray) :
    Kd.C (Kd.int k) (w.alloc (.cells cs t)) (some ⟨w.heap.size, 0, none⟩) n l := by
  subst hn hc
  refine Kd.C_of_reads (d := (0 : Int)) (h1 := fun _ => rfl) ⟨rfl, hl, fun _ => ⟨_, rfl, fun j hj => ?_⟩⟩
  have ha : (Addr.add ⟨w.heap.size, 0, none⟩ j) = ⟨w.heap.size, j, none⟩ := by unfold Addr.add; by_cases h : j = 0 <;> simp [h]
  rw [ha]
  simp [World.cell?, World.alloc, -World.alloc_eq, hj]

end Go.Proofs.YtifgpigicgaadaaH
