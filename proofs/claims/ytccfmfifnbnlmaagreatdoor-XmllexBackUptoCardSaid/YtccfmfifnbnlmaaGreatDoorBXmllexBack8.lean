/- Several texts in one, in their order. -/
import Derived.Test.YtccfmfifnbnlmaaGreatDoorBXmllexBack5
import Derived.Test.YtccfmfifnbnlmaaGreatDoorBXmllexBack6
import Derived.Test.YtccfmfifnbnlmaaGreatDoorBXmllexBack7
import Derived.Lib.CountLaws
import Derived.Shelf.Bytes.SlSplitNil
import Derived.Maps.AppendAt
import Derived.Laws.CopyOwn
import Derived.ArgAppend
import Derived.Deep.RegionLaw
import Derived.Deep.CutBlock
import Derived.Deep.DeepCutAuto
import Derived.Deep.QuietTactic
import Derived.BigQuiet
import Derived.KernelRfl
section
/- bytes.Replace of all instances of one or two bytes by one byte: walked. -/
set_option linter.unusedVariables false
set_option linter.unusedSimpArgs false
namespace Go.Proofs.YtccfmfifnbnlmaaGreatDoor.Ev
open Go Go.RowKit Go.Proofs.YtccfmfifnbnlmaaGreatDoorW.PrintWords Go.Proofs.YtccfmfifnbnlmaaGreatDoorW.PrintLast Go.Proofs.YtccfmfifnbnlmaaGreatDoorH
/-- The first so many instances of m are r. -/
def replI (m r : List Int) : Nat → List Int → List Int
 | 0,l => l
 | k + 1,l => l.take (bIndexW l m).toNat ++ (r ++ replI m r k (l.drop ((bIndexW l m).toNat + m.length)))
def cntI (l m : List Int) : Nat := Lib.count (Lib.bytesOf l) (Lib.bytesOf m)
def replW (l m r : List Int) : List Int := replI m r (cntI l m) l
theorem index_room : ∀ (s sub : List UInt8) (i : Nat),Lib.index s sub = (i : Int) → i + sub.length ≤ s.length
 | [],sub,i,h => by
  unfold Lib.index at h
  cases sub with
  | nil =>
   have h' : (0 : Int) = i := h
   show i + 0 ≤ 0
   omega
  | cons a r =>
   have h' : (-1 : Int) = i := h
   omega
 | b :: l,sub,i,h => by
  unfold Lib.index at h
  split at h
  · rename_i hp
    have := (List.isPrefixOf_iff_prefix.1 hp).length_le
    omega
  · split at h
    · omega
    · have hge := Lib.index_ge l sub
      obtain ⟨j,hj⟩ : ∃ j : Nat,Lib.index l sub = j := ⟨(Lib.index l sub).toNat,by rename_i h1; simp at h1; omega⟩
      have := index_room l sub j hj
      rw [List.length_cons]
      omega
theorem bytesOf_drop (l : List Int) (n : Nat) : Lib.bytesOf (l.drop n) = (Lib.bytesOf l).drop n := by unfold Lib.bytesOf; rw [List.map_drop]
theorem bytesOf_ne {m : List Int} (h : 0 < m.length) : Lib.bytesOf m ≠ [] := fun e => by
 have := congrArg List.length e
 rw [Lib.bytesOf_length] at this
 have e0 : m.length = 0 := this
 omega
theorem cnt_step {l m : List Int} {k : Nat} (hm : 0 < m.length) (h : cntI l m = k + 1) : ∃ i : Nat,bIndexW l m = i ∧ i + m.length ≤ l.length ∧ cntI (l.drop (i + m.length)) m = k := by
 unfold cntI at h
 have hge := Lib.index_ge (Lib.bytesOf l) (Lib.bytesOf m)
 have hn : ¬ Lib.index (Lib.bytesOf l) (Lib.bytesOf m) = -1 := fun e => by rw [Lib.count_miss e] at h; cases h
 obtain ⟨i,hi⟩ : ∃ i : Nat,Lib.index (Lib.bytesOf l) (Lib.bytesOf m) = i := ⟨(Lib.index (Lib.bytesOf l) (Lib.bytesOf m)).toNat,by omega⟩
 have h1 := index_room _ _ i hi
 rw [Lib.bytesOf_length,Lib.bytesOf_length] at h1
 rw [Lib.count_hit (bytesOf_ne hm) hi,Lib.bytesOf_length] at h
 refine ⟨i,hi,h1,?_⟩
 unfold cntI
 rw [bytesOf_drop]
 omega
theorem replI_length {m r : List Int} (hm : 0 < m.length) : ∀ (k : Nat) (l : List Int),cntI l m = k → (replI m r k l).length + k * m.length = l.length + k * r.length
 | 0,l,_ => by simp [replI]
 | k + 1,l,h => by
  obtain ⟨i,h1,h2,h3⟩ := cnt_step hm h
  have ih := replI_length (r := r) hm k _ h3
  rw [replI,h1,Int.toNat_natCast,List.length_append,List.length_append,List.length_take,Nat.min_eq_left (by omega),Nat.add_mul,Nat.add_mul,Nat.one_mul,Nat.one_mul]
  rw [List.length_drop] at ih
  omega
theorem cnt_le_len {m : List Int} (hm : 0 < m.length) : ∀ (k : Nat) (l : List Int),cntI l m = k → k * m.length ≤ l.length
 | 0,l,_ => by omega
 | k + 1,l,h => by
  obtain ⟨i,h1,h2,h3⟩ := cnt_step hm h
  have ih := cnt_le_len hm k _ h3
  rw [List.length_drop] at ih
  rw [Nat.add_mul,Nat.one_mul]
  omega
def ints8 (l : List Int) : List Value := l.map (Value.int .u8)
/-- Cells of a row that is filled from the front. -/
def rowL (xs : List Int) (N : Nat) : List Value := ints8 xs ++ List.replicate (N - xs.length) (.int .u8 0)
theorem rowL_length (xs : List Int) (N : Nat) (h : xs.length ≤ N) : (rowL xs N).length = N := by unfold rowL ints8; simp; omega
theorem rowL_put (xs ys : List Int) (N : Nat) (h : xs.length + ys.length ≤ N) : splice (rowL xs N) xs.length (ints8 ys) = rowL (xs ++ ys) N := by
 unfold splice rowL ints8
 have e1 : (xs.map (Value.int .u8) ++ List.replicate (N - xs.length) (Value.int .u8 0)).take xs.length = xs.map (Value.int .u8) := List.take_left' (by simp)
 have e2 : (xs.map (Value.int .u8) ++ List.replicate (N - xs.length) (Value.int .u8 0)).drop (xs.length + ys.length) = List.replicate (N - (xs.length + ys.length)) (Value.int .u8 0) := by
  rw [List.drop_append,List.drop_of_length_le (by simp),List.nil_append,List.length_map,List.drop_replicate]
  congr 1
  omega
 rw [e1,List.length_map,e2,List.map_append,List.append_assoc,List.length_append]
theorem make_row (W : World) (N : Nat) (h : N ≤ 281474976710656) : (Instr.makeSlice 22 (.int .i64 (N : Int)) (.int .i64 (N : Int))).run Tryz.prog W = .ok (.slice (some ⟨W.heap.size,0,none⟩) N N) (W.alloc (.cells (rowL [] N).toArray 5)) := by
 have := run_make_row' (P := Tryz.prog) 22 5 (.int .u8 0) 1 Tryz.underlying22 (by kernel_rfl) rfl .i64 .i64 N (by omega) (by omega) W
 rw [this]
 have e : madeCells #[Value.int .u8 0] N = (rowL [] N).toArray := by
  apply Array.ext'
  unfold madeCells rowL ints8
  apply List.ext_getElem
  · simp
  · intro i h1 h2
    simp [Nat.mod_one]
 rw [e]
theorem ints_one (l : List Int) : ∀ v ∈ ints8 l,v.oneCell' = true := fun v hv => by
 obtain ⟨x,_,rfl⟩ := List.mem_map.1 hv
 rfl
theorem size8 : (Tryz.prog.info? 5).map (·.size) = some 1 := by kernel_rfl
/-- Cells that hold numbers, one behind the other. -/
def CellsAt (w : World) (blk off : Nat) (l : List Int) : Prop := ∀ i,i < l.length → w.cell? ⟨blk,off + i,none⟩ = some (.int .u8 (l.getD i 0))
theorem CellsAt.src {w : World} {blk off : Nat} {l : List Int} (h : CellsAt w blk off l) (a n : Nat) : ∀ j v,(ints8 ((l.drop a).take n))[j]? = some v → w.cell? ((⟨blk,off + a,none⟩ : Addr).add j) = some v := fun j v hj => by
 unfold ints8 at hj
 rw [List.getElem?_map,List.getElem?_take] at hj
 split at hj
 · rw [List.getElem?_drop] at hj
   obtain ⟨x,hx,rfl⟩ := Option.map_eq_some_iff.1 hj
   have hlt := (List.getElem?_eq_some_iff.1 hx).1
   have := h (a + j) hlt
   rw [List.getD_eq_getElem?_getD,hx] at this
   rw [Lib.addr_add,Nat.add_assoc]
   exact this
 · cases hj
theorem CellsAt.below {w w' : World} {blk off : Nat} {l : List Int} (h : CellsAt w blk off l) (hb : Below w.heap.size w w') : CellsAt w' blk off l := fun i hi => by
 have := h i hi
 rw [(cell_below hb (World.block_lt_of_cell? _ _ this)).1]
 exact this
theorem CellsAt.drop {w : World} {blk off : Nat} {l : List Int} (h : CellsAt w blk off l) (a : Nat) : CellsAt w blk (off + a) (l.drop a) := fun i hi => by
 rw [List.length_drop] at hi
 have := h (a + i) (by omega)
 rw [Nat.add_assoc,this]
 simp [List.getD_eq_getElem?_getD]
theorem CellsAt.add {w : World} {blk off : Nat} {l : List Int} (h : CellsAt w blk off l) : ∀ i,i < l.length → w.cell? ((⟨blk,off,none⟩ : Addr).add i) = some (.int .u8 (l.getD i 0)) := fun i hi => by
 rw [Lib.addr_add]; exact h i hi
set_option maxHeartbeats 1200000 in
set_option maxRecDepth 100000 in
theorem repl_walk (blk off n c : Nat) (l m : List Int) (x : Int) (b2 o2 c2 b3 o3 c3 : Nat) (w : World) (hn : l.length = n) (hnc : n ≤ c) (hs : n < 4294967281) (h1 : CellsAt w blk off l) (hb1 : byteB l = true) (hb2 : byteB m = true)
 (hm1 : 1 ≤ m.length) (hm2 : m.length ≤ 2) (h2 : CellsAt w b2 o2 m) (h3 : CellsAt w b3 o3 [x]) (hmc : m.length ≤ c2) (z : Int) (hz : w.cell? ⟨Tryz.layBCount_ren.g 0,0,none⟩ = some (.int .i64 z)) (hz2 : w.cell? ⟨Tryz.layBIndex_ren.g 1,0,none⟩ = some (.int .i64 z)) (K : Nat) (hk : cntI l m = K) (hK : 0 < K) :
 Calls Tryz.prog 94 #[.slice (some ⟨blk,off,none⟩) n c,.slice (some ⟨b2,o2,none⟩) m.length c2,.slice (some ⟨b3,o3,none⟩) 1 c3,.int .i64 (-1)] w fun e w' =>
  (∃ g cap,e = .returned (.slice (some ⟨g,0,none⟩) (replW l m [x]).length cap) ∧ w.heap.size ≤ g ∧ (replW l m [x]).length ≤ cap ∧ CellsAt w' g 0 (replW l m [x])) ∧ Below w.heap.size w w' := by
 obtain ⟨q,hq⟩ : ∃ q,m.length = q := ⟨_,rfl⟩
 have hc2 : Calls Tryz.prog 110 #[.slice (some ⟨blk,off,none⟩) n c,.slice (some ⟨b2,o2,none⟩) m.length c2] w fun e w' => e = .returned (.int .i64 (K : Int)) ∧ ∃ q,w' = w.drewN q := by
  have := Any.bytes_Count_any Tryz.layBCount ⟨blk,off,none⟩ ⟨b2,o2,none⟩ n c m.length c2 l m z w hn rfl (byteB_all hb1) (byteB_all hb2) (by rw [← hn]; exact h1.add) h2.add hnc hs (by omega) hm1 hz
  unfold cntI at hk
  rw [hk] at this
  exact this
 have hN0 := replI_length (m := m) (r := [x]) (by omega) K l hk
 have hle := cnt_le_len (m := m) (by omega) K l hk
 obtain ⟨N,hN⟩ : ∃ N,(replW l m [x]).length = N := ⟨_,rfl⟩
 have hNN : N + K * m.length = n + K * 1 := by rw [← hN,← hn]; unfold replW; rw [hk]; exact hN0
 have hNr : K * m.length ≤ n := by rw [← hn]; exact hle
 clear hN0 hle
 have hK0 : ((K : Int) == 0) = false := beq_eq_false_iff_ne.2 (by omega)
 rw [hq] at hc2 hNN hNr hm1 hm2 ⊢
 rw [hN]
 have H1 := Aside0.mk h1
 have H2 := Aside0.mk h2
 have H3 := Aside0.mk h3
 clear h1 h2 h3
 have hmk := fun W : World => make_row W N (by have : q = 1 ∨ q = 2 := by omega
                                               rcases this with rfl | rfl <;> omega)
 have hacc0 : replI m [x] K l = replW l m [x] := by unfold replW; rw [hk]
 have hNb : N ≤ 4294967296 := by
  obtain rfl | rfl : q = 1 ∨ q = 2 := by omega
  all_goals omega
 have hKb : K ≤ 4294967296 := by
  obtain rfl | rfl : q = 1 ∨ q = 2 := by omega
  all_goals omega
 have hZ0 : ∃ Z : Int,(K : Int) * (1 - (q : Int)) = Z ∧ (n : Int) + Z = (N : Int) ∧ -4294967296 ≤ Z ∧ Z ≤ 0 := by
  refine ⟨_,rfl,?_⟩
  obtain rfl | rfl : q = 1 ∨ q = 2 := by omega
  · rw [show (1 : Int) - ((1 : Nat) : Int) = 0 from rfl,Int.mul_zero]; omega
  · rw [show (1 : Int) - ((2 : Nat) : Int) = -1 from rfl,Int.mul_neg,Int.mul_one]; omega
 obtain ⟨Z,hZ1,hZ2,hZ3,hZ4⟩ := hZ0
 have hq0 : 0 < q := by omega
 · go_enter Tryz.func94,Tryz.ntmps94
   go_wp2_with (go_at_call 110; refine hc2.mono ?_; rintro e w' ⟨rfl,qq,hw⟩; rw [hw])
   have hrow0 : ((w.drewN qq).alloc (.cells (rowL [] N).toArray 5)).heap[w.heap.size]? = some (.cells (rowL [] N).toArray 5 (0,0)) := blk_new (w.drewN qq) _
   have hB0 : Below w.heap.size w ((w.drewN qq).alloc (.cells (rowL [] N).toArray 5)) := below_alloc (below_drewW w qq) _
   have R0 := Aside0.mk hrow0
   have B0 := Aside0.mk hB0
   have HNN := Aside0.mk (And.intro hNN (And.intro hN (And.intro hk hacc0)))
   clear hrow0 hB0 hc2 hmk hNN hNr hN hk hacc0 hZ1 hZ2 hZ3 hZ4
   have hgl := Aside0.mk (Nat.le_refl w.heap.size)
   go_loopw [11,12,49] (fun v11 v12 v49 wr => ∃ i st j : Nat,i ≤ K ∧ v49 = .int .i64 i ∧ v12 = .int .i64 st ∧ v11 = .int .i64 j ∧ st ≤ n ∧ Aside0 (∃ acc : List Int,j = acc.length ∧ wr.heap[w.heap.size]? = some (.cells (rowL acc N).toArray 5 (0,0)) ∧ acc ++ replI m [x] (K - i) (l.drop st) = replW l m [x] ∧ cntI (l.drop st) m = K - i) ∧ Aside0 (Below w.heap.size w wr)) (fun _ _ i _ => K - (intOf i).toNat)
   case atStart => exact ⟨0,0,0,Nat.zero_le _,rfl,rfl,rfl,Nat.zero_le _,⟨[],rfl,R0.out,by rw [List.drop_zero,Nat.sub_zero,List.nil_append]; exact HNN.out.2.2.2,by rw [List.drop_zero]; exact HNN.out.2.2.1⟩,B0⟩
   case round =>
    obtain ⟨i,st,j,hi,rfl,rfl,rfl,hst,hI,hB⟩ := hrel
    by_cases hlt : i < K
    · obtain ⟨acc,hj,hrow,hacc,hcnt⟩ := hI.out
      obtain ⟨t,ht1,ht2,ht3⟩ := cnt_step (l := l.drop st) (m := m) (k := K - i - 1) (by omega) (by omega)
      rw [List.length_drop,hq,hn] at ht2
      rw [hq] at ht3
      have e1 : replI m [x] (K - i) (l.drop st) = (l.drop st).take t ++ ([x] ++ replI m [x] (K - i - 1) ((l.drop st).drop (t + q))) := by rw [show K - i = (K - i - 1) + 1 by omega,replI,ht1,Int.toNat_natCast,hq,Nat.add_sub_cancel]
      have hjN : j + (t + 1) ≤ N := by
       have := congrArg List.length hacc
       rw [HNN.out.2.1,e1,List.length_append,List.length_append,List.length_append,List.length_take,List.length_drop,hn,Nat.min_eq_left (by omega)] at this
       simp only [List.length_cons,List.length_nil] at this
       omega
      have hidx : Calls Tryz.prog 41 #[.slice (some ⟨blk,off + st,none⟩) (n - st) (c - st),.slice (some ⟨b2,o2,none⟩) q c2] wr fun e w' => e = .returned (.int .i64 (t : Int)) ∧ ∃ q',w' = wr.drewN q' := by
       have hz' : wr.cell? _ = _ := (cell_below hB.out (World.block_lt_of_cell? _ _ hz2)).1.trans hz2
       have := Any.bytes_Index_at { Tryz.layBIndex with } ⟨blk,off + st,none⟩ ⟨b2,o2,none⟩ (n - st) (c - st) q c2 (l.drop st) m z wr (by rw [List.length_drop,hn]) hq (fun y hy => byteB_all hb1 y (List.mem_of_mem_drop hy)) (byteB_all hb2) (fun a ha => ((H1.out.drop st).below hB.out).add a (by rw [List.length_drop,hn]; exact ha)) (fun a ha => (H2.out.below hB.out).add a (by rw [hq]; exact ha)) (by omega) (by omega) (by omega) hz'
       rwa [show Lib.index (Lib.bytesOf (l.drop st)) (Lib.bytesOf m) = bIndexW (l.drop st) m from rfl,ht1] at this
      have hcst : ¬ c = st := by omega
      have hjle : j ≤ N := by omega
      have hjne : ¬ N = j := by omega
      obtain ⟨e,he⟩ : ∃ e,e = st + t := ⟨_,rfl⟩
      have he1 : (st : Int) + (t : Int) = (e : Int) := by omega
      have he2 : st ≤ e := by omega
      have he3 : e ≤ c := by omega
      have HE := Aside0.mk (show t = e - st by omega)
      clear he
      obtain ⟨f,hf⟩ : ∃ f,f = j + t := ⟨_,rfl⟩
      have hf1 : (j : Int) + (t : Int) = (f : Int) := by omega
      have hf2 : f + 1 ≤ N := by omega
      obtain ⟨u,hu⟩ : ∃ u,u = (l.drop st).take t := ⟨_,rfl⟩
      obtain ⟨cs1,hc1⟩ : ∃ cs1,cs1 = ints8 u := ⟨_,rfl⟩
      obtain ⟨row1,hr1⟩ : ∃ row1,row1 = rowL acc N := ⟨_,rfl⟩
      have hL : cs1.length = t := by rw [hc1,hu]; unfold ints8; rw [List.length_map,List.length_take,List.length_drop,hn]; omega
      have HF := Aside0.mk (show j + cs1.length ≤ row1.length by rw [hL,hr1,rowL_length _ _ (by rw [← hj]; omega)]; omega)
      have HN := Aside0.mk (show cs1.length = Nat.min (e - st) (N - j) by rw [hL,HE.out]; exact (Nat.min_eq_left (by omega)).symm)
      have HO := Aside0.mk (show ∀ v ∈ cs1,v.oneCell' = true by rw [hc1]; exact ints_one _)
      rw [← hr1] at hrow
      have rowD := Aside0.mk (fun q => (show (wr.drewN q).heap[w.heap.size]? = some (.cells row1.toArray 5 (0,0)) from hrow))
      have belD := Aside0.mk (fun q => pw_below_drewN hB.out q)
      have src1 := Aside0.mk (fun q => (H1.out.below (pw_below_drewN hB.out q)).src st t)
      rw [← hu,← hc1] at src1
      have src2 := Aside0.mk (fun W (hW : Below w.heap.size w W) => (H3.out.below hW).src 0 1)
      have HX := Aside0.mk (And.intro hj (And.intro hf (And.intro hacc (And.intro ht3 (And.intro e1 (And.intro hu (And.intro hc1 hr1)))))))
      clear hrow hacc ht3 e1 hcnt ht1 hj hf hu hc1 hr1
      go_wp2_with (go_at_call 41; refine hidx.mono ?_; rintro e w' ⟨rfl,q',hw⟩; rw [hw])
      go_region_law (refine step_copy_splice (w := wr.drewN (q' + 1)) (by rfl) (.tmp 61) (.tmp 65) 22 22 (by rfl) 5 Tryz.underlying22 size8 (some ⟨w.heap.size,j,none⟩) (some ⟨blk,off + st,none⟩) (N - j) (N - j) (e - st) (c - st) (by simp [Act.eval,Act.put]) (by simp [Act.eval,Act.put]) w.heap.size j row1 5 (rowD.out (q' + 1)) cs1 HN.out (fun _ => ⟨rfl,_,rfl,src1.out (q' + 1)⟩) HF.out HO.out w.heap.size w (belD.out (q' + 1)) hgl.out ?_; intro w4 hg4 hb4)
      obtain ⟨row2,hr2⟩ : ∃ row2,row2 = rowL (acc ++ u) N := ⟨_,rfl⟩
      have hput : splice row1 j cs1 = row2 := by
       rw [hr2,HX.out.2.2.2.2.2.2.2,HX.out.2.2.2.2.2.2.1,HX.out.1]
       exact rowL_put acc u N (by rw [← HX.out.1]; have := hL; rw [HX.out.2.2.2.2.2.2.1] at this; unfold ints8 at this; rw [List.length_map] at this; omega)
      rw [hput] at hg4
      have hul : u.length = t := by have := hL; rw [HX.out.2.2.2.2.2.2.1] at this; unfold ints8 at this; rw [List.length_map] at this; exact this
      have HR := Aside0.mk (And.intro hr2 hul)
      have HF2 := Aside0.mk (show f + [Value.int .u8 x].length ≤ row2.length by rw [hr2,rowL_length _ _ (by rw [List.length_append,← HX.out.1,hul]; omega)]; simp; omega)
      have s3 := Aside0.mk (show ∀ (j : Nat) v,[Value.int .u8 x][j]? = some v → w4.cell? ((⟨b3,o3,none⟩ : Addr).add j) = some v from src2.out w4 hb4)
      have HN2 := Aside0.mk (show [Value.int .u8 x].length = Nat.min 1 (N - f) by show 1 = min 1 (N - f); omega)
      have hfle : f ≤ N := by omega
      have hfne : ¬ N = f := by omega
      obtain ⟨w5,hcp,hg5,hb5⟩ : ∃ w5,(Builtin.copy_ #[22,22] 3 #[.slice (some ⟨w.heap.size,f,none⟩) (N - f) (N - f),.slice (some ⟨b3,o3,none⟩) 1 c3]).run Tryz.prog w4 = .ok (.int .i64 1) w5 ∧ Aside0 (w5.heap[w.heap.size]? = some (.cells (splice row2 f [Value.int .u8 x]).toArray 5 (0,0))) ∧ Aside0 (Below w.heap.size w w5) :=
       ⟨_,run_copy_row (P := Tryz.prog) w4 22 22 3 5 w.heap.size f (N - f) (N - f) ⟨b3,o3,none⟩ 1 c3 row2.toArray 5 [Value.int .u8 x] Tryz.underlying22 size8 hg4.out HN2.out s3.out (by simpa using HF2.out) (ints_one [x]),⟨by simpa [splice] using setRow_heap w4 w.heap.size row2.toArray _ 5 _ hg4.out⟩,⟨below_setRow hb4 hgl.out _⟩⟩
      clear hr2 hul hput
      go_wp2
      have x1 : f + 1 = (acc ++ (u ++ [x])).length := by rw [HX.out.2.1,HX.out.1,← HR.out.2]; simp; omega
      have x2 : w5.heap[w.heap.size]? = some (.cells (rowL (acc ++ (u ++ [x])) N).toArray 5 (0,0)) := by
       have p := rowL_put (acc ++ u) [x] N (by rw [List.length_append,← HX.out.1,HR.out.2,List.length_singleton]; omega)
       rw [List.append_assoc,List.length_append,← HX.out.1,HR.out.2,← HX.out.2.1] at p
       rw [← p,← HR.out.1]
       exact hg5.out
      have x3 : (l.drop st).drop (t + q) = l.drop (e + q) := by rw [List.drop_drop]; congr 1; have := HE.out; omega
      have x4 : (acc ++ (u ++ [x])) ++ replI m [x] (K - (i + 1)) (l.drop (e + q)) = replW l m [x] := by
       rw [← HX.out.2.2.1,HX.out.2.2.2.2.1,x3,← HX.out.2.2.2.2.2.1,show K - (i + 1) = K - i - 1 by omega]
       simp only [List.append_assoc]
      have x5 : cntI (l.drop (e + q)) m = K - (i + 1) := by rw [← x3,HX.out.2.2.2.1]; omega
      refine ⟨⟨i + 1,e + q,f + 1,by omega,congrArg (Value.int .i64) (by omega),congrArg (Value.int .i64) (by omega),congrArg (Value.int .i64) (by omega),by have := HE.out; omega,⟨acc ++ (u ++ [x]),x1,x2,x4,x5⟩,hb5⟩,by simp [intOf]; omega⟩
    · obtain ⟨acc,hj,hrow,hacc,hcnt⟩ := hI.out
      have hiK : i = K := by omega
      subst hiK
      rw [Nat.sub_self,replI] at hacc
      have hlen : j + (n - st) = N := by
       have := congrArg List.length hacc
       rw [HNN.out.2.1,List.length_append,List.length_drop,hn,← hj] at this
       exact this
      have fin : ∀ W : World,W.heap[w.heap.size]? = some (.cells (ints8 (replW l m [x])).toArray 5 (0,0)) → CellsAt W w.heap.size 0 (replW l m [x]) := fun W hW a ha => by
       rw [Nat.zero_add,blk_cell hW a,List.getElem?_toArray]
       unfold ints8
       rw [List.getElem?_map,List.getElem?_eq_getElem ha,List.getD_eq_getElem?_getD,List.getElem?_eq_getElem ha]
       rfl
      have FIN := Aside0.mk fin
      have rowD := Aside0.mk (fun q => (show (wr.drewN q).heap[w.heap.size]? = some (.cells (rowL acc N).toArray 5 (0,0)) from hrow))
      have belD := Aside0.mk (fun q => pw_below_drewN hB.out q)
      have src1 := Aside0.mk (fun q => (H1.out.below (pw_below_drewN hB.out q)).src st (n - st))
      obtain ⟨row1,hr1⟩ : ∃ row1,row1 = rowL acc N := ⟨_,rfl⟩
      obtain ⟨cs1,hc1⟩ : ∃ cs1,cs1 = ints8 ((l.drop st).take (n - st)) := ⟨_,rfl⟩
      rw [← hr1] at rowD
      rw [← hc1] at src1
      have hL : cs1.length = n - st := by rw [hc1]; unfold ints8; rw [List.length_map,List.length_take,List.length_drop,hn]; omega
      have hall : splice row1 j cs1 = ints8 (replW l m [x]) := by
       rw [hr1,hc1,hj]
       have p := rowL_put acc ((l.drop st).take (n - st)) N (by rw [← hj,List.length_take,List.length_drop,hn]; omega)
       rw [p,List.take_of_length_le (by rw [List.length_drop,hn]; exact Nat.le_refl _),hacc]
       unfold rowL
       rw [HNN.out.2.1,Nat.sub_self]
       simp
      have HA := Aside0.mk (And.intro hall hL)
      by_cases h0 : st = n
      · subst h0
        obtain rfl : j = N := by omega
        have hcp0 : ∀ (W : World) (d a : Option Addr) (dl dc cc : Nat),(Builtin.copy_ #[22,22] 3 #[.slice d dl dc,.slice a 0 cc]).run Tryz.prog W = .ok (goInt 0) W := fun W d a dl dc cc => run_copy_none (P := Tryz.prog) W 22 22 3 5 d a dl dc 0 cc Tryz.underlying22 size8 (by simp)
        have hfull : Aside0 (row1 = ints8 (replW l m [x])) := ⟨by
         rw [Nat.sub_self,List.drop_of_length_le (by omega)] at hc1
         have : cs1 = [] := by rw [hc1]; rfl
         rw [← hall,this]
         simp [splice]⟩
        clear hrow hacc hcnt hj hr1 hc1 fin hall
        by_cases hcn : c = st
        · subst hcn
          go_wp2
          go_quiet (fail)
          go_wp2
          go_ret
          exact ⟨⟨w.heap.size,j,by first | rfl | simp,Nat.le_refl _,Nat.le_refl _,FIN.out _ (by rw [← hfull.out]; exact rowD.out _)⟩,belD.out _⟩
        · go_wp2
          go_quiet (fail)
          go_wp2
          go_ret
          exact ⟨⟨w.heap.size,j,by first | rfl | simp,Nat.le_refl _,Nat.le_refl _,FIN.out _ (by rw [← hfull.out]; exact rowD.out _)⟩,belD.out _⟩
      · have hcst : ¬ c = st := by omega
        have hjle : j ≤ N := by omega
        have hjne : ¬ N = j := by omega
        have hjs : (j : Int) + ((n - st : Nat) : Int) = (N : Int) := by omega
        have HF := Aside0.mk (show j + cs1.length ≤ row1.length by rw [hL,hr1,rowL_length _ _ (by rw [← hj]; omega)]; omega)
        have HN := Aside0.mk (show cs1.length = Nat.min (n - st) (N - j) by rw [hL]; show n - st = min (n - st) (N - j); omega)
        have HO := Aside0.mk (show ∀ v ∈ cs1,v.oneCell' = true by rw [hc1]; exact ints_one _)
        clear hrow hacc hcnt hj hr1 hc1 fin hall
        go_wp2
        go_region_law (refine step_copy_splice (w := wr.drew) (by rfl) (.tmp 123) (.tmp 126) 22 22 (by rfl) 5 Tryz.underlying22 size8 (some ⟨w.heap.size,j,none⟩) (some ⟨blk,off + st,none⟩) (N - j) (N - j) (n - st) (c - st) (by simp [Act.eval,Act.put]) (by simp [Act.eval,Act.put]) w.heap.size j row1 5 (rowD.out 1) cs1 HN.out (fun _ => ⟨rfl,_,rfl,src1.out 1⟩) HF.out HO.out w.heap.size w (belD.out 1) hgl.out ?_; intro w4 hg4 hb4)
        go_wp2
        go_ret
        exact ⟨⟨w.heap.size,N,by first | rfl | simp,Nat.le_refl _,Nat.le_refl _,FIN.out w4 (by rw [← HA.out.1]; exact hg4.out)⟩,hb4⟩
/-- A new slice of these bytes, or nil. -/
def NewOf (w w' : World) (l : List Int) (v : Value) : Prop := (v = .slice none 0 0 ∧ l = []) ∨ ∃ g cap,v = .slice (some ⟨g,0,none⟩) l.length cap ∧ w.heap.size ≤ g ∧ l.length ≤ cap ∧ CellsAt w' g 0 l
theorem byte_info : ∃ i8,Tryz.prog.info? 5 = some i8 ∧ i8.zero = some (.int .u8 0) ∧ i8.size = 1 ∧ i8.bytes = 1 := by
 have h : (Tryz.prog.info? 5).map (fun i => (i.zero,i.size,i.bytes)) = some (some (.int .u8 0),1,1) := by kernel_rfl
 obtain ⟨i,h1,h2⟩ := Option.map_eq_some_iff.1 h
 simp only [Prod.mk.injEq] at h2
 exact ⟨i,h1,h2.1,h2.2.1,h2.2.2⟩
set_option maxHeartbeats 2000000 in
set_option maxRecDepth 100000 in
theorem repl_none (p : Option Addr) (n c : Nat) (l m r : List Int) (b2 o2 c2 : Nat) (v3 : Value) (w : World) (hn : l.length = n) (hnc : n ≤ c) (hs : n < 4294967281) (h1 : Lib.BytesIn w p n l) (hb1 : byteB l = true) (hp : p = none → c = 0)
 (hc : Calls Tryz.prog 110 #[.slice p n c,.slice (some ⟨b2,o2,none⟩) m.length c2] w fun e w' => e = .returned (.int .i64 0) ∧ ∃ q,w' = w.drewN q) :
 Calls Tryz.prog 94 #[.slice p n c,.slice (some ⟨b2,o2,none⟩) m.length c2,v3,.int .i64 (-1)] w fun e w' => (∃ v,e = .returned v ∧ NewOf w w' l v) ∧ Below w.heap.size w w' := by
 have H1 := Aside0.mk h1
 clear h1
 cases p with
 | none =>
  obtain rfl := hp rfl
  obtain rfl : n = 0 := by omega
  go_enter Tryz.func94,Tryz.ntmps94
  go_wp2_with (go_at_call 110; refine hc.mono ?_; rintro e w' ⟨rfl,qq,hw⟩; rw [hw])
  go_ret
  exact ⟨⟨_,by first | rfl | simp,.inl ⟨rfl,List.eq_nil_of_length_eq_zero hn⟩⟩,below_drewW _ _⟩
 | some a =>
  have hsrc : Aside0 (∀ q (j : Nat) u,(ints8 l)[j]? = some u → (w.drewN q).cell? (a.add j) = some u) := ⟨fun q j u hj => by
   have hlt : j < l.length := by have := (List.getElem?_eq_some_iff.1 hj).1; unfold ints8 at this; rwa [List.length_map] at this
   obtain ⟨b,o,e1,e2⟩ := H1.out.at (by omega : 0 < n)
   obtain rfl := Option.some.inj e1
   have := e2 j (by omega)
   unfold ints8 at hj
   rw [List.getElem?_map,List.getElem?_eq_getElem hlt] at hj
   obtain rfl := Option.some.inj hj
   rw [List.getD_eq_getElem?_getD,List.getElem?_eq_getElem hlt] at this
   rw [Lib.addr_add]
   exact this⟩
  obtain ⟨i8,hi8,hi8z,hi8s,hi8b⟩ := byte_info
  go_enter Tryz.func94,Tryz.ntmps94
  go_wp2_with (first | (go_at_call 110; refine hc.mono ?_; rintro e w' ⟨rfl,qq,hw⟩; rw [hw]) | (at_builtin; refine wpList_append_own_at (P := Tryz.prog) _ (by rfl) (.const (.slice none 0 0)) (.tmp 24) 22 (by rfl) w.heap.size 5 i8 (.int .u8 0) 1 1 Tryz.underlying22 hi8 hi8z hi8s hi8b rfl (by decide) (.slice none 0 0) 0 [] (by rfl) (World.ownsRow_nil _ _ _ _) a n c (ints8 l) (by rfl) (by unfold ints8; rw [List.length_map]; omega) (hsrc.out qq) (ints_one l) (by simp only [maxLen]; omega) (by omega) (Nat.le_refl _) ?_; intro v2 w2 hown hgr hnil hat))
  go_ret
  refine ⟨⟨v2,by first | rfl | simp,?_⟩,⟨hgr.os,hgr.tape,hgr.output,hgr.size,fun k hk => hgr.block k hk (by simp [Value.ownBlock])⟩⟩
  rcases hown.2 with ⟨rfl,h0⟩ | ⟨g,cap,cur,rfl,hg,hcur,hnc2,_,hsz,htk⟩
  · exact .inl ⟨rfl,List.eq_nil_of_length_eq_zero (by omega)⟩
  · refine .inr ⟨g,cap,by rw [Nat.zero_add,hn],hg,by omega,fun j hj => ?_⟩
    rw [Nat.zero_add,blk_cell hcur j]
    have e := congrArg (·[j]?) htk
    simp only [List.nil_append] at e
    rw [List.getElem?_take,if_pos (by omega),Array.getElem?_toList] at e
    rw [e]
    unfold ints8
    rw [List.getElem?_map,List.getElem?_eq_getElem hj,List.getD_eq_getElem?_getD,List.getElem?_eq_getElem hj]
    rfl
section
variable {U : Nat → Type} {C : Codec U}
theorem newOf_rel {g : Gh} {w w' : World} {l : List Int} {v : Value} (h : NewOf w w' l v) : RelV C (g.grow w w') (.sl (.int .u8) l .no) v := by
 rcases h with ⟨rfl,rfl⟩ | ⟨b,cap,rfl,h1,h2,h3⟩
 · exact .sl0 rfl
 · refine .sl (vs := l.map (Value.int .u8)) (RelVs.ofNums _) (fun j v hv => grow_new h1 ?_) h2 trivial
   have hlt : j < l.length := by have := (List.getElem?_eq_some_iff.1 hv).1; rwa [List.length_map] at this
   rw [h3 j hlt,List.getD_eq_getElem?_getD,List.getElem?_eq_getElem hlt]
   rw [List.getElem?_map,List.getElem?_eq_getElem hlt] at hv
   exact hv
theorem cnt_nil {m : List Int} (h : 0 < m.length) : cntI [] m = 0 := by
 unfold cntI
 refine Lib.count_miss ?_
 cases m with
 | nil => exact absurd h (Nat.lt_irrefl 0)
 | cons a r => rfl
def replF : List (AVal U) → Option (AVal U)
 | [.sl (.int .u8) l _,.sl (.int .u8) m _,.sl (.int .u8) r _,.int .i64 n] => if (n = -1 ∧ byteB l = true ∧ byteB m = true) ∧ (l.length < 4294967281 ∧ 1 ≤ m.length ∧ m.length ≤ 2 ∧ r.length = 1) then some (.sl (.int .u8) (replW l m r) .no) else none
 | _ => none
theorem repl_ok : CallOk (R := Rr U) Tryz.prog C 94 (asExt replF) := by
 refine callOk_ext fun args v h g w cs ha hi hw => ?_
 unfold replF at h
 split at h
 · rename_i l _ m _ r _ n
   split at h
   · rename_i hs
     obtain rfl := Option.some.inj h
     obtain ⟨⟨rfl,hb1,hb2⟩,h1,h2,h3,h4⟩ := hs
     obtain ⟨x,rfl⟩ := List.length_eq_one_iff.1 h4
     obtain ⟨w0,hw1,hw2⟩ := hw
     obtain ⟨z,hz⟩ := (Tryz.layBIndex).s1_3 w0 hw2.2
     have hlt := World.block_lt_of_cell? _ _ hz
     have hz' : w.cell? _ = _ := (cell_below hw1 hlt).1.trans hz
     cases ha with
     | cons ha1 ha =>
     cases ha with
     | cons ha2 ha =>
     cases ha with
     | cons ha3 ha =>
     cases ha with
     | cons ha4 ha =>
     cases ha
     cases ha4
     cases ha2 with
     | sl0 => exact absurd h2 (by simp)
     | sle => exact absurd h2 (by simp)
     | sl hs2 hm2 hl2 hp2 =>
     cases ha3 with
     | sl hs3 hm3 hl3 hp3 =>
     rename_i b2 o2 c2 vs2 b3 o3 c3 vs3
     have hc2 : CellsAt w b2 o2 m := fun i hl => by have := bytes_at hs2 hm2 hi i hl; rwa [Lib.addr_add] at this
     have hc3 : CellsAt w b3 o3 [x] := fun i hl => by have := bytes_at hs3 hm3 hi i hl; rwa [Lib.addr_add] at this
     have h0 := hc2 0 (by omega)
     have none (p : Option Addr) (c : Nat) (hnc : l.length ≤ c) (hx : Lib.BytesIn w p l.length l) (hp : p = none → c = 0) (hk : cntI l m = 0) (hc : Calls Tryz.prog 110 #[.slice p l.length c,.slice (some ⟨b2,o2,none⟩) m.length c2] w fun e w' => e = .returned (.int .i64 0) ∧ ∃ q,w' = w.drewN q) :
      Calls Tryz.prog 94 #[.slice p l.length c,.slice (some ⟨b2,o2,none⟩) m.length c2,.slice (some ⟨b3,o3,none⟩) 1 c3,.int .i64 (-1)] w fun e w' => ∃ c,e = .returned c ∧ RowKit.Below w.heap.size w w' ∧ RelV C (g.grow w w') (.sl (.int .u8) (replW l m [x]) .no) c := by
      refine (repl_none p l.length c l m [x] b2 o2 c2 _ w rfl hnc h1 hx hb1 hp hc).mono fun e w' ⟨⟨v,h5,h6⟩,h7⟩ => ⟨v,h5,h7,?_⟩
      have e : replW l m [x] = l := by unfold replW; rw [hk]; rfl
      rw [e]
      exact newOf_rel h6
     cases ha1 with
     | sl0 => exact none Option.none 0 (Nat.zero_le _) (fun h => absurd h (Nat.lt_irrefl 0)) (fun _ => rfl) (cnt_nil (by omega)) ((Any.bytes_Count_nil_any Tryz.layBCount _ m.length c2 w h2 (by omega) (fun _ => ⟨_,_,_,rfl,h0⟩)).mono fun e w' ⟨h5,h6⟩ => ⟨h5,0,h6⟩)
     | sle =>
      rename_i a hz0
      refine none (some a) 0 (Nat.zero_le _) (fun h => absurd h (Nat.lt_irrefl 0)) (fun h => by cases h) (cnt_nil (by omega)) ?_
      have := Any.bytes_Count_any Tryz.layBCount a ⟨b2,o2,Option.none⟩ 0 0 m.length c2 [] m z w rfl rfl (fun y hy => by cases hy) (byteB_all hb2) (fun i hi => absurd hi (Nat.not_lt_zero i)) hc2.add (Nat.le_refl _) (by decide) (by omega) h2 hz'
      rw [show Lib.count (Lib.bytesOf []) (Lib.bytesOf m) = 0 from cnt_nil (by omega)] at this
      exact this
     | sl hs1 hm1 hl1 hp1 =>
      rename_i blk off cap vs
      have hc1 : CellsAt w blk off l := fun i hl => by have := bytes_at hs1 hm1 hi i hl; rwa [Lib.addr_add] at this
      cases hk : cntI l m with
      | zero =>
       refine none (some ⟨blk,off,Option.none⟩) cap hl1 (Lib.BytesIn.of_cells hc1.add) (fun h => by cases h) hk ?_
       have := Any.bytes_Count_any Tryz.layBCount ⟨blk,off,Option.none⟩ ⟨b2,o2,Option.none⟩ l.length cap m.length c2 l m z w rfl rfl (byteB_all hb1) (byteB_all hb2) hc1.add hc2.add hl1 h1 (by omega) h2 hz'
       rw [show Lib.count (Lib.bytesOf l) (Lib.bytesOf m) = 0 from hk] at this
       exact this
      | succ k =>
       refine (repl_walk blk off l.length cap l m x b2 o2 c2 b3 o3 c3 w rfl hl1 h1 hc1 hb1 hb2 h2 h3 hc2 hc3 hl2 z hz' hz' (k + 1) hk (Nat.succ_pos k)).mono fun e w' ⟨⟨b,c,h5,h6,h7,h8⟩,h9⟩ => ⟨_,h5,h9,newOf_rel (.inr ⟨b,c,rfl,h6,h7,h8⟩)⟩
   · cases h
 · cases h
def replS {R : Type} : List (AVal U) → St U → (Res U → St U → Option R) → Option R := fun args st K => match args with
 | [.sl (.int .u8) l _,.sl (.int .u8) m _,.sl (.int .u8) r _,.int .i64 n] => if (n = -1 ∧ byteB l = true ∧ byteB m = true) ∧ (l.length < 4294967281 ∧ 1 ≤ m.length ∧ m.length ≤ 2 ∧ r.length = 1) then K (.ret (.sl (.int .u8) (replW l m r) .no)) st else none
 | _ => none
theorem replS_ok : CallOkL (R := Rr U) Tryz.prog C 94 replS := callOk_by repl_ok fun args st K r h => by
 unfold replS at h
 unfold asExt replF
 split at h
 · split at h
   · rename_i h1
     rw [if_pos h1]; exact h
   · cases h
 · cases h
end
end Go.Proofs.YtccfmfifnbnlmaaGreatDoor.Ev
end
section
/- What the lists of functions share: words of functions, contexts, rounds. -/
set_option linter.unusedVariables false
namespace Go.Proofs.YtccfmfifnbnlmaaGreatDoor.Ev
open Go
abbrev W : Ty := .pair (.int .i64) (.pair .str (.int .i64))
abbrev Spec := List (AVal U0) → St U0 → (Res U0 → St U0 → Option (Rr U0)) → Option (Rr U0)
abbrev SpecL := List (FuncId × Bool × Spec)
def extL : List (FuncId × Bool × Spec) → FuncId → Option (Bool × Spec)
 | [],_ => none
 | s :: r,f => match Nat.beq s.1 f with
  | true => some s.2
  | false => extL r f
noncomputable def cxOf (l : List (FuncId × Bool × Spec)) : Cx U0 (Rr U0) := ⟨TT U0,FT,extL l,live0,C0,eqs0⟩
/-- Functions that call each other. -/
def recL : List (FuncId × Spec) → FuncId → Spec
 | [],_ => fun _ _ _ => none
 | s :: r,f => match Nat.beq s.1 f with
  | true => s.2
  | false => recL r f
open Classical in
/-- What a function with so many rounds at most comes to. -/
noncomputable def lim {α : Type} (X : Nat → Option α) : Option α := if h : ∃ k v,k ≤ 16000000 ∧ X k = some v then X h.choose else none
def specs_lib0 : List (FuncId × Bool × Spec) := [(96,false,indexByteS),(89,false,runeS),(41,false,bIndexS),(62,false,bIndexByteS),(107,false,bTrimS),(94,false,replS)]
end Go.Proofs.YtccfmfifnbnlmaaGreatDoor.Ev
end
section
/- How the evaluator's trees are the functions that were printed: what both proofs share. -/
set_option linter.unusedVariables false
namespace Go.Proofs.YtccfmfifnbnlmaaGreatDoor.Ev
open Go Go.RowKit Go.Proofs.YtccfmfifnbnlmaaGreatDoorW.PrintWords

theorem seq_list (x y : ByteArray) : (seq x y = true) = (x.toList = y.toList) := by
  rw [ByteArray.toList_eq, ByteArray.toList_eq]
  unfold seq
  simp
theorem seq_false (x y : ByteArray) : (seq x y = false) = ¬ (x.toList = y.toList) := by
  rw [← seq_list]
  cases seq x y <;> simp
theorem ba_list (l : List UInt8) : (ByteArray.mk ⟨l⟩).toList = l := by rw [ByteArray.toList_eq]
theorem ite_or (c : Prop) [Decidable c] (b : Bool) : ((if c then true else b) = true) = (c ∨ b = true) := by by_cases h : c <;> simp [h]
theorem ite_and (c : Prop) [Decidable c] (b : Bool) : ((if c then b else false) = true) = (c ∧ b = true) := by by_cases h : c <;> simp [h]
theorem wrap_64 (x : Int) : IntKind.i64.wrap x = wrap64 x := by
  unfold wrap64; exact IntKind.wrap_i64 x
theorem bt_eq (s : ByteArray) (i : Int) : Ev.bt s i = Go.Proofs.YtccfmfifnbnlmaaGreatDoorW.PrintWords.bt s i := rfl
theorem nth_bind {β : Type} (l : List Int) (i : Int) (f : Int → Option β) (h0 : 0 ≤ i) (h1 : i < l.length) : (nth l i.toNat).bind f = f (rd l i) := by
  rw [nth_get]
  unfold rd
  rw [List.getD_eq_getElem?_getD]
  have : i.toNat < l.length := by omega
  rw [List.getElem?_eq_getElem this]
  rfl

theorem toBytes_len (s : ByteArray) : (toBytes s).length = s.size := by
  unfold toBytes
  rw [List.length_map, Array.length_toList]
  rfl
theorem wrap_8 (x : Int) : IntKind.u8.wrap x = x % 256 := IntKind.wrap_u8 x
theorem wrap_u64_mod (x : Int) : IntKind.u64.wrap (x % 256) = x % 256 := by
  rw [IntKind.wrap_u64]; omega
theorem ofBytes_eq (l : List Int) : ofBytes l = strOfNums l := rfl
theorem false_or_b (b : Bool) : ((if false = true then true else b) = true) = (b = true) := by simp
theorem true_and_b (b : Bool) : ((if true = true then b else false) = true) = (b = true) := by simp
theorem shr_6 (r : Int) : r.fdiv ((2 : Int) ^ min (Int.toNat (6 : Int)) IntKind.i64.bits) = r / 64 := by
  rw [show ((2 : Int) ^ min (Int.toNat (6 : Int)) IntKind.i64.bits) = 64 from by decide]; exact Int.fdiv_eq_ediv_of_nonneg r (by decide)
theorem shr_12 (r : Int) : r.fdiv ((2 : Int) ^ min (Int.toNat (12 : Int)) IntKind.i64.bits) = r / 4096 := by
  rw [show ((2 : Int) ^ min (Int.toNat (12 : Int)) IntKind.i64.bits) = 4096 from by decide]; exact Int.fdiv_eq_ediv_of_nonneg r (by decide)
theorem shr_18 (r : Int) : r.fdiv ((2 : Int) ^ min (Int.toNat (18 : Int)) IntKind.i64.bits) = r / 262144 := by
  rw [show ((2 : Int) ^ min (Int.toNat (18 : Int)) IntKind.i64.bits) = 262144 from by decide]; exact Int.fdiv_eq_ediv_of_nonneg r (by decide)
theorem wrap64_mod (x : Int) : wrap64 (x % 256) = x % 256 := by unfold wrap64; omega
theorem nth_rd (l : List Int) (i : Int) (h0 : 0 ≤ i) (h1 : i < l.length) : nth l i.toNat = some (rd l i) := by
  have := nth_bind l i some h0 h1
  cases e : nth l i.toNat with
  | none => rw [e] at this; cases this
  | some x => rw [e] at this; exact this
theorem toNat0 : Int.toNat 0 = 0 := rfl
theorem toNat1 : Int.toNat 1 = 1 := rfl
theorem toNat2 : Int.toNat 2 = 2 := rfl
theorem nth_rd0 (l : List Int) (h1 : 0 < (l.length : Int)) : nth l 0 = some (rd l 0) := nth_rd l 0 (by omega) h1
theorem bindE {α β : Type} {o : Option α} {f : α → Option β} {v : β} (h : o.bind f = some v) : ∃ a, o = some a ∧ f a = some v := Option.bind_eq_some_iff.1 h
theorem lim_some {α : Type} {X : Nat → Option α} {v : α} (h : lim X = some v) : ∃ k, k ≤ 16000000 ∧ X k = some v := by
  unfold lim at h
  split at h
  · rename_i q
    obtain ⟨v', h1, h2⟩ := q.choose_spec
    exact ⟨_, h1, h⟩
  · cases h
theorem leO_le {α : Type} {X : Nat → Option α} (hm : ∀ k, LeO (X k) (X (k + 1))) {v : α} : ∀ {d k : Nat}, X k = some v → X (k + d) = some v
  | 0, _, h => h
  | d + 1, k, h => hm (k + d) _ (leO_le hm h)
theorem lim_of {α : Type} {X : Nat → Option α} (hm : ∀ k, LeO (X k) (X (k + 1))) {v : α} {k : Nat} (hk : k ≤ 16000000) (h : X k = some v) : lim X = some v := by
  unfold lim
  have q : ∃ k v, k ≤ 16000000 ∧ X k = some v := ⟨k, v, hk, h⟩
  rw [dif_pos q]
  obtain ⟨v', h1, h2⟩ := q.choose_spec
  generalize q.choose = k' at h1 h2
  have e1 := leO_le hm (d := k') h
  have e2 := leO_le hm (d := k) h2
  rw [Nat.add_comm, e1] at e2
  rw [h2, e2]

def AllOk (l : List (FuncId × Bool × Spec)) : Prop := ∀ x ∈ l, FnOk Tryz.prog x.1 ∧ CallOkL Tryz.prog C0 x.1 x.2.2
theorem extL_ok : ∀ {l : List (FuncId × Bool × Spec)}, AllOk l → ∀ f s, extL l f = some s → FnOk Tryz.prog f ∧ CallOkL Tryz.prog C0 f s.2
  | [], _, f, s, h => by cases h
  | x :: r, ha, f, s, h => by
    unfold extL at h
    cases e : Nat.beq x.1 f with
    | true =>
      rw [e] at h
      obtain rfl := Option.some.inj h
      rw [← Nat.eq_of_beq_eq_true e]
      exact ha x (List.mem_cons_self ..)
    | false =>
      rw [e] at h
      exact extL_ok (fun y hy => ha y (List.mem_cons_of_mem _ hy)) f s h

theorem funcs_find {f : FuncId} {fn : Func} (h : FT f = some fn) : Tryz.prog.funcs[f]? = some fn ∧ (fn.name == "runtime.NumGoroutine") = false := ft_ok ft_holds f fn h

theorem ok_ext (e : FuncId → Option (Bool × Spec)) : Ok Tryz.prog (⟨TT U0, FT, e, live0, C0, eqs0⟩ : Cx U0 (Rr U0)) where
  tt := tt_all tt_holds
  codec := codecOf_ok shapes
  eqs := eqs_ok eqs_holds
  ft := fun f fn h => funcs_find h
  mixed := by kernel_rfl

theorem cok_of {l : List (FuncId × Bool × Spec)} (h : AllOk l) : Calls.Ok Tryz.prog (cxOf l) noCalls := noCalls_ok fun f s hs => extL_ok h f s hs

theorem fnOk_of {f : FuncId} (h : ((FT f).bind (·.body)).isSome = true) : FnOk Tryz.prog f := by
  cases e : FT f with
  | none => rw [e] at h; cases h
  | some fn =>
    rw [e] at h
    obtain ⟨h1, h2⟩ := funcs_find e
    exact ⟨fn, h1, h2, h⟩

theorem lib_ok0 : AllOk specs_lib0 := by
  intro x hx
  unfold specs_lib0 at hx
  simp only [List.mem_cons, List.not_mem_nil, or_false] at hx
  rcases hx with rfl | rfl | rfl | rfl | rfl | rfl
  · exact ⟨fnOk_of (by kernel_rfl), indexByteS_ok⟩
  · exact ⟨fnOk_of (by kernel_rfl), runeS_ok⟩
  · exact ⟨fnOk_of (by kernel_rfl), bIndexS_ok⟩
  · exact ⟨fnOk_of (by kernel_rfl), bIndexByteS_ok⟩
  · exact ⟨fnOk_of (by kernel_rfl), bTrimS_ok⟩
  · exact ⟨fnOk_of (by kernel_rfl), replS_ok⟩

theorem allOk_cons {f : FuncId} {kp : Bool} {S : Spec} {l : List (FuncId × Bool × Spec)} (h : AllOk l) (h1 : FnOk Tryz.prog f) (h2 : CallOkL Tryz.prog C0 f S) : AllOk ((f, kp, S) :: l) := by
  intro x hx
  rcases List.mem_cons.1 hx with rfl | hx
  · exact ⟨h1, h2⟩
  · exact h x hx
theorem recL_ok : ∀ {l : List (FuncId × Spec)} {f : FuncId}, (∀ x ∈ l, FnOk Tryz.prog x.1 ∧ CallOkL Tryz.prog C0 x.1 x.2) → CallOkL Tryz.prog C0 f (recL l f) ∧ ∀ args st K r, recL l f args st K = some r → FnOk Tryz.prog f
  | [], f, _ => ⟨fun args cs n K r h => (by cases h), fun args st K r h => (by cases h)⟩
  | s :: l, f, hl => by
    have ih := recL_ok (l := l) (f := f) fun x hx => hl x (List.mem_cons_of_mem _ hx)
    have e0 : recL (s :: l) f = (match Nat.beq s.1 f with | true => s.2 | false => recL l f) := rfl
    cases e : Nat.beq s.1 f with
    | true =>
      rw [e] at e0
      have h1 := hl s (List.mem_cons_self ..)
      rw [Nat.eq_of_beq_eq_true e] at h1
      rw [e0]
      exact ⟨h1.2, fun _ _ _ _ _ => h1.1⟩
    | false =>
      rw [e] at e0
      rw [e0]
      exact ih
theorem rec_cok {l : List (FuncId × Spec)} {L : List (FuncId × Bool × Spec)} (h : AllOk L) (hl : ∀ x ∈ l, FnOk Tryz.prog x.1 ∧ CallOkL Tryz.prog C0 x.1 x.2) : Calls.Ok Tryz.prog (cxOf L) (recL l) :=
  ⟨fun f s hs => extL_ok h f s hs, fun f => (recL_ok hl).1, fun f args st K r h => (recL_ok hl).2 args st K r h⟩
/-! ### a function's proof in few words -/
theorem okG {F : Nat → Option (Rr U0)} {K : Res U0 → St U0 → Option (Rr U0)} {a : Res U0} {b : St U0} {r : Rr U0} (h2 : K a b = some r) (e : ∃ m, F m = some (a, b)) : ∃ m res st', F m = some (res, st') ∧ K res st' = some r := e.elim fun m h => ⟨m, a, b, h, h2⟩
theorem okR {L : List (FuncId × Bool × Spec)} {l : List (FuncId × Spec)} {R : FuncId → Spec} {cx : Cx U0 (Rr U0)} {f : FuncId} {s : Spec} (hc : cxOf L = cx) (hr : recL l = R) (p : AllOk L) (hl : ∀ x ∈ l, FnOk Tryz.prog x.1 ∧ CallOkL Tryz.prog C0 x.1 x.2)
    (h : ∀ args cs n K r, s args (lcSt cs n) K = some r → ∃ m res st', callX false (fnF cx R m f) args (lcSt cs n) out = some (res, st') ∧ K res st' = some r) : CallOkL Tryz.prog C0 f s := by
  subst hc hr
  exact sealed_of (kp := false) (ok_ext _) (rec_cok p hl) h
theorem okS {L : List (FuncId × Bool × Spec)} {cx : Cx U0 (Rr U0)} {f : FuncId} {s : Spec} (hc : cxOf L = cx) (p : AllOk L) (hf : ((FT f).bind (·.body)).isSome = true)
    (h : ∀ args cs n K r, s args (lcSt cs n) K = some r → ∃ m res st', callX false (fnF cx noCalls m f) args (lcSt cs n) out = some (res, st') ∧ K res st' = some r) : AllOk ((f, false, s) :: L) := by
  subst hc
  exact allOk_cons p (fnOk_of hf) (sealed_of (kp := false) (ok_ext _) (cok_of p) h)
theorem okSk {L : List (FuncId × Bool × Spec)} {cx : Cx U0 (Rr U0)} {f : FuncId} {s : Spec} (hc : cxOf L = cx) (p : AllOk L) (hf : ((FT f).bind (·.body)).isSome = true)
    (h : ∀ args cs n K r, s args (lcSt cs n) K = some r → ∃ m res st', callX true (fnF cx noCalls m f) args (lcSt cs n) out = some (res, st') ∧ K res st' = some r) : AllOk ((f, true, s) :: L) := by
  subst hc
  exact allOk_cons p (fnOk_of hf) (sealed_of (kp := true) (ok_ext _) (cok_of p) h)
end Go.Proofs.YtccfmfifnbnlmaaGreatDoor.Ev
end
section
/- slices.Clone, at each type; and the words that all lists begin with. -/
set_option linter.unusedVariables false
namespace Go.Proofs.YtccfmfifnbnlmaaGreatDoor.Ev
open Go Go.RowKit
set_option maxRecDepth 100000
def specs_clone : List (FuncId × Bool × Spec) := []
def specs_lib1 : List (FuncId × Bool × Spec) := specs_lib0
theorem lib_ok1 : AllOk specs_lib1 := lib_ok0
def specs_lib : List (FuncId × Bool × Spec) := specs_lib1 ++ specs_clone
theorem lib_ok : AllOk specs_lib := by
 intro x hx
 rcases List.mem_append.1 hx with hx | hx
 · exact lib_ok1 x hx
 · unfold specs_clone at hx
   cases hx
end Go.Proofs.YtccfmfifnbnlmaaGreatDoor.Ev
end
section
/- What is known of each function: its word; and the contexts in which it is reckoned. -/
-- prev lib
set_option linter.unusedVariables false
namespace Go.Proofs.YtccfmfifnbnlmaaGreatDoor.Ev
open Go
noncomputable def cx_chars_Decode := cxOf specs_lib
noncomputable def chars_Decode.spec : Spec := fun args st K => match args,st.box,st.nt with
 | [.sl (.int .u8) b .no],[],0 => (Q.chars_Decode.f b).bind fun v => K (.ret (.tup [.int .i64 v.1,.int .i64 v.2])) (lcRet [] [] 0)
 | _,_,_ => none
noncomputable def specs_chars_Decode : SpecL := (68,false,chars_Decode.spec) :: specs_lib
noncomputable def cx_chars_in := cxOf specs_chars_Decode
noncomputable def chars_in.spec : Spec := fun args st K => match args,st.box,st.nt with
 | [.int .i64 r,.sl (.pair (.int .i64) (.int .i64)) l .no],[],0 => (lim fun k => Q.chars_in.f k r (l.map fun p => ⟨p.1,p.2⟩)).bind fun v => K (.ret (.bool v)) (lcRet [] [] 0)
 | _,_,_ => none
noncomputable def specs_chars_in : SpecL := (90,false,chars_in.spec) :: specs_chars_Decode
noncomputable def cx_chars_ofXML := cxOf specs_chars_in
noncomputable def chars_ofXML.spec : Spec := fun args st K => match args,st.box,st.nt with
 | [.int .i64 r],[],0 => (lim fun k => Q.chars_ofXML.f k r).bind fun v => K (.ret (.bool v)) (lcRet [] [] 0)
 | _,_,_ => none
noncomputable def specs_chars_ofXML : SpecL := (113,false,chars_ofXML.spec) :: specs_chars_in
noncomputable def cx_chars_Wrong := cxOf specs_chars_ofXML
noncomputable def chars_Wrong.spec : Spec := fun args st K => match args,st.box,st.nt with
 | [.sl (.int .u8) b .no],[],0 => (lim fun k => Q.chars_Wrong.f k b).bind fun v => K (.ret (.int .i64 v)) (lcRet [] [] 0)
 | _,_,_ => none
noncomputable def specs_chars_Wrong : SpecL := (97,false,chars_Wrong.spec) :: specs_chars_ofXML
noncomputable def cx_dossierref01_Space := cxOf specs_chars_Wrong
noncomputable def dossierref01_Space.spec : Spec := fun args st K => match args,st.box,st.nt with
 | [.int .i64 r],[],0 => (Q.dossierref01_Space.f r).bind fun v => K (.ret (.bool v)) (lcRet [] [] 0)
 | _,_,_ => none
noncomputable def specs_dossierref01_Space : SpecL := (47,false,dossierref01_Space.spec) :: specs_chars_Wrong
noncomputable def cx_dossierref01_Encode := cxOf specs_dossierref01_Space
noncomputable def dossierref01_Encode.spec : Spec := fun args st K => match args,st.box,st.nt with
 | [.int .i64 r],[],0 => (lim fun k => Q.dossierref01_Encode.f k r).bind fun v => K (.ret (.sl (.int .u8) (v) .no)) (lcRet [] [] 0)
 | _,_,_ => none
noncomputable def specs_dossierref01_Encode : SpecL := (55,false,dossierref01_Encode.spec) :: specs_dossierref01_Space
noncomputable def cx_dossierref01_Decode := cxOf specs_dossierref01_Encode
noncomputable def dossierref01_Decode.spec : Spec := fun args st K => match args,st.box,st.nt with
 | [.sl (.int .u8) b .no],[],0 => (lim fun k => Q.dossierref01_Decode.f k b).bind fun v => K (.ret (.tup [.int .i64 v.1,.int .i64 v.2])) (lcRet [] [] 0)
 | _,_,_ => none
noncomputable def specs_dossierref01_Decode : SpecL := (44,false,dossierref01_Decode.spec) :: specs_dossierref01_Encode
noncomputable def cx_dossierref01_within := cxOf specs_dossierref01_Decode
noncomputable def dossierref01_within.spec : Spec := fun args st K => match args,st.box,st.nt with
 | [.int .i64 r,.sl (.int .i64) l .no],[],0 => (lim fun k => Q.dossierref01_within.f k r l).bind fun v => K (.ret (.bool v)) (lcRet [] [] 0)
 | _,_,_ => none
noncomputable def specs_dossierref01_within : SpecL := (71,false,dossierref01_within.spec) :: specs_dossierref01_Decode
noncomputable def cx_dossierref01_OfXML := cxOf specs_dossierref01_within
noncomputable def dossierref01_OfXML.spec : Spec := fun args st K => match args,st.box,st.nt with
 | [.int .i64 r],[],0 => (lim fun k => Q.dossierref01_OfXML.f k r).bind fun v => K (.ret (.bool v)) (lcRet [] [] 0)
 | _,_,_ => none
noncomputable def specs_dossierref01_OfXML : SpecL := (100,false,dossierref01_OfXML.spec) :: specs_dossierref01_within
noncomputable def cx_dossierref01_Text := cxOf specs_dossierref01_OfXML
noncomputable def dossierref01_Text.specR (k : Nat) : Spec := fun args st K => match args,st.box,st.nt with
 | [.int .i64 r],[],0 => (Q.dossierref01_Text.f k r).bind fun v => K (.ret (.str v)) (lcRet [] [] 0)
 | _,_,_ => none
noncomputable def dossierref01_Text.rec (k : Nat) := recL [(32,dossierref01_Text.specR k)]
noncomputable def dossierref01_Text.spec : Spec := fun args st K => match args,st.box,st.nt with
 | [.int .i64 r],[],0 => (lim fun k => Q.dossierref01_Text.f k r).bind fun v => K (.ret (.str v)) (lcRet [] [] 0)
 | _,_,_ => none
noncomputable def specs_dossierref01_Text : SpecL := (32,false,dossierref01_Text.spec) :: specs_dossierref01_OfXML
noncomputable def cx_utf8_ValidRune := cxOf specs_dossierref01_Text
noncomputable def utf8_ValidRune.spec : Spec := fun args st K => match args,st.box,st.nt with
 | [.int .i32 r],[],0 => (lim fun k => Q.utf8_ValidRune.f k r).bind fun v => K (.ret (.bool v)) (lcRet [] [] 0)
 | _,_,_ => none
noncomputable def specs_utf8_ValidRune : SpecL := (77,false,utf8_ValidRune.spec) :: specs_dossierref01_Text
noncomputable def cx_utf8_appendRuneNonASCII := cxOf specs_utf8_ValidRune
noncomputable def utf8_appendRuneNonASCII.spec : Spec := fun args st K => match args,st.box,st.nt with
 | [.sl (.int .u8) [] .exact,.int .i32 r],[],0 => (lim fun k => Q.utf8_appendRuneNonASCII.f k [] r).bind fun v => K (.ret (.sl (.int .u8) (v) (.tok 0))) (lcRet [] [0] 1)
 | _,_,_ => none
noncomputable def specs_utf8_appendRuneNonASCII : SpecL := (98,true,utf8_appendRuneNonASCII.spec) :: specs_utf8_ValidRune
noncomputable def cx_utf8_AppendRune := cxOf specs_utf8_appendRuneNonASCII
noncomputable def utf8_AppendRune.spec : Spec := fun args st K => match args,st.box,st.nt with
 | [.sl (.int .u8) [] .exact,.int .i32 r],[],0 => (lim fun k => Q.utf8_AppendRune.f k [] r).bind fun v => K (.ret (.sl (.int .u8) (v) (.tok 0))) (lcRet [] [0] 1)
 | _,_,_ => none
noncomputable def specs_utf8_AppendRune : SpecL := (78,true,utf8_AppendRune.spec) :: specs_utf8_appendRuneNonASCII
noncomputable def cx_chars_First := cxOf specs_utf8_AppendRune
noncomputable def chars_First.spec : Spec := fun args st K => match args,st.box,st.nt with
 | [.int .i64 r],[],0 => (lim fun k => Q.chars_First.f k r).bind fun v => K (.ret (.bool v)) (lcRet [] [] 0)
 | _,_,_ => none
noncomputable def specs_chars_First : SpecL := (69,false,chars_First.spec) :: specs_utf8_AppendRune
noncomputable def cx_chars_Later := cxOf specs_chars_First
noncomputable def chars_Later.spec : Spec := fun args st K => match args,st.box,st.nt with
 | [.int .i64 r],[],0 => (lim fun k => Q.chars_Later.f k r).bind fun v => K (.ret (.bool v)) (lcRet [] [] 0)
 | _,_,_ => none
noncomputable def specs_chars_Later : SpecL := (70,false,chars_Later.spec) :: specs_chars_First
noncomputable def cx_chars_Space := cxOf specs_chars_Later
noncomputable def chars_Space.spec : Spec := fun args st K => match args,st.box,st.nt with
 | [.int .i64 r],[],0 => (Q.chars_Space.f r).bind fun v => K (.ret (.bool v)) (lcRet [] [] 0)
 | _,_,_ => none
noncomputable def specs_chars_Space : SpecL := (43,false,chars_Space.spec) :: specs_chars_Later
noncomputable def cx_chars_Encode := cxOf specs_chars_Space
noncomputable def chars_Encode.spec : Spec := fun args st K => match args,st.box,st.nt with
 | [.int .i64 r],[],0 => (lim fun k => Q.chars_Encode.f k r).bind fun v => K (.ret (.sl (.int .u8) (v) .no)) (lcRet [] [] 0)
 | _,_,_ => none
noncomputable def specs_chars_Encode : SpecL := (53,false,chars_Encode.spec) :: specs_chars_Space
noncomputable def cx_xmllex_nameOf := cxOf specs_chars_Encode
noncomputable def xmllex_nameOf.spec : Spec := fun args st K => match args,st.box,st.nt with
 | [.sl (.int .u8) b .no],[],0 => (lim fun k => Q.xmllex_nameOf.f k b).bind fun v => K (.ret (.sl (.int .u8) (v) .no)) (lcRet [] [] 0)
 | _,_,_ => none
noncomputable def specs_xmllex_nameOf : SpecL := (42,false,xmllex_nameOf.spec) :: specs_chars_Encode
noncomputable def cx_dossierref01_First := cxOf specs_xmllex_nameOf
noncomputable def dossierref01_First.spec : Spec := fun args st K => match args,st.box,st.nt with
 | [.int .i64 r],[],0 => (lim fun k => Q.dossierref01_First.f k r).bind fun v => K (.ret (.bool v)) (lcRet [] [] 0)
 | _,_,_ => none
noncomputable def specs_dossierref01_First : SpecL := (45,false,dossierref01_First.spec) :: specs_xmllex_nameOf
noncomputable def cx_dossierref01_Later := cxOf specs_dossierref01_First
noncomputable def dossierref01_Later.spec : Spec := fun args st K => match args,st.box,st.nt with
 | [.int .i64 r],[],0 => (lim fun k => Q.dossierref01_Later.f k r).bind fun v => K (.ret (.bool v)) (lcRet [] [] 0)
 | _,_,_ => none
noncomputable def specs_dossierref01_Later : SpecL := (46,false,dossierref01_Later.spec) :: specs_dossierref01_First
noncomputable def cx_dossierref01_NameAt := cxOf specs_dossierref01_Later
noncomputable def dossierref01_NameAt.spec : Spec := fun args st K => match args,st.box,st.nt with
 | [.sl (.int .u8) b .no],[],0 => (lim fun k => Q.dossierref01_NameAt.f k b).bind fun v => K (.ret (.int .i64 v)) (lcRet [] [] 0)
 | _,_,_ => none
noncomputable def specs_dossierref01_NameAt : SpecL := (26,false,dossierref01_NameAt.spec) :: specs_dossierref01_Later
noncomputable def cx_dossierref05_begins := cxOf specs_dossierref01_NameAt
noncomputable def dossierref05_begins.spec : Spec := fun args st K => match args,st.box,st.nt with
 | [.sl (.int .u8) b .no,.str s],[],0 => (Q.dossierref05_begins.f b s).bind fun v => K (.ret (.bool v)) (lcRet [] [] 0)
 | _,_,_ => none
noncomputable def specs_dossierref05_begins : SpecL := (24,false,dossierref05_begins.spec) :: specs_dossierref01_NameAt
noncomputable def cx_dossierref05_find := cxOf specs_dossierref05_begins
noncomputable def dossierref05_find.spec : Spec := fun args st K => match args,st.box,st.nt with
 | [.sl (.int .u8) b .no,.str s],[],0 => (lim fun k => Q.dossierref05_find.f k b s).bind fun v => K (.ret (.int .i64 v)) (lcRet [] [] 0)
 | _,_,_ => none
noncomputable def specs_dossierref05_find : SpecL := (25,false,dossierref05_find.spec) :: specs_dossierref05_begins
noncomputable def cx_dossierref05_blanks := cxOf specs_dossierref05_find
noncomputable def dossierref05_blanks.spec : Spec := fun args st K => match args,st.box,st.nt with
 | [.sl (.int .u8) b .no],[],0 => (lim fun k => Q.dossierref05_blanks.f k b).bind fun v => K (.ret (.int .i64 v)) (lcRet [] [] 0)
 | _,_,_ => none
noncomputable def specs_dossierref05_blanks : SpecL := (27,false,dossierref05_blanks.spec) :: specs_dossierref05_find
noncomputable def cx_dossierref05_digit := cxOf specs_dossierref05_blanks
noncomputable def dossierref05_digit.spec : Spec := fun args st K => match args,st.box,st.nt with
 | [.int .u8 x,.int .i64 q],[],0 => (lim fun k => Q.dossierref05_digit.f k x q).bind fun v => K (.ret (.int .i64 v)) (lcRet [] [] 0)
 | _,_,_ => none
noncomputable def specs_dossierref05_digit : SpecL := (99,false,dossierref05_digit.spec) :: specs_dossierref05_blanks
noncomputable def cx_dossierref05_numbered := cxOf specs_dossierref05_digit
noncomputable def dossierref05_numbered.spec : Spec := fun args st K => match args,st.box,st.nt with
 | [.sl (.int .u8) b .no,.int .i64 q],[],0 => (lim fun k => Q.dossierref05_numbered.f k b q).bind fun v => K (.ret (.tup [.int .i64 v.1,.bool v.2])) (lcRet [] [] 0)
 | _,_,_ => none
noncomputable def specs_dossierref05_numbered : SpecL := (79,false,dossierref05_numbered.spec) :: specs_dossierref05_digit
noncomputable def cx_dossierref05_reference := cxOf specs_dossierref05_numbered
noncomputable def dossierref05_reference.spec : Spec := fun args st K => match args,st.box,st.nt with
 | [.sl (.int .u8) b .no],[],0 => (lim fun k => Q.dossierref05_reference.f k b).bind fun v => K (.ret (.tup [.int .i64 v.1,.bool v.2])) (lcRet [] [] 0)
 | _,_,_ => none
noncomputable def specs_dossierref05_reference : SpecL := (54,false,dossierref05_reference.spec) :: specs_dossierref05_numbered
noncomputable def cx_dossierref05_name := cxOf specs_dossierref05_reference
noncomputable def dossierref05_name.spec : Spec := fun args st K => match args,st.box,st.nt with
 | [.sl (.int .u8) b .no],[],0 => (lim fun k => Q.dossierref05_name.f k b).bind fun v => K (.ret (.int .i64 v)) (lcRet [] [] 0)
 | _,_,_ => none
noncomputable def specs_dossierref05_name : SpecL := (39,false,dossierref05_name.spec) :: specs_dossierref05_reference
end Go.Proofs.YtccfmfifnbnlmaaGreatDoor.Ev
end
section
/- What each function comes to, one step of it at a time: the kernel's own reckoning. -/
set_option linter.unusedVariables false
set_option maxRecDepth 100000
namespace Go.Proofs.YtccfmfifnbnlmaaGreatDoor.Ev
open Go Go.RowKit
open Go.IntKind (i64 u8 i32 u64)
theorem chars_Decode.top (n : Nat) (b : List Int) : callX false (fnF cx_chars_Decode noCalls n 68) ([.sl (.int .u8) b .no]) (lcSt [] 0) out = ((Q.utf8_DecodeRune.f b).bind fun v0 => if (if (v0.1 == 65533) = true then decide (v0.2 ≤ 1) else false) = true then some (.ret (.tup [.int .i64 0,.int .i64 0]),lcRet [] [] 0) else some (.ret (.tup [.int .i64 (i64.wrap v0.1),.int .i64 v0.2]),lcRet [] [] 0)) := by kernel_rfl
theorem dossierref01_OfXML.top (n : Nat) (r : Int) : callX false (fnF cx_dossierref01_OfXML noCalls n 100) ([.int .i64 r]) (lcSt [] 0) out = ((lim fun k => Q.dossierref01_within.f k r [(9 : Int),(10 : Int),(13 : Int),(13 : Int),(32 : Int),(55295 : Int),(57344 : Int),(65533 : Int),(65536 : Int),(1114111 : Int)]).bind fun v0 => some (.ret (.bool v0),lcRet [] [] 0)) := by kernel_rfl
noncomputable def chars_in.L0 (n k0 : Nat) (r : Int) (l : List (Int × Int)) (j0 : Int) (j1 : List (Int × Int)) (j2 j3 : Int) : Option (Rr U0) := loopF cx_chars_in noCalls k0 0 ([(0,false),(7,false),(8,false),(9,false)]) ((siteC (Tryz.f90.body.getD .skip) [1,0,1,0]).getD .skip) (siteK cx_chars_in noCalls n [] (Tryz.f90.body.getD .skip) [1,0,1,0] (bodyK cx_chars_in Tryz.f90 (lcSt [] 0) (callK false [] [] (lcSt [] 0) out))) (St.mk [(0,.int .i64 j0),(7,.sl ((Ty.int IntKind.i64).pair (.int .i64)) j1 .no),(8,.int .i64 j2),(9,.int .i64 j3)] [] [] 0 0 0 0 0 90 [] 24)
theorem chars_in.L0_s (n k0 : Nat) (r : Int) (l : List (Int × Int)) (j0 : Int) (j1 : List (Int × Int)) (j2 j3 : Int) : chars_in.L0 n (k0 + 1) r l j0 j1 j2 j3 = if decide (j3 < j2) = true then if 0 ≤ j3 then ((nth j1 j3.toNat).bind fun v0 => if (if decide (v0.1 ≤ j0) = true then decide (j0 ≤ v0.2) else false) = true then some (.ret (.bool true),lcRet [] [] 0) else (chars_in.L0 n k0 r l j0 j1 j2 (i64.wrap (j3 + 1)))) else none else some (.ret (.bool false),lcRet [] [] 0) := by kernel_rfl
theorem chars_in.top (n : Nat) (r : Int) (l : List (Int × Int)) : callX false (fnF cx_chars_in noCalls n 90) ([.int .i64 r,.sl ((Ty.int IntKind.i64).pair (.int .i64)) l .no]) (lcSt [] 0) out = (chars_in.L0 n n r l r l ((↑l.length : Int)) 0) := by kernel_rfl
theorem dossierref01_Text.top (n k : Nat) (r : Int) : callX false (fnF cx_dossierref01_Text (dossierref01_Text.rec k) n 32) ([.int .i64 r]) (lcSt [] 0) out = if decide (r < 0) = true then if decide (r > (-10 : Int)) = true then ((Q.dossierref01_Text.f k (i64.wrap ((0 : Int) - r))).bind fun v0 => if (ByteArray.mk #[45]).size + v0.size ≤ 9223372036854775807 then some (.ret (.str (ByteArray.mk #[45] ++ v0)),lcRet [] [] 0) else none) else ((Q.dossierref01_Text.f k (i64.wrap (r.tdiv (10 : Int)))).bind fun v1 => ((Q.dossierref01_Text.f k (i64.wrap ((0 : Int) - r.tmod (10 : Int)))).bind fun v2 => if v1.size + v2.size ≤ 9223372036854775807 then some (.ret (.str (v1 ++ v2)),lcRet [] [] 0) else none)) else if decide (r < 10) = true then if 0 ≤ r then if r ≤ i64.wrap (r + 1) then if i64.wrap (r + 1) ≤ (↑(ByteArray.mk #[48,49,50,51,52,53,54,55,56,57]).size : Int) then some (.ret (.str ((ByteArray.mk #[48,49,50,51,52,53,54,55,56,57]).extract r.toNat (i64.wrap (r + 1)).toNat)),lcRet [] [] 0) else none else none else none else ((Q.dossierref01_Text.f k (i64.wrap (r.tdiv (10 : Int)))).bind fun v3 => ((Q.dossierref01_Text.f k (r.tmod (10 : Int))).bind fun v4 => if v3.size + v4.size ≤ 9223372036854775807 then some (.ret (.str (v3 ++ v4)),lcRet [] [] 0) else none)) := by kernel_rfl
noncomputable def xmllex_nameOf.L0 (n k0 : Nat) (b j0 : List Int) (j1 : Int) : Option (Rr U0) := loopF cx_xmllex_nameOf noCalls k0 0 ([(0,false),(3,false)]) ((siteC (Tryz.f42.body.getD .skip) [1,1,0]).getD .skip) (siteK cx_xmllex_nameOf noCalls n [] (Tryz.f42.body.getD .skip) [1,1,0] (bodyK cx_xmllex_nameOf Tryz.f42 (lcSt [] 0) (callK false [] [] (lcSt [] 0) out))) (St.mk [(0,.sl (.int .u8) j0 .no),(3,.int .i64 j1)] [] [] 0 0 0 0 0 42 [] 35)
theorem xmllex_nameOf.L0_s (n k0 : Nat) (b j0 : List Int) (j1 : Int) : xmllex_nameOf.L0 n (k0 + 1) b j0 j1 = if 0 ≤ j1 then if j1 ≤ (↑j0.length : Int) then ((Q.chars_Decode.f (List.drop j1.toNat j0)).bind fun v0 => if (v0.2 == 0) = true then if 0 ≤ j1 then if j1 ≤ (↑j0.length : Int) then some (.ret (.sl (.int .u8) (List.take j1.toNat j0) .no),lcRet [] [] 0) else none else none else if (j1 == 0) = true then ((lim fun k => Q.chars_First.f k v0.1).bind fun v1 => if (if false = true then true else if true = true then !v1 else false) = true then if 0 ≤ j1 then if j1 ≤ (↑j0.length : Int) then some (.ret (.sl (.int .u8) (List.take j1.toNat j0) .no),lcRet [] [] 0) else none else none else ((lim fun k => Q.chars_Later.f k v0.1).bind fun v2 => if (if false = true then true else !v2) = true then if 0 ≤ j1 then if j1 ≤ (↑j0.length : Int) then some (.ret (.sl (.int .u8) (List.take j1.toNat j0) .no),lcRet [] [] 0) else none else none else (xmllex_nameOf.L0 n k0 b j0 (i64.wrap (j1 + v0.2))))) else ((lim fun k => Q.chars_Later.f k v0.1).bind fun v3 => if (if false = true then true else !v3) = true then if 0 ≤ j1 then if j1 ≤ (↑j0.length : Int) then some (.ret (.sl (.int .u8) (List.take j1.toNat j0) .no),lcRet [] [] 0) else none else none else (xmllex_nameOf.L0 n k0 b j0 (i64.wrap (j1 + v0.2))))) else none else none := by kernel_rfl
theorem xmllex_nameOf.top (n : Nat) (b : List Int) : callX false (fnF cx_xmllex_nameOf noCalls n 42) ([.sl (.int .u8) b .no]) (lcSt [] 0) out = (xmllex_nameOf.L0 n n b b 0) := by kernel_rfl
theorem chars_ofXML.top (n : Nat) (r : Int) : callX false (fnF cx_chars_ofXML noCalls n 113) ([.int .i64 r]) (lcSt [] 0) out = ((lim fun k => Q.chars_in.f k r (List.map (fun p => Q.S121.mk p.1 p.2) [((32 : Int),(55295 : Int)),((9 : Int),(10 : Int)),((13 : Int),(13 : Int)),((57344 : Int),(65533 : Int)),((65536 : Int),(1114111 : Int))])).bind fun v0 => some (.ret (.bool v0),lcRet [] [] 0)) := by kernel_rfl
theorem utf8_ValidRune.top (n : Nat) (r : Int) : callX false (fnF cx_utf8_ValidRune noCalls n 77) ([.int .i32 r]) (lcSt [] 0) out = if (if decide (0 ≤ r) = true then decide (r < 55296) else false) = true then some (.ret (.bool true),lcRet [] [] 0) else if (if decide ((57343 : Int) < r) = true then decide (r ≤ 1114111) else false) = true then some (.ret (.bool true),lcRet [] [] 0) else some (.ret (.bool false),lcRet [] [] 0) := by kernel_rfl
theorem dossierref01_First.top (n : Nat) (r : Int) : callX false (fnF cx_dossierref01_First noCalls n 45) ([.int .i64 r]) (lcSt [] 0) out = ((lim fun k => Q.dossierref01_within.f k r [(65 : Int),(90 : Int),(95 : Int),(95 : Int),(97 : Int),(122 : Int),(192 : Int),(214 : Int),(216 : Int),(246 : Int),(248 : Int),(767 : Int),(880 : Int),(893 : Int),(895 : Int),(8191 : Int),(8204 : Int),(8205 : Int),(8304 : Int),(8591 : Int),(11264 : Int),(12271 : Int),(12289 : Int),(55295 : Int),(63744 : Int),(64975 : Int),(65008 : Int),(65533 : Int),(65536 : Int),(983039 : Int)]).bind fun v0 => some (.ret (.bool v0),lcRet [] [] 0)) := by kernel_rfl
theorem dossierref05_reference.top (n : Nat) (b : List Int) : callX false (fnF cx_dossierref05_reference noCalls n 54) ([.sl (.int .u8) b .no]) (lcSt [] 0) out = if seq (ofBytes b) (ByteArray.mk #[108,116]) = true then some (.ret (.tup [.int .i64 60,.bool true]),lcRet [] [] 0) else if seq (ofBytes b) (ByteArray.mk #[103,116]) = true then some (.ret (.tup [.int .i64 62,.bool true]),lcRet [] [] 0) else if seq (ofBytes b) (ByteArray.mk #[97,109,112]) = true then some (.ret (.tup [.int .i64 38,.bool true]),lcRet [] [] 0) else if seq (ofBytes b) (ByteArray.mk #[97,112,111,115]) = true then some (.ret (.tup [.int .i64 39,.bool true]),lcRet [] [] 0) else if seq (ofBytes b) (ByteArray.mk #[113,117,111,116]) = true then some (.ret (.tup [.int .i64 34,.bool true]),lcRet [] [] 0) else ((Q.dossierref05_begins.f b (ByteArray.mk #[35,120])).bind fun v0 => if v0 = true then if (2 : Int) ≤ (↑b.length : Int) then ((lim fun k => Q.dossierref05_numbered.f k (List.drop (Int.toNat (2 : Int)) b) (16 : Int)).bind fun v1 => some (.ret (.tup [.int .i64 v1.1,.bool v1.2]),lcRet [] [] 0)) else none else ((Q.dossierref05_begins.f b (ByteArray.mk #[35])).bind fun v2 => if v2 = true then if (1 : Int) ≤ (↑b.length : Int) then ((lim fun k => Q.dossierref05_numbered.f k (List.drop (Int.toNat (1 : Int)) b) (10 : Int)).bind fun v3 => some (.ret (.tup [.int .i64 v3.1,.bool v3.2]),lcRet [] [] 0)) else none else some (.ret (.tup [.int .i64 0,.bool false]),lcRet [] [] 0))) := by kernel_rfl
noncomputable def chars_Wrong.L0 (n k0 : Nat) (b j0 : List Int) (j1 : Int) : Option (Rr U0) := loopF cx_chars_Wrong noCalls k0 0 ([(0,false),(3,false)]) ((siteC (Tryz.f97.body.getD .skip) [1,0,1,0]).getD .skip) (siteK cx_chars_Wrong noCalls n [] (Tryz.f97.body.getD .skip) [1,0,1,0] (bodyK cx_chars_Wrong Tryz.f97 (lcSt [] 0) (callK false [] [] (lcSt [] 0) out))) (St.mk [(0,.sl (.int .u8) j0 .no),(3,.int .i64 j1)] [] [] 0 0 0 0 0 97 [] 28)
theorem chars_Wrong.L0_s (n k0 : Nat) (b j0 : List Int) (j1 : Int) : chars_Wrong.L0 n (k0 + 1) b j0 j1 = if decide (j1 < (↑j0.length : Int)) = true then if 0 ≤ j1 then if j1 ≤ (↑j0.length : Int) then ((Q.chars_Decode.f (List.drop j1.toNat j0)).bind fun v0 => if (v0.2 == 0) = true then some (.ret (.int .i64 j1),lcRet [] [] 0) else ((lim fun k => Q.chars_ofXML.f k v0.1).bind fun v1 => if (if false = true then true else !v1) = true then some (.ret (.int .i64 j1),lcRet [] [] 0) else (chars_Wrong.L0 n k0 b j0 (i64.wrap (j1 + v0.2))))) else none else none else some (.ret (.int .i64 (-1 : Int)),lcRet [] [] 0) := by kernel_rfl
theorem chars_Wrong.top (n : Nat) (b : List Int) : callX false (fnF cx_chars_Wrong noCalls n 97) ([.sl (.int .u8) b .no]) (lcSt [] 0) out = (chars_Wrong.L0 n n b b 0) := by kernel_rfl
theorem dossierref01_Later.top (n : Nat) (r : Int) : callX false (fnF cx_dossierref01_Later noCalls n 46) ([.int .i64 r]) (lcSt [] 0) out = ((lim fun k => Q.dossierref01_First.f k r).bind fun v0 => if v0 = true then some (.ret (.bool true),lcRet [] [] 0) else ((lim fun k => Q.dossierref01_within.f k r [(45 : Int),(46 : Int),(48 : Int),(57 : Int),(183 : Int),(183 : Int),(768 : Int),(879 : Int),(8255 : Int),(8256 : Int)]).bind fun v1 => some (.ret (.bool (if false = true then true else v1)),lcRet [] [] 0))) := by kernel_rfl
theorem dossierref05_name.top (n : Nat) (b : List Int) : callX false (fnF cx_dossierref05_name noCalls n 39) ([.sl (.int .u8) b .no]) (lcSt [] 0) out = ((lim fun k => Q.dossierref01_NameAt.f k b).bind fun v0 => if (v0 == 0) = true then some (.ret (.int .i64 v0),lcRet [] [] 0) else if 0 ≤ v0 then if v0 ≤ (↑b.length : Int) then ((Q.dossierref05_begins.f (List.drop v0.toNat b) (ByteArray.mk #[58])).bind fun v1 => if (if false = true then true else !v1) = true then some (.ret (.int .i64 v0),lcRet [] [] 0) else if 0 ≤ i64.wrap (v0 + 1) then if i64.wrap (v0 + 1) ≤ (↑b.length : Int) then ((lim fun k => Q.dossierref01_NameAt.f k (List.drop (i64.wrap (v0 + 1)).toNat b)).bind fun v2 => if (v2 == 0) = true then some (.ret (.int .i64 v0),lcRet [] [] 0) else some (.ret (.int .i64 (i64.wrap (i64.wrap (v0 + 1) + v2))),lcRet [] [] 0)) else none else none) else none else none) := by kernel_rfl
theorem dossierref01_Space.top (n : Nat) (r : Int) : callX false (fnF cx_dossierref01_Space noCalls n 47) ([.int .i64 r]) (lcSt [] 0) out = some (.ret (.bool (if (if (if (r == 9) = true then true else r == 10) = true then true else r == 13) = true then true else r == 32)),lcRet [] [] 0) := by kernel_rfl
noncomputable def dossierref01_NameAt.L0 (n k0 : Nat) (b j0 : List Int) (j1 : Int) : Option (Rr U0) := loopF cx_dossierref01_NameAt noCalls k0 0 ([(0,false),(4,false)]) ((siteC (Tryz.f26.body.getD .skip) [1,1,1,0]).getD .skip) (siteK cx_dossierref01_NameAt noCalls n [] (Tryz.f26.body.getD .skip) [1,1,1,0] (bodyK cx_dossierref01_NameAt Tryz.f26 (lcSt [] 0) (callK false [] [] (lcSt [] 0) out))) (St.mk [(0,.sl (.int .u8) j0 .no),(4,.int .i64 j1)] [] [] 0 0 0 0 0 26 [] 37)
theorem dossierref01_NameAt.L0_s (n k0 : Nat) (b j0 : List Int) (j1 : Int) : dossierref01_NameAt.L0 n (k0 + 1) b j0 j1 = if 0 ≤ j1 then if j1 ≤ (↑j0.length : Int) then ((lim fun k => Q.dossierref01_Decode.f k (List.drop j1.toNat j0)).bind fun v2 => if (v2.2 == 0) = true then some (.ret (.int .i64 j1),lcRet [] [] 0) else ((lim fun k => Q.dossierref01_Later.f k v2.1).bind fun v3 => if (if false = true then true else !v3) = true then some (.ret (.int .i64 j1),lcRet [] [] 0) else (dossierref01_NameAt.L0 n k0 b j0 (i64.wrap (j1 + v2.2))))) else none else none := by kernel_rfl
theorem dossierref01_NameAt.top (n : Nat) (b : List Int) : callX false (fnF cx_dossierref01_NameAt noCalls n 26) ([.sl (.int .u8) b .no]) (lcSt [] 0) out = ((lim fun k => Q.dossierref01_Decode.f k b).bind fun v0 => if (v0.2 == 0) = true then some (.ret (.int .i64 0),lcRet [] [] 0) else ((lim fun k => Q.dossierref01_First.f k v0.1).bind fun v1 => if (if false = true then true else !v1) = true then some (.ret (.int .i64 0),lcRet [] [] 0) else (dossierref01_NameAt.L0 n n b b v0.2))) := by kernel_rfl
theorem dossierref01_Encode.top (n : Nat) (r : Int) : callX false (fnF cx_dossierref01_Encode noCalls n 55) ([.int .i64 r]) (lcSt [] 0) out = if (if (if decide (r < 0) = true then true else decide (r > 1114111)) = true then true else if decide (r ≥ 55296) = true then decide (r ≤ 57343) else false) = true then some (.ret (.sl (.int .u8) [] .no),lcRet [] [] 0) else if decide (r < 128) = true then some (.ret (.sl (.int .u8) [u8.wrap r] .no),lcRet [] [] 0) else if decide (r < 2048) = true then some (.ret (.sl (.int .u8) [u8.wrap (i64.wrap ((192 : Int) + r.fdiv ((2 : Int) ^ min (Int.toNat (6 : Int)) IntKind.i64.bits))),u8.wrap (i64.wrap ((128 : Int) + r.tmod (64 : Int)))] .no),lcRet [] [] 0) else if decide (r < 65536) = true then some (.ret (.sl (.int .u8) [u8.wrap (i64.wrap ((224 : Int) + r.fdiv ((2 : Int) ^ min (Int.toNat (12 : Int)) IntKind.i64.bits))),u8.wrap (i64.wrap ((128 : Int) + (r.fdiv ((2 : Int) ^ min (Int.toNat (6 : Int)) IntKind.i64.bits)).tmod (64 : Int))),u8.wrap (i64.wrap ((128 : Int) + r.tmod (64 : Int)))] .no),lcRet [] [] 0) else some (.ret (.sl (.int .u8) [u8.wrap (i64.wrap ((240 : Int) + r.fdiv ((2 : Int) ^ min (Int.toNat (18 : Int)) IntKind.i64.bits))),u8.wrap (i64.wrap ((128 : Int) + (r.fdiv ((2 : Int) ^ min (Int.toNat (12 : Int)) IntKind.i64.bits)).tmod (64 : Int))),u8.wrap (i64.wrap ((128 : Int) + (r.fdiv ((2 : Int) ^ min (Int.toNat (6 : Int)) IntKind.i64.bits)).tmod (64 : Int))),u8.wrap (i64.wrap ((128 : Int) + r.tmod (64 : Int)))] .no),lcRet [] [] 0) := by kernel_rfl
theorem chars_First.top (n : Nat) (r : Int) : callX false (fnF cx_chars_First noCalls n 69) ([.int .i64 r]) (lcSt [] 0) out = if decide (r < 128) = true then some (.ret (.bool (if (if decide (bits BinOp.or IntKind.i64 r (32 : Int) ≥ 97) = true then decide (bits BinOp.or IntKind.i64 r (32 : Int) ≤ 122) else false) = true then true else r == 95)),lcRet [] [] 0) else ((lim fun k => Q.chars_in.f k r (List.map (fun p => Q.S121.mk p.1 p.2) [((192 : Int),(214 : Int)),((216 : Int),(246 : Int)),((248 : Int),(767 : Int)),((880 : Int),(893 : Int)),((895 : Int),(8191 : Int)),((8204 : Int),(8205 : Int)),((8304 : Int),(8591 : Int)),((11264 : Int),(12271 : Int)),((12289 : Int),(55295 : Int)),((63744 : Int),(64975 : Int)),((65008 : Int),(65533 : Int)),((65536 : Int),(983039 : Int))])).bind fun v0 => some (.ret (.bool v0),lcRet [] [] 0)) := by kernel_rfl
theorem dossierref05_begins.top (n : Nat) (b : List Int) (s : ByteArray) : callX false (fnF cx_dossierref05_begins noCalls n 24) ([.sl (.int .u8) b .no,.str s]) (lcSt [] 0) out = if decide ((↑b.length : Int) ≥ (↑s.size : Int)) = true then if 0 ≤ (↑s.size : Int) then if (↑s.size : Int) ≤ (↑b.length : Int) then some (.ret (.bool (if true = true then seq (ofBytes (List.take (↑s.size : Int).toNat b)) s else false)),lcRet [] [] 0) else none else none else some (.ret (.bool false),lcRet [] [] 0) := by kernel_rfl
noncomputable def dossierref01_Decode.L0 (n k0 : Nat) (b j0 : List Int) (j1 j2 : Int) (j3 : List (Ty.den U0 (.int .u8))) (j4 j5 : Int) : Option (Rr U0) := loopF cx_dossierref01_Decode noCalls k0 0 ([(0,false),(4,false),(5,false),(51,false),(52,false),(53,false)]) ((siteC (Tryz.f44.body.getD .skip) [1,1,1,1,1,0,1,0]).getD .skip) (siteK cx_dossierref01_Decode noCalls n [] (Tryz.f44.body.getD .skip) [1,1,1,1,1,0,1,0] (bodyK cx_dossierref01_Decode Tryz.f44 (lcSt [] 0) (callK false [] [] (lcSt [] 0) out))) (St.mk [(0,.sl (.int .u8) j0 .no),(4,.int .i64 j1),(5,.int .i64 j2),(51,.sl (.int .u8) j3 .no),(52,.int .i64 j4),(53,.int .i64 j5)] [] [] 0 0 0 0 0 44 [] 80)
theorem dossierref01_Decode.L0_s (n k0 : Nat) (b j0 : List Int) (j1 j2 : Int) (j3 : List (Ty.den U0 (.int .u8))) (j4 j5 : Int) : dossierref01_Decode.L0 n (k0 + 1) b j0 j1 j2 j3 j4 j5 = if decide (j5 < j4) = true then if 0 ≤ j5 then ((nth j3 j5.toNat).bind fun v3 => if (if decide (v3 < 128) = true then true else decide (v3 > 191)) = true then some (.ret (.tup [.int .i64 0,.int .i64 0]),lcRet [] [] 0) else (dossierref01_Decode.L0 n k0 b j0 j1 (i64.wrap (i64.wrap (i64.wrap (j2 * (64 : Int)) + i64.wrap v3) - 128)) j3 j4 (i64.wrap (j5 + 1)))) else none else if 0 ≤ j1 then if j1 ≤ (↑j0.length : Int) then ((lim fun k => Q.dossierref01_Encode.f k j2).bind fun v4 => if (!seq (ofBytes v4) (ofBytes (List.take j1.toNat j0))) = true then some (.ret (.tup [.int .i64 0,.int .i64 0]),lcRet [] [] 0) else some (.ret (.tup [.int .i64 j2,.int .i64 j1]),lcRet [] [] 0)) else none else none := by kernel_rfl
theorem dossierref01_Decode.top (n : Nat) (b : List Int) : callX false (fnF cx_dossierref01_Decode noCalls n 44) ([.sl (.int .u8) b .no]) (lcSt [] 0) out = if ((↑b.length : Int) == 0) = true then some (.ret (.tup [.int .i64 0,.int .i64 0]),lcRet [] [] 0) else ((nth b (Int.toNat (0 : Int))).bind fun v0 => ((nth b (Int.toNat (0 : Int))).bind fun v1 => if decide (v1 ≥ 240) = true then ((nth b (Int.toNat (0 : Int))).bind fun v2 => if decide ((4 : Int) > (↑b.length : Int)) = true then some (.ret (.tup [.int .i64 0,.int .i64 0]),lcRet [] [] 0) else if (4 : Int) ≤ (↑b.length : Int) then (dossierref01_Decode.L0 n n b b 4 (i64.wrap (i64.wrap v2 - 240)) (List.drop (Int.toNat (1 : Int)) (List.take (Int.toNat (4 : Int)) b)) ((↑(List.drop (Int.toNat (1 : Int)) (List.take (Int.toNat (4 : Int)) b)).length : Int)) 0) else none) else ((nth b (Int.toNat (0 : Int))).bind fun v5 => if decide (v5 ≥ 224) = true then ((nth b (Int.toNat (0 : Int))).bind fun v6 => if decide ((3 : Int) > (↑b.length : Int)) = true then some (.ret (.tup [.int .i64 0,.int .i64 0]),lcRet [] [] 0) else if (3 : Int) ≤ (↑b.length : Int) then (dossierref01_Decode.L0 n n b b 3 (i64.wrap (i64.wrap v6 - 224)) (List.drop (Int.toNat (1 : Int)) (List.take (Int.toNat (3 : Int)) b)) ((↑(List.drop (Int.toNat (1 : Int)) (List.take (Int.toNat (3 : Int)) b)).length : Int)) 0) else none) else ((nth b (Int.toNat (0 : Int))).bind fun v7 => if decide (v7 ≥ 192) = true then ((nth b (Int.toNat (0 : Int))).bind fun v8 => if decide ((2 : Int) > (↑b.length : Int)) = true then some (.ret (.tup [.int .i64 0,.int .i64 0]),lcRet [] [] 0) else if (2 : Int) ≤ (↑b.length : Int) then (dossierref01_Decode.L0 n n b b 2 (i64.wrap (i64.wrap v8 - 192)) (List.drop (Int.toNat (1 : Int)) (List.take (Int.toNat (2 : Int)) b)) ((↑(List.drop (Int.toNat (1 : Int)) (List.take (Int.toNat (2 : Int)) b)).length : Int)) 0) else none) else if decide ((1 : Int) > (↑b.length : Int)) = true then some (.ret (.tup [.int .i64 0,.int .i64 0]),lcRet [] [] 0) else if (1 : Int) ≤ (↑b.length : Int) then (dossierref01_Decode.L0 n n b b 1 (i64.wrap v0) (List.drop (Int.toNat (1 : Int)) (List.take (Int.toNat (1 : Int)) b)) ((↑(List.drop (Int.toNat (1 : Int)) (List.take (Int.toNat (1 : Int)) b)).length : Int)) 0) else none)))) := by kernel_rfl
theorem chars_Later.top (n : Nat) (r : Int) : callX false (fnF cx_chars_Later noCalls n 70) ([.int .i64 r]) (lcSt [] 0) out = ((lim fun k => Q.chars_First.f k r).bind fun v0 => if (if v0 = true then true else if (r == 45) = true then true else if (r == 46) = true then true else r == 183) = true then some (.ret (.bool true),lcRet [] [] 0) else ((lim fun k => Q.chars_in.f k r (List.map (fun p => Q.S121.mk p.1 p.2) [((48 : Int),(57 : Int)),((768 : Int),(879 : Int)),((8255 : Int),(8256 : Int))])).bind fun v1 => some (.ret (.bool v1),lcRet [] [] 0))) := by kernel_rfl
noncomputable def dossierref05_find.L0 (n k0 : Nat) (b : List Int) (s : ByteArray) (j0 : List Int) (j1 : ByteArray) (j2 j3 : Int) : Option (Rr U0) := loopF cx_dossierref05_find noCalls k0 0 ([(0,false),(1,false),(7,false),(8,false)]) ((siteC (Tryz.f25.body.getD .skip) [1,0,1,0]).getD .skip) (siteK cx_dossierref05_find noCalls n [] (Tryz.f25.body.getD .skip) [1,0,1,0] (bodyK cx_dossierref05_find Tryz.f25 (lcSt [] 0) (callK false [] [] (lcSt [] 0) out))) (St.mk [(0,.sl (.int .u8) j0 .no),(1,.str j1),(7,.int .i64 j2),(8,.int .i64 j3)] [] [] 0 0 0 0 0 25 [] 18)
theorem dossierref05_find.L0_s (n k0 : Nat) (b : List Int) (s : ByteArray) (j0 : List Int) (j1 : ByteArray) (j2 j3 : Int) : dossierref05_find.L0 n (k0 + 1) b s j0 j1 j2 j3 = if decide (j3 < j2) = true then if 0 ≤ j3 then if j3 ≤ (↑j0.length : Int) then ((Q.dossierref05_begins.f (List.drop j3.toNat j0) j1).bind fun v0 => if v0 = true then some (.ret (.int .i64 j3),lcRet [] [] 0) else (dossierref05_find.L0 n k0 b s j0 j1 j2 (i64.wrap (j3 + 1)))) else none else none else some (.ret (.int .i64 (-1 : Int)),lcRet [] [] 0) := by kernel_rfl
theorem dossierref05_find.top (n : Nat) (b : List Int) (s : ByteArray) : callX false (fnF cx_dossierref05_find noCalls n 25) ([.sl (.int .u8) b .no,.str s]) (lcSt [] 0) out = (dossierref05_find.L0 n n b s b s ((↑b.length : Int)) 0) := by kernel_rfl
noncomputable def dossierref01_within.L0 (n k0 : Nat) (r : Int) (l : List Int) (j0 : Int) (j1 : List Int) (j2 : Int) : Option (Rr U0) := loopF cx_dossierref01_within noCalls k0 0 ([(0,false),(1,false),(5,false)]) ((siteC (Tryz.f71.body.getD .skip) [1,0,1,0]).getD .skip) (siteK cx_dossierref01_within noCalls n [] (Tryz.f71.body.getD .skip) [1,0,1,0] (bodyK cx_dossierref01_within Tryz.f71 (lcSt [] 0) (callK false [] [] (lcSt [] 0) out))) (St.mk [(0,.int .i64 j0),(1,.sl (.int .i64) j1 .no),(5,.int .i64 j2)] [] [] 0 0 0 0 0 71 [] 28)
theorem dossierref01_within.L0_s (n k0 : Nat) (r : Int) (l : List Int) (j0 : Int) (j1 : List Int) (j2 : Int) : dossierref01_within.L0 n (k0 + 1) r l j0 j1 j2 = if decide (i64.wrap (j2 + 1) < (↑j1.length : Int)) = true then if 0 ≤ j2 then ((nth j1 j2.toNat).bind fun v0 => if decide (j0 ≥ v0) = true then if 0 ≤ i64.wrap (j2 + 1) then ((nth j1 (i64.wrap (j2 + 1)).toNat).bind fun v1 => if (if true = true then decide (j0 ≤ v1) else false) = true then some (.ret (.bool true),lcRet [] [] 0) else (dossierref01_within.L0 n k0 r l j0 j1 (i64.wrap (j2 + 2)))) else none else (dossierref01_within.L0 n k0 r l j0 j1 (i64.wrap (j2 + 2)))) else none else some (.ret (.bool false),lcRet [] [] 0) := by kernel_rfl
theorem dossierref01_within.top (n : Nat) (r : Int) (l : List Int) : callX false (fnF cx_dossierref01_within noCalls n 71) ([.int .i64 r,.sl (.int .i64) l .no]) (lcSt [] 0) out = (dossierref01_within.L0 n n r l r l 0) := by kernel_rfl
theorem chars_Space.top (n : Nat) (r : Int) : callX false (fnF cx_chars_Space noCalls n 43) ([.int .i64 r]) (lcSt [] 0) out = if (if (r == 32) = true then true else if (r == 9) = true then true else if (r == 10) = true then true else r == 13) = true then some (.ret (.bool true),lcRet [] [] 0) else some (.ret (.bool false),lcRet [] [] 0) := by kernel_rfl
noncomputable def dossierref05_blanks.L0 (n k0 : Nat) (b j0 : List Int) (j1 : Int) : Option (Rr U0) := loopF cx_dossierref05_blanks noCalls k0 0 ([(0,false),(3,false)]) ((siteC (Tryz.f27.body.getD .skip) [1,1,0,0]).getD .skip) (siteK cx_dossierref05_blanks noCalls n [] (Tryz.f27.body.getD .skip) [1,1,0,0] (bodyK cx_dossierref05_blanks Tryz.f27 (lcSt [] 0) (callK false [] [] (lcSt [] 0) out))) (St.mk [(0,.sl (.int .u8) j0 .no),(3,.int .i64 j1)] [] [] 0 0 0 0 0 27 [] 19)
theorem dossierref05_blanks.L0_s (n k0 : Nat) (b j0 : List Int) (j1 : Int) : dossierref05_blanks.L0 n (k0 + 1) b j0 j1 = if decide (j1 < (↑j0.length : Int)) = true then if 0 ≤ j1 then ((nth j0 j1.toNat).bind fun v0 => ((Q.dossierref01_Space.f (i64.wrap v0)).bind fun v1 => if (if true = true then v1 else false) = true then (dossierref05_blanks.L0 n k0 b j0 (i64.wrap (j1 + 1))) else some (.ret (.int .i64 j1),lcRet [] [] 0))) else none else some (.ret (.int .i64 j1),lcRet [] [] 0) := by kernel_rfl
theorem dossierref05_blanks.top (n : Nat) (b : List Int) : callX false (fnF cx_dossierref05_blanks noCalls n 27) ([.sl (.int .u8) b .no]) (lcSt [] 0) out = (dossierref05_blanks.L0 n n b b 0) := by kernel_rfl
theorem utf8_appendRuneNonASCII.top (n : Nat) (r : Int) : callX true (fnF cx_utf8_appendRuneNonASCII noCalls n 98) ([.sl (.int .u8) [] Perm.exact,.int .i32 r]) (lcSt [] 0) out = if decide (IntKind.u32.wrap r ≤ 2047) = true then if (0 + [bits BinOp.or IntKind.u8 (192 : Int) (u8.wrap (r.fdiv ((2 : Int) ^ min (Int.toNat (6 : Int)) IntKind.i32.bits))),bits BinOp.or IntKind.u8 (128 : Int) (bits BinOp.and IntKind.u8 (u8.wrap r) (63 : Int))].length) * 1 ≤ most then some (.ret (.sl (.int .u8) [bits BinOp.or IntKind.u8 (192 : Int) (u8.wrap (r.fdiv ((2 : Int) ^ min (Int.toNat (6 : Int)) IntKind.i32.bits))),bits BinOp.or IntKind.u8 (128 : Int) (bits BinOp.and IntKind.u8 (u8.wrap r) (63 : Int))] (Perm.tok 0)),lcRet [] ([0]) 1) else none else if decide (IntKind.u32.wrap r < 55296) = true then if (0 + [bits BinOp.or IntKind.u8 (224 : Int) (u8.wrap (r.fdiv ((2 : Int) ^ min (Int.toNat (12 : Int)) IntKind.i32.bits))),bits BinOp.or IntKind.u8 (128 : Int) (bits BinOp.and IntKind.u8 (u8.wrap (r.fdiv ((2 : Int) ^ min (Int.toNat (6 : Int)) IntKind.i32.bits))) (63 : Int)),bits BinOp.or IntKind.u8 (128 : Int) (bits BinOp.and IntKind.u8 (u8.wrap r) (63 : Int))].length) * 1 ≤ most then some (.ret (.sl (.int .u8) [bits BinOp.or IntKind.u8 (224 : Int) (u8.wrap (r.fdiv ((2 : Int) ^ min (Int.toNat (12 : Int)) IntKind.i32.bits))),bits BinOp.or IntKind.u8 (128 : Int) (bits BinOp.and IntKind.u8 (u8.wrap (r.fdiv ((2 : Int) ^ min (Int.toNat (6 : Int)) IntKind.i32.bits))) (63 : Int)),bits BinOp.or IntKind.u8 (128 : Int) (bits BinOp.and IntKind.u8 (u8.wrap r) (63 : Int))] (Perm.tok 0)),lcRet [] ([0]) 1) else none else if (if decide ((57343 : Int) < IntKind.u32.wrap r) = true then decide (IntKind.u32.wrap r ≤ 65535) else false) = true then if (0 + [bits BinOp.or IntKind.u8 (224 : Int) (u8.wrap (r.fdiv ((2 : Int) ^ min (Int.toNat (12 : Int)) IntKind.i32.bits))),bits BinOp.or IntKind.u8 (128 : Int) (bits BinOp.and IntKind.u8 (u8.wrap (r.fdiv ((2 : Int) ^ min (Int.toNat (6 : Int)) IntKind.i32.bits))) (63 : Int)),bits BinOp.or IntKind.u8 (128 : Int) (bits BinOp.and IntKind.u8 (u8.wrap r) (63 : Int))].length) * 1 ≤ most then some (.ret (.sl (.int .u8) [bits BinOp.or IntKind.u8 (224 : Int) (u8.wrap (r.fdiv ((2 : Int) ^ min (Int.toNat (12 : Int)) IntKind.i32.bits))),bits BinOp.or IntKind.u8 (128 : Int) (bits BinOp.and IntKind.u8 (u8.wrap (r.fdiv ((2 : Int) ^ min (Int.toNat (6 : Int)) IntKind.i32.bits))) (63 : Int)),bits BinOp.or IntKind.u8 (128 : Int) (bits BinOp.and IntKind.u8 (u8.wrap r) (63 : Int))] (Perm.tok 0)),lcRet [] ([0]) 1) else none else if (if decide (IntKind.u32.wrap r > 65535) = true then decide (IntKind.u32.wrap r ≤ 1114111) else false) = true then if (0 + [bits BinOp.or IntKind.u8 (240 : Int) (u8.wrap (r.fdiv ((2 : Int) ^ min (Int.toNat (18 : Int)) IntKind.i32.bits))),bits BinOp.or IntKind.u8 (128 : Int) (bits BinOp.and IntKind.u8 (u8.wrap (r.fdiv ((2 : Int) ^ min (Int.toNat (12 : Int)) IntKind.i32.bits))) (63 : Int)),bits BinOp.or IntKind.u8 (128 : Int) (bits BinOp.and IntKind.u8 (u8.wrap (r.fdiv ((2 : Int) ^ min (Int.toNat (6 : Int)) IntKind.i32.bits))) (63 : Int)),bits BinOp.or IntKind.u8 (128 : Int) (bits BinOp.and IntKind.u8 (u8.wrap r) (63 : Int))].length) * 1 ≤ most then some (.ret (.sl (.int .u8) [bits BinOp.or IntKind.u8 (240 : Int) (u8.wrap (r.fdiv ((2 : Int) ^ min (Int.toNat (18 : Int)) IntKind.i32.bits))),bits BinOp.or IntKind.u8 (128 : Int) (bits BinOp.and IntKind.u8 (u8.wrap (r.fdiv ((2 : Int) ^ min (Int.toNat (12 : Int)) IntKind.i32.bits))) (63 : Int)),bits BinOp.or IntKind.u8 (128 : Int) (bits BinOp.and IntKind.u8 (u8.wrap (r.fdiv ((2 : Int) ^ min (Int.toNat (6 : Int)) IntKind.i32.bits))) (63 : Int)),bits BinOp.or IntKind.u8 (128 : Int) (bits BinOp.and IntKind.u8 (u8.wrap r) (63 : Int))] (Perm.tok 0)),lcRet [] ([0]) 1) else none else some (.ret (.sl (.int .u8) [(239 : Int),(191 : Int),(189 : Int)] (Perm.tok 0)),lcRet [] ([0]) 1) := by kernel_rfl
theorem utf8_AppendRune.top (n : Nat) (r : Int) : callX true (fnF cx_utf8_AppendRune noCalls n 78) ([.sl (.int .u8) [] Perm.exact,.int .i32 r]) (lcSt [] 0) out = if decide (IntKind.u32.wrap r ≤ 127) = true then if (0 + [u8.wrap r].length) * 1 ≤ most then some (.ret (.sl (.int .u8) [u8.wrap r] (Perm.tok 0)),lcRet [] ([0]) 1) else none else ((lim fun k => Q.utf8_appendRuneNonASCII.f k [] r).bind fun v0 => some (.ret (.sl (.int .u8) v0 (Perm.tok 0)),lcRet [] ([0]) 1)) := by kernel_rfl
theorem chars_Encode.top (n : Nat) (r : Int) : callX false (fnF cx_chars_Encode noCalls n 53) ([.int .i64 r]) (lcSt [] 0) out = if (if decide (r < 0) = true then true else decide (r > 1114111)) = true then some (.ret (.sl (.int .u8) [] .no),lcRet [] [] 0) else ((lim fun k => Q.utf8_ValidRune.f k (i32.wrap r)).bind fun v0 => if (if false = true then true else !v0) = true then some (.ret (.sl (.int .u8) [] .no),lcRet [] [] 0) else ((lim fun k => Q.utf8_AppendRune.f k [] (i32.wrap r)).bind fun v1 => some (.ret (.sl (.int .u8) v1 .no),lcRet [] [] 0))) := by kernel_rfl
theorem dossierref05_digit.top (n : Nat) (x q : Int) : callX false (fnF cx_dossierref05_digit noCalls n 99) ([.int .u8 x,.int .i64 q]) (lcSt [] 0) out = if (if decide (x ≥ 48) = true then decide (x ≤ 57) else false) = true then if decide (i64.wrap (u8.wrap (x - 48)) ≥ q) = true then some (.ret (.int .i64 (-1 : Int)),lcRet [] [] 0) else some (.ret (.int .i64 (i64.wrap (u8.wrap (x - 48)))),lcRet [] [] 0) else if (if decide (x ≥ 97) = true then decide (x ≤ 102) else false) = true then if decide (i64.wrap (i64.wrap (u8.wrap (x - 97)) + 10) ≥ q) = true then some (.ret (.int .i64 (-1 : Int)),lcRet [] [] 0) else some (.ret (.int .i64 (i64.wrap (i64.wrap (u8.wrap (x - 97)) + 10))),lcRet [] [] 0) else if (if decide (x ≥ 65) = true then decide (x ≤ 70) else false) = true then if decide (i64.wrap (i64.wrap (u8.wrap (x - 65)) + 10) ≥ q) = true then some (.ret (.int .i64 (-1 : Int)),lcRet [] [] 0) else some (.ret (.int .i64 (i64.wrap (i64.wrap (u8.wrap (x - 65)) + 10))),lcRet [] [] 0) else if decide ((-1 : Int) ≥ q) = true then some (.ret (.int .i64 (-1 : Int)),lcRet [] [] 0) else some (.ret (.int .i64 (-1 : Int)),lcRet [] [] 0) := by kernel_rfl
noncomputable def dossierref05_numbered.L0 (n k0 : Nat) (b : List Int) (q : Int) (j0 : List Int) (j1 j2 : Int) (j3 : List Int) (j4 j5 : Int) : Option (Rr U0) := loopF cx_dossierref05_numbered noCalls k0 0 ([(0,false),(1,false),(6,false),(10,false),(11,false),(12,false)]) ((siteC (Tryz.f79.body.getD .skip) [1,1,0,1,0]).getD .skip) (siteK cx_dossierref05_numbered noCalls n [] (Tryz.f79.body.getD .skip) [1,1,0,1,0] (bodyK cx_dossierref05_numbered Tryz.f79 (lcSt [] 0) (callK false [] [] (lcSt [] 0) out))) (St.mk [(0,.sl (.int .u8) j0 .no),(1,.int .i64 j1),(6,.int .i64 j2),(10,.sl (.int .u8) j3 .no),(11,.int .i64 j4),(12,.int .i64 j5)] [] [] 0 0 0 0 0 79 [] 39)
theorem dossierref05_numbered.L0_s (n k0 : Nat) (b : List Int) (q : Int) (j0 : List Int) (j1 j2 : Int) (j3 : List Int) (j4 j5 : Int) : dossierref05_numbered.L0 n (k0 + 1) b q j0 j1 j2 j3 j4 j5 = if decide (j5 < j4) = true then if 0 ≤ j5 then ((nth j3 j5.toNat).bind fun v0 => ((lim fun k => Q.dossierref05_digit.f k v0 j1).bind fun v1 => if (if decide (v1 < 0) = true then true else decide (j2 > 1073741824)) = true then some (.ret (.tup [.int .i64 0,.bool false]),lcRet [] [] 0) else (dossierref05_numbered.L0 n k0 b q j0 j1 (i64.wrap (i64.wrap (j2 * j1) + v1)) j3 j4 (i64.wrap (j5 + 1))))) else none else if decide ((↑j0.length : Int) > 0) = true then ((lim fun k => Q.dossierref01_OfXML.f k j2).bind fun v2 => some (.ret (.tup [.int .i64 j2,.bool (if true = true then v2 else false)]),lcRet [] [] 0)) else some (.ret (.tup [.int .i64 j2,.bool false]),lcRet [] [] 0) := by kernel_rfl
theorem dossierref05_numbered.top (n : Nat) (b : List Int) (q : Int) : callX false (fnF cx_dossierref05_numbered noCalls n 79) ([.sl (.int .u8) b .no,.int .i64 q]) (lcSt [] 0) out = (dossierref05_numbered.L0 n n b q b q 0 b ((↑b.length : Int)) 0) := by kernel_rfl
end Go.Proofs.YtccfmfifnbnlmaaGreatDoor.Ev
end
