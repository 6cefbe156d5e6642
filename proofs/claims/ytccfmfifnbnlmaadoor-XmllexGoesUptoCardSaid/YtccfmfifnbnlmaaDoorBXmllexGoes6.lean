/- Several texts in one, in their order. -/
import Derived.Test.YtccfmfifnbnlmaaDoorBXmllexGoes4
import Derived.Test.YtccfmfifnbnlmaaDoorBXmllexGoes5
import Derived.Shelf.Bytes.SlTrim
import Derived.Deep.LoopGhost
import Derived.LoopTactic
import Derived.WalkKit
import Derived.Lib.CountLaws
import Derived.Shelf.Bytes.SlSplitNil
import Derived.Maps.AppendAt
import Derived.Laws.CopyOwn
import Derived.ArgAppend
import Derived.Deep.RegionLaw
import Derived.Deep.CutBlock
import Derived.Deep.DeepCutAuto
import Derived.Deep.QuietTactic
import Derived.BigQuiet
import Derived.KernelRfl
section
/- Go's library functions of bytes: Index, IndexByte, TrimLeft. -/
set_option linter.unusedVariables false
set_option linter.unusedSimpArgs false
namespace Go.Proofs.YtccfmfifnbnlmaaDoor.Ev
open Go Go.RowKit
section
variable {U : Nat → Type} {C : Codec U}
def byteB (l : List Int) : Bool := l.all fun x => decide (0 ≤ x) && decide (x < 256)
theorem byteB_all {l : List Int} (h : byteB l = true) : ∀ x ∈ l,0 ≤ x ∧ x < 256 := fun x hx => by
 have := List.all_eq_true.1 h x hx
 simpa using this
theorem RelVs.ofNums {g : Gh} {k : IntKind} : ∀ l : List Int,RelVs C g (cellsAll C (.int k) l) (l.map (Value.int k))
 | [] => .nil
 | x :: r => .cons (.int k x) (RelVs.ofNums r)
/-- Where the bytes of a slice stand. -/
theorem bytes_at {g : Gh} {w : World} {l : List Int} {vs : List Value} {blk off : Nat} (hs : RelVs C g (cellsAll C (.int .u8) l) vs) (hm : Imm g blk off vs) (hi : ∀ b o x,g.own b o = .imm x → w.cell? ⟨b,o,none⟩ = some x) :
 ∀ i,i < l.length → w.cell? ((⟨blk,off,none⟩ : Addr).add i) = some (.int .u8 (l.getD i 0)) := fun i hl => by
 obtain rfl := RelVs.nums hs
 rw [Lib.addr_add]
 refine hi _ _ _ (hm i _ ?_)
 rw [List.getElem?_map,List.getElem?_eq_getElem hl,List.getD_eq_getElem?_getD,List.getElem?_eq_getElem hl]
 rfl
theorem below_drewW (w : World) (q : Nat) : RowKit.Below w.heap.size w (w.drewN q) := ⟨rfl,rfl,rfl,Nat.le_refl _,fun _ _ => rfl⟩
def bIndexW (l m : List Int) : Int := Lib.index (Lib.bytesOf l) (Lib.bytesOf m)
def bIndexF : List (AVal U) → Option (AVal U)
 | [.sl (.int .u8) l _,.sl (.int .u8) m _] => if (byteB l = true ∧ byteB m = true) ∧ (l.length < 4294967281 ∧ 0 < m.length ∧ m.length ≤ 1000) then some (.int .i64 (bIndexW l m)) else none
 | _ => none
theorem bIndex_ok : CallOk (R := Rr U) Tryd.prog C 17 (asExt bIndexF) := by
 refine callOk_ext fun args v h g w cs ha hi hw => ?_
 unfold bIndexF at h
 split at h
 · rename_i l _ m _
   split at h
   · rename_i hs
     obtain rfl := Option.some.inj h
     obtain ⟨⟨hb1,hb2⟩,h1,h2,h3⟩ := hs
     obtain ⟨c,d,rfl,hc,hd⟩ := RelVs.two ha
     obtain ⟨w0,hw1,hw2⟩ := hw
     obtain ⟨z,hz⟩ := (Tryd.layBIndex).s1_3 w0 hw2.2
     have hlt := World.block_lt_of_cell? _ _ hz
     have hz' : w.cell? _ = _ := (cell_below hw1 hlt).1.trans hz
     cases hd with
     | sl0 => exact absurd h2 (Nat.lt_irrefl 0)
     | sle => exact absurd h2 (Nat.lt_irrefl 0)
     | sl hs2 hm2 hl2 hp2 =>
      rename_i blk2 off2 cap2 vs2
      have hc2 := bytes_at hs2 hm2 hi
      cases hc with
      | sl0 =>
       refine (Any.bytes_Index_nil { Tryd.layBIndex with } _ _ _ w (by omega) (fun hk => ⟨_,_,m.getD 0 0,rfl,?_⟩)).mono fun e w' ⟨h4,h5⟩ => ⟨_,h4,h5 ▸ Below.refl _ _,?_⟩
       · have := hc2 0 (by omega)
         rwa [Lib.addr_add] at this
       · rw [if_neg (by omega)]
         have : bIndexW [] m = -1 := by
          unfold bIndexW Lib.index Lib.bytesOf
          cases m with
          | nil => exact absurd h2 (Nat.lt_irrefl 0)
          | cons a r => rfl
         rw [this]
         exact .int _ _
      | sle =>
       refine (Any.bytes_Index_at { Tryd.layBIndex with } _ _ _ _ _ _ [] m z w rfl rfl (fun x hx => by cases hx) (byteB_all hb2) (fun i hi => absurd hi (Nat.not_lt_zero i)) hc2 (Nat.le_refl _) (by decide) (by omega) hz').mono fun e w' ⟨h4,q,h5⟩ => ?_
       subst h5
       exact ⟨_,h4,below_drewW _ _,.int _ _⟩
      | sl hs1 hm1 hl1 hp1 =>
       refine (Any.bytes_Index_at { Tryd.layBIndex with } _ _ _ _ _ _ l m z w rfl rfl (byteB_all hb1) (byteB_all hb2) (bytes_at hs1 hm1 hi) hc2 hl1 h1 (by omega) hz').mono fun e w' ⟨h4,q,h5⟩ => ?_
       subst h5
       exact ⟨_,h4,below_drewW _ _,.int _ _⟩
   · cases h
 · cases h
def bIndexByteF : List (AVal U) → Option (AVal U)
 | [.sl (.int .u8) l _,.int .u8 x] => some (.int .i64 (Lib.indexByte (Lib.bytesOf l) x.toNat.toUInt8))
 | _ => none
set_option maxHeartbeats 2000000 in
set_option maxRecDepth 100000 in
theorem bIndexByte_nil (x : Int) (w : World) : Calls Tryd.prog 26 #[.slice none 0 0,.int .u8 x] w fun e w' => e = .returned (.int .i64 (-1)) ∧ w' = w :=
 Any.bytes_IndexByte_nil Tryd.layBIndexByte x w
theorem bIndexByte_ok : CallOk (R := Rr U) Tryd.prog C 26 (asExt bIndexByteF) := by
 refine callOk_ext fun args v h g w cs ha hi hw => ?_
 unfold bIndexByteF at h
 split at h
 · rename_i l _ x
   obtain rfl := Option.some.inj h
   obtain ⟨c,d,rfl,hc,hd⟩ := RelVs.two ha
   cases hd
   cases hc with
   | sl0 => exact (bIndexByte_nil x w).mono fun e w' ⟨h4,h5⟩ => ⟨_,h4,h5 ▸ Below.refl _ _,.int _ _⟩
   | sle => exact (Any.bytes_IndexByte_at Tryd.layBIndexByte _ _ _ [] x w rfl (fun i hi => absurd hi (Nat.not_lt_zero i))).mono fun e w' ⟨h4,h5⟩ => ⟨_,h4,h5 ▸ Below.refl _ _,.int _ _⟩
   | sl hs1 hm1 hl1 hp1 => exact (Any.bytes_IndexByte_at Tryd.layBIndexByte _ _ _ l x w rfl (bytes_at hs1 hm1 hi)).mono fun e w' ⟨h4,h5⟩ => ⟨_,h4,h5 ▸ Below.refl _ _,.int _ _⟩
 · cases h
end
section
variable {U : Nat → Type} {R : Type}
def bIndexS : List (AVal U) → St U → (Res U → St U → Option R) → Option R := fun args st K => match args with
 | [.sl (.int .u8) l _,.sl (.int .u8) m _] => if (byteB l = true ∧ byteB m = true) ∧ (l.length < 4294967281 ∧ 0 < m.length ∧ m.length ≤ 1000) then K (.ret (.int .i64 (bIndexW l m))) st else none
 | _ => none
def bIndexByteS : List (AVal U) → St U → (Res U → St U → Option R) → Option R := fun args st K => match args with
 | [.sl (.int .u8) l _,.int .u8 x] => K (.ret (.int .i64 (Lib.indexByte (Lib.bytesOf l) x.toNat.toUInt8))) st
 | _ => none
end
section
variable {U : Nat → Type} {C : Codec U}
theorem bIndexS_ok : CallOkL (R := Rr U) Tryd.prog C 17 bIndexS := callOk_by bIndex_ok fun args st K r h => by
 unfold bIndexS at h
 unfold asExt bIndexF
 split at h
 · split at h
   · rename_i h1
     rw [if_pos h1]; exact h
   · cases h
 · cases h
theorem bIndexByteS_ok : CallOkL (R := Rr U) Tryd.prog C 26 bIndexByteS := callOk_by bIndexByte_ok fun args st K r h => by
 unfold bIndexByteS at h
 unfold asExt bIndexByteF
 split at h
 · exact h
 · cases h
end
end Go.Proofs.YtccfmfifnbnlmaaDoor.Ev
end
section
/- bytes.TrimLeft at a set of ASCII signs, of a slice of any room: walked. -/
set_option linter.unusedVariables false
set_option linter.unusedSimpArgs false
namespace Go.Proofs.YtccfmfifnbnlmaaDoor.Ev
open Go Go.RowKit
def allIn8 (cs bs : List UInt8) (j : Nat) : Prop := ∀ i y,i < j → bs[i]? = some y → cs.contains y = true
theorem allIn8_succ {cs bs : List UInt8} {j : Nat} {x : UInt8} (h : allIn8 cs bs j) (hx : bs[j]? = some x) (hin : cs.contains x = true) : allIn8 cs bs (j + 1) := fun i y hi hy => by
 rcases Nat.lt_or_ge i j with h1 | h1
 · exact h i y h1 hy
 · obtain rfl : i = j := by omega
   rw [hx] at hy
   obtain rfl := Option.some.inj hy
   exact hin
set_option maxHeartbeats 4000000 in
set_option maxRecDepth 100000 in
theorem trimASCII_walk (p : Option Addr) (n c : Nat) (bs : List UInt8) (b : Nat) (cs : List UInt8) (w : World) (hb : bs.length = n) (hnc : n ≤ c) (h1 : Lib.BytesAt w p n bs) (hset : ∀ x : UInt8,w.cell? ⟨b,x.toNat,none⟩ = some (.bool (cs.contains x))) :
 Calls Tryd.prog 60 #[.slice p n c,.pointer (some ⟨b,0,none⟩)] w fun e w' => (∃ j q,e = .returned (.slice q (n - j) (c - j)) ∧ j < n ∧ q = p.map (·.add j) ∧ allIn8 cs bs j ∧ ∀ y,bs[j]? = some y → cs.contains y = false) ∧ w' = w ∨ (e = .returned (.slice none 0 0) ∧ allIn8 cs bs n) ∧ w' = w := by
 have HS : Aside _ := hset
 have H1 : Aside _ := h1
 clear hset h1
 go_enter Tryd.func60,Tryd.ntmps60
 go_wp2
 go_loopg [0] n (fun k s wr => ∃ j q,j ≤ n ∧ n - j ≤ k ∧ s = .slice q (n - j) (c - j) ∧ wr = w ∧ Aside ((j < n → q = p.map (·.add j)) ∧ allIn8 cs bs j))
 case atStart =>
  have I0 : Aside ((0 < n → p = p.map (·.add 0)) ∧ allIn8 cs bs 0) := ⟨fun _ => by cases p <;> simp [WideShapes.add_plain,Addr.add],fun i y hi => absurd hi (Nat.not_lt_zero _)⟩
  exact ⟨0,p,Nat.zero_le _,by omega,rfl,rfl,I0⟩
 case round =>
  obtain ⟨j,q,hjn,hk,rfl,rfl,I⟩ := hrel
  by_cases h0 : j < n
  · obtain ⟨blk,o,rfl,hc⟩ := H1.out (by omega)
    obtain rfl : q = some ⟨blk,o + j,none⟩ := by rw [I.out.1 h0]; simp [WideShapes.add_plain]
    obtain ⟨x,hx,hct⟩ : ∃ x,bs[j]? = some x ∧ wr.cell? ⟨blk,o + j,none⟩ = some (.int .u8 x.toNat) := by
     have hj : j < bs.length := by omega
     refine ⟨bs[j],List.getElem?_eq_getElem hj,?_⟩
     have := hc j h0
     rwa [List.getD_eq_getElem?_getD,List.getElem?_eq_getElem hj] at this
    have HX : Aside (bs[j]? = some x) := hx
    clear hx hc
    have hcx := HS.out x
    obtain ⟨m,hm⟩ : ∃ m,n - j = m + 1 := ⟨n - j - 1,by omega⟩
    obtain ⟨d,hd⟩ : ∃ d,c - j = d + 1 := ⟨c - j - 1,by omega⟩
    have hmd : m ≤ d := by omega
    rw [hm,hd]
    cases hin : cs.contains x with
    | false =>
     rw [hin] at hcx
     have HI : Aside (cs.contains x = false) := hin
     clear hin
     go_wp2_with (go_at_call 71; refine (Any.bytes_asciiSet_contains { Tryd.layBTrimLeft with } _ x _ _ hcx).mono ?_; rintro e w' ⟨rfl,hw⟩; rw [hw])
     go_ret
     refine .inl ⟨⟨j,some ⟨blk,o + j,none⟩,?_,h0,by simp [WideShapes.add_plain],I.out.2,fun y hy => ?_⟩,rfl⟩
     · rw [hm,hd]; first | rfl | simp
     · rw [HX.out] at hy
       obtain rfl := Option.some.inj hy
       exact HI.out
    | true =>
     rw [hin] at hcx
     have HI : Aside (cs.contains x = true) := hin
     clear hin
     have K : Aside (allIn8 cs bs (j + 1)) := allIn8_succ I.out.2 HX.out HI.out
     by_cases hd0 : d = 0
     · subst hd0
       obtain rfl : m = 0 := by omega
       go_wp2_with (go_at_call 71; refine (Any.bytes_asciiSet_contains { Tryd.layBTrimLeft with } _ x _ _ hcx).mono ?_; rintro e w' ⟨rfl,hw⟩; rw [hw])
       go_roundg 0
       case measure => omega
       case rel =>
        have I3 : Aside ((j + 1 < n → some (⟨blk,o + j,none⟩ : Addr) = (some (⟨blk,o,none⟩ : Addr)).map (·.add (j + 1))) ∧ allIn8 cs bs (j + 1)) := ⟨fun h => by exfalso; omega,K.out⟩
        exact ⟨j + 1,some ⟨blk,o + j,none⟩,by omega,by omega,by rw [show n - (j + 1) = 0 by omega,show c - (j + 1) = 0 by omega],rfl,I3⟩
     · go_wp2_with (go_at_call 71; refine (Any.bytes_asciiSet_contains { Tryd.layBTrimLeft with } _ x _ _ hcx).mono ?_; rintro e w' ⟨rfl,hw⟩; rw [hw])
       go_roundg m
       case measure => omega
       case rel =>
        have I3 : Aside ((j + 1 < n → some (⟨blk,o + j + 1,none⟩ : Addr) = (some (⟨blk,o,none⟩ : Addr)).map (·.add (j + 1))) ∧ allIn8 cs bs (j + 1)) := ⟨fun _ => by simp [WideShapes.add_plain,Nat.add_assoc],K.out⟩
        exact ⟨j + 1,some ⟨blk,o + j + 1,none⟩,by omega,by omega,by rw [show n - (j + 1) = m by omega,show c - (j + 1) = d by omega],rfl,I3⟩
  · obtain rfl : j = n := by omega
    rw [Nat.sub_self]
    go_wp2
    go_ret
    exact .inr ⟨⟨by first | rfl | simp,I.out.2⟩,rfl⟩
theorem set_zero : (Tryd.prog.info? 93).map (fun i => (i.zero,i.size)) = some (some (.agg (Array.replicate 256 (.bool false))),256) := by kernel_rfl
set_option maxHeartbeats 4000000 in
set_option maxRecDepth 100000 in
theorem bTrim_walk (p : Option Addr) (n c : Nat) (bs : List UInt8) (cs : ByteArray) (w : World) (hb : bs.length = n) (hnc : n ≤ c) (h1 : Lib.BytesAt w p n bs) (h2 : 2 ≤ cs.size) (hs : cs.size < 4294967281) (ha : ∀ (j : Nat) b,cs.data.toList[j]? = some b → b.toNat < 128) :
 Calls Tryd.prog 49 #[.slice p n c,.string cs] w fun e w' => ((∃ j q,e = .returned (.slice q (n - j) (c - j)) ∧ j < n ∧ q = p.map (·.add j) ∧ allIn8 cs.data.toList bs j ∧ ∀ y,bs[j]? = some y → cs.data.toList.contains y = false) ∨ (e = .returned (.slice none 0 0) ∧ allIn8 cs.data.toList bs n)) ∧ Below w.heap.size w w' := by
 have hz := zero_of_info set_zero
 by_cases hn : n = 0
 · subst hn
   go_enter Tryd.func49,Tryd.ntmps49
   go_wp2
   go_ret
   exact ⟨.inr ⟨rfl,fun i y hi => absurd hi (Nat.not_lt_zero _)⟩,Below.refl _ _⟩
 have hM : Calls Tryd.prog 59 #[.string cs] w fun e w' => e = .returned (.tuple #[.agg (Lib.setCells cs.data.toList),.bool true]) ∧ w' = w.alloc (.cells (Lib.setCells cs.data.toList) 93) := Any.bytes_makeASCIISet { Tryd.layBTrimLeft with } hz.1 hz.2 cs w hs ha
 have he : cs.toList.isEmpty = false := by
  rw [Lib.toList_data]
  cases h : cs.data.toList with
  | nil => have := Lib.size_eq cs; rw [h,List.length_nil] at this; omega
  | cons _ _ => rfl
 have hn0 : ((n : Int) == 0) = false := beq_eq_false_iff_ne.2 (by omega)
 have hn1 : ((cs.size : Int) == 1) = false := beq_eq_false_iff_ne.2 (by omega)
 have hst : (storeCells ⟨w.heap.size + 1,0,none⟩ (Lib.setCells cs.data.toList).toList 0).run Tryd.prog ((w.alloc (.cells (Lib.setCells cs.data.toList) 93)).alloc (.cells (Array.replicate 256 (.bool false)) 93)) = .ok () ((w.alloc (.cells (Lib.setCells cs.data.toList) 93)).alloc (.cells (Lib.setCells cs.data.toList) 93)) := by
  have := run_storeCells_new (P := Tryd.prog) (w.alloc (.cells (Lib.setCells cs.data.toList) 93)) 93 (Array.replicate 256 (.bool false)) (Lib.setCells cs.data.toList) (by rw [Lib.setCells_size]; exact hz.2) (by rw [Lib.setCells_size,Array.size_replicate]) (Lib.setCells_one _)
  simpa using this
 have hset : ∀ x : UInt8,((w.alloc (.cells (Lib.setCells cs.data.toList) 93)).alloc (.cells (Lib.setCells cs.data.toList) 93)).cell? ⟨w.heap.size + 1,x.toNat,none⟩ = some (.bool (cs.data.toList.contains x)) := fun x => by
  rw [World.cell?_alloc_at _ _ _ _ (by simp),Lib.setCells_at]
 have hB : Below w.heap.size w ((w.alloc (.cells (Lib.setCells cs.data.toList) 93)).alloc (.cells (Lib.setCells cs.data.toList) 93)) := ((Below.refl _ _).alloc (Nat.le_refl _) _).alloc (by simp) _
 have hT := trimASCII_walk p n c bs (w.heap.size + 1) cs.data.toList _ hb hnc (h1.below hB) hset
 have HB : Aside _ := hB
 have HZ := Tryd.sizeOf93
 clear hset h1 hB
 go_enter Tryd.func49,Tryd.ntmps49
 go_wp2_with (go_at_call 59; refine hM.mono ?_; rintro e w' ⟨rfl,hw⟩; rw [hw])
 clear hM hst
 go_wp2_with (go_at_call 60; refine hT.mono ?_; rintro e w' (⟨⟨j,q,rfl,h3,h4,h5,h6⟩,hw⟩ | ⟨⟨rfl,h3⟩,hw⟩) <;> rw [hw])
 · go_ret
   exact ⟨.inl ⟨j,p.map (·.add j),by first | rfl | simp,h3,rfl,h5,h6⟩,HB.out⟩
 · go_ret
   exact ⟨.inr ⟨rfl,h3⟩,HB.out⟩
 · exfalso
   rename_i h
   first | exact h (by rw [Lib.setCells_size]) | simp [Lib.setCells_size] at h
section
variable {U : Nat → Type} {C : Codec U}
/-- Bytes without those of these that they begin with. -/
def bTrimW (l : List Int) (t : ByteArray) : List Int := l.dropWhile fun x => t.data.toList.contains (UInt8.ofNat x.toNat)
theorem dropWhile_at {α : Type} (f : α → Bool) : ∀ (l : List α) (j : Nat),(∀ i y,i < j → l[i]? = some y → f y = true) → (∀ y,l[j]? = some y → f y = false) → l.dropWhile f = l.drop j
 | [],j,_,_ => by simp
 | a :: r,0,_,h => by rw [List.dropWhile_cons,if_neg (by rw [h a rfl]; decide)]; rfl
 | a :: r,j + 1,h1,h2 => by
  rw [List.dropWhile_cons,if_pos (h1 0 a (by omega) rfl),List.drop_succ_cons]
  exact dropWhile_at f r j (fun i y hi hy => h1 (i + 1) y (by omega) (by simpa using hy)) (fun y hy => h2 y (by simpa using hy))
theorem bTrim_drop {l : List Int} {t : ByteArray} {j : Nat} (h1 : allIn8 t.data.toList (Lib.bytesOf l) j) (h2 : ∀ y,(Lib.bytesOf l)[j]? = some y → t.data.toList.contains y = false) : bTrimW l t = l.drop j := by
 refine dropWhile_at _ l j (fun i y hi hy => h1 i _ hi ?_) (fun y hy => h2 _ ?_)
 · unfold Lib.bytesOf; rw [List.getElem?_map,hy]; rfl
 · unfold Lib.bytesOf; rw [List.getElem?_map,hy]; rfl
theorem imm_grow {g : Gh} {w w' : World} {blk off : Nat} {vs : List Value} (hm : Imm g blk off vs) (hi : ∀ b o x,g.own b o = .imm x → w.cell? ⟨b,o,none⟩ = some x) : Imm (g.grow w w') blk off vs := fun j v hv => by
 have h1 := hm j v hv
 rw [grow_old (lt_of_cell (a := ⟨blk,off + j,none⟩) (by rw [hi _ _ _ h1]; rfl))]
 exact h1
def bTrimF : List (AVal U) → Option (AVal U)
 | [.sl (.int .u8) l _,.str t] => if byteB l = true ∧ (2 ≤ t.size ∧ t.size < 4294967281 ∧ t.data.toList.all (fun b => decide (b.toNat < 128)) = true) then some (.sl (.int .u8) (bTrimW l t) .no) else none
 | _ => none
theorem bTrim_ok : CallOk (R := Rr U) Tryd.prog C 49 (asExt bTrimF) := by
 refine callOk_ext fun args v h g w cs ha hi hw => ?_
 unfold bTrimF at h
 split at h
 · rename_i l _ t
   split at h
   · rename_i hs
     obtain rfl := Option.some.inj h
     obtain ⟨hb,h1,h2,h3⟩ := hs
     obtain ⟨c,d,rfl,hc,hd⟩ := RelVs.two ha
     cases hd
     have hasc : ∀ (j : Nat) b,t.data.toList[j]? = some b → b.toNat < 128 := fun j b hj => by
      have := List.all_eq_true.1 h3 b (List.mem_of_getElem? hj)
      simpa using this
     have nil : ∀ {g : Gh},RelV C g (.sl (.int .u8) (bTrimW [] t) .no) (.slice none 0 0) := .sl0 rfl
     cases hc with
     | sl0 =>
      refine (bTrim_walk none 0 0 [] t w rfl (Nat.le_refl _) (fun h => absurd h (Nat.lt_irrefl 0)) h1 h2 hasc).mono fun e w' ⟨h4,h5⟩ => ?_
      rcases h4 with ⟨j,_,_,h6,_⟩ | ⟨rfl,_⟩
      · exact absurd h6 (Nat.not_lt_zero _)
      · exact ⟨_,rfl,h5,nil⟩
     | sle =>
      rename_i a hz
      refine (bTrim_walk (some a) 0 0 [] t w rfl (Nat.le_refl _) (fun h => absurd h (Nat.lt_irrefl 0)) h1 h2 hasc).mono fun e w' ⟨h4,h5⟩ => ?_
      rcases h4 with ⟨j,_,_,h6,_⟩ | ⟨rfl,_⟩
      · exact absurd h6 (Nat.not_lt_zero _)
      · exact ⟨_,rfl,h5,nil⟩
     | sl hs1 hm1 hl1 hp1 =>
      rename_i blk off cap vs
      have hlen : (Lib.bytesOf l).length = l.length := Lib.bytesOf_length l
      have hx : Lib.BytesIn w (some ⟨blk,off,none⟩) l.length l := Lib.BytesIn.of_cells (bytes_at hs1 hm1 hi)
      refine (bTrim_walk (some ⟨blk,off,none⟩) l.length cap (Lib.bytesOf l) t w hlen hl1 (hx.at8 rfl (byteB_all hb)) h1 h2 hasc).mono fun e w' ⟨h4,h5⟩ => ?_
      rcases h4 with ⟨j,q,rfl,h6,rfl,h7,h8⟩ | ⟨rfl,h7⟩
      · refine ⟨_,rfl,h5,?_⟩
        rw [bTrim_drop h7 h8]
        obtain rfl := RelVs.nums hs1
        have e : (l.map (Value.int .u8)).drop j = (l.drop j).map (Value.int .u8) := by rw [List.map_drop]
        have hi2 : Imm (g.grow w w') blk (off + j) ((l.drop j).map (Value.int .u8)) := by
         rw [← e]
         exact (imm_grow hm1 hi).drop j
        have := RelV.sl (C := C) (g := g.grow w w') (t := .int .u8) (l := l.drop j) (p := .no) (blk := blk) (off := off + j) (cap := cap - j) (vs := (l.drop j).map (Value.int .u8)) (RelVs.ofNums _) hi2 (by rw [List.length_drop]; omega) trivial
        rw [List.length_drop] at this
        rw [Option.map_some,Lib.addr_add]
        exact this
      · have e : bTrimW l t = [] := by
         rw [bTrim_drop h7 (fun y hy => by rw [List.getElem?_eq_none (by omega)] at hy; cases hy)]
         exact List.drop_of_length_le (Nat.le_refl _)
        rw [e]
        exact ⟨_,rfl,h5,.sl0 rfl⟩
   · cases h
 · cases h
def bTrimS {R : Type} : List (AVal U) → St U → (Res U → St U → Option R) → Option R := fun args st K => match args with
 | [.sl (.int .u8) l _,.str t] => if byteB l = true ∧ (2 ≤ t.size ∧ t.size < 4294967281 ∧ t.data.toList.all (fun b => decide (b.toNat < 128)) = true) then K (.ret (.sl (.int .u8) (bTrimW l t) .no)) st else none
 | _ => none
theorem bTrimS_ok : CallOkL (R := Rr U) Tryd.prog C 49 bTrimS := callOk_by bTrim_ok fun args st K r h => by
 unfold bTrimS at h
 unfold asExt bTrimF
 split at h
 · split at h
   · rename_i h1
     rw [if_pos h1]; exact h
   · cases h
 · cases h
end
end Go.Proofs.YtccfmfifnbnlmaaDoor.Ev
end
section
/- bytes.Replace of all instances of one or two bytes by one byte: walked. -/
set_option linter.unusedVariables false
set_option linter.unusedSimpArgs false
namespace Go.Proofs.YtccfmfifnbnlmaaDoor.Ev
open Go Go.RowKit Go.Proofs.YtccfmfifnbnlmaaDoorW.PrintWords Go.Proofs.YtccfmfifnbnlmaaDoorW.PrintLast Go.Proofs.YtccfmfifnbnlmaaDoorH
/-- The first so many instances of m are r. -/
def replI (m r : List Int) : Nat → List Int → List Int
 | 0,l => l
 | k + 1,l => l.take (bIndexW l m).toNat ++ (r ++ replI m r k (l.drop ((bIndexW l m).toNat + m.length)))
def cntI (l m : List Int) : Nat := Lib.count (Lib.bytesOf l) (Lib.bytesOf m)
def replW (l m r : List Int) : List Int := replI m r (cntI l m) l
theorem index_room : ∀ (s sub : List UInt8) (i : Nat),Lib.index s sub = (i : Int) → i + sub.length ≤ s.length
 | [],sub,i,h => by
  unfold Lib.index at h
  cases sub with
  | nil =>
   have h' : (0 : Int) = i := h
   show i + 0 ≤ 0
   omega
  | cons a r =>
   have h' : (-1 : Int) = i := h
   omega
 | b :: l,sub,i,h => by
  unfold Lib.index at h
  split at h
  · rename_i hp
    have := (List.isPrefixOf_iff_prefix.1 hp).length_le
    omega
  · split at h
    · omega
    · have hge := Lib.index_ge l sub
      obtain ⟨j,hj⟩ : ∃ j : Nat,Lib.index l sub = j := ⟨(Lib.index l sub).toNat,by rename_i h1; simp at h1; omega⟩
      have := index_room l sub j hj
      rw [List.length_cons]
      omega
theorem bytesOf_drop (l : List Int) (n : Nat) : Lib.bytesOf (l.drop n) = (Lib.bytesOf l).drop n := by unfold Lib.bytesOf; rw [List.map_drop]
theorem bytesOf_ne {m : List Int} (h : 0 < m.length) : Lib.bytesOf m ≠ [] := fun e => by
 have := congrArg List.length e
 rw [Lib.bytesOf_length] at this
 have e0 : m.length = 0 := this
 omega
theorem cnt_step {l m : List Int} {k : Nat} (hm : 0 < m.length) (h : cntI l m = k + 1) : ∃ i : Nat,bIndexW l m = i ∧ i + m.length ≤ l.length ∧ cntI (l.drop (i + m.length)) m = k := by
 unfold cntI at h
 have hge := Lib.index_ge (Lib.bytesOf l) (Lib.bytesOf m)
 have hn : ¬ Lib.index (Lib.bytesOf l) (Lib.bytesOf m) = -1 := fun e => by rw [Lib.count_miss e] at h; cases h
 obtain ⟨i,hi⟩ : ∃ i : Nat,Lib.index (Lib.bytesOf l) (Lib.bytesOf m) = i := ⟨(Lib.index (Lib.bytesOf l) (Lib.bytesOf m)).toNat,by omega⟩
 have h1 := index_room _ _ i hi
 rw [Lib.bytesOf_length,Lib.bytesOf_length] at h1
 rw [Lib.count_hit (bytesOf_ne hm) hi,Lib.bytesOf_length] at h
 refine ⟨i,hi,h1,?_⟩
 unfold cntI
 rw [bytesOf_drop]
 omega
theorem replI_length {m r : List Int} (hm : 0 < m.length) : ∀ (k : Nat) (l : List Int),cntI l m = k → (replI m r k l).length + k * m.length = l.length + k * r.length
 | 0,l,_ => by simp [replI]
 | k + 1,l,h => by
  obtain ⟨i,h1,h2,h3⟩ := cnt_step hm h
  have ih := replI_length (r := r) hm k _ h3
  rw [replI,h1,Int.toNat_natCast,List.length_append,List.length_append,List.length_take,Nat.min_eq_left (by omega),Nat.add_mul,Nat.add_mul,Nat.one_mul,Nat.one_mul]
  rw [List.length_drop] at ih
  omega
theorem cnt_le_len {m : List Int} (hm : 0 < m.length) : ∀ (k : Nat) (l : List Int),cntI l m = k → k * m.length ≤ l.length
 | 0,l,_ => by omega
 | k + 1,l,h => by
  obtain ⟨i,h1,h2,h3⟩ := cnt_step hm h
  have ih := cnt_le_len hm k _ h3
  rw [List.length_drop] at ih
  rw [Nat.add_mul,Nat.one_mul]
  omega
def ints8 (l : List Int) : List Value := l.map (Value.int .u8)
/-- Cells of a row that is filled from the front. -/
def rowL (xs : List Int) (N : Nat) : List Value := ints8 xs ++ List.replicate (N - xs.length) (.int .u8 0)
theorem rowL_length (xs : List Int) (N : Nat) (h : xs.length ≤ N) : (rowL xs N).length = N := by unfold rowL ints8; simp; omega
theorem rowL_put (xs ys : List Int) (N : Nat) (h : xs.length + ys.length ≤ N) : splice (rowL xs N) xs.length (ints8 ys) = rowL (xs ++ ys) N := by
 unfold splice rowL ints8
 have e1 : (xs.map (Value.int .u8) ++ List.replicate (N - xs.length) (Value.int .u8 0)).take xs.length = xs.map (Value.int .u8) := List.take_left' (by simp)
 have e2 : (xs.map (Value.int .u8) ++ List.replicate (N - xs.length) (Value.int .u8 0)).drop (xs.length + ys.length) = List.replicate (N - (xs.length + ys.length)) (Value.int .u8 0) := by
  rw [List.drop_append,List.drop_of_length_le (by simp),List.nil_append,List.length_map,List.drop_replicate]
  congr 1
  omega
 rw [e1,List.length_map,e2,List.map_append,List.append_assoc,List.length_append]
theorem make_row (W : World) (N : Nat) (h : N ≤ 281474976710656) : (Instr.makeSlice 22 (.int .i64 (N : Int)) (.int .i64 (N : Int))).run Tryd.prog W = .ok (.slice (some ⟨W.heap.size,0,none⟩) N N) (W.alloc (.cells (rowL [] N).toArray 5)) := by
 have := run_make_row' (P := Tryd.prog) 22 5 (.int .u8 0) 1 Tryd.underlying22 (by kernel_rfl) rfl .i64 .i64 N (by omega) (by omega) W
 rw [this]
 have e : madeCells #[Value.int .u8 0] N = (rowL [] N).toArray := by
  apply Array.ext'
  unfold madeCells rowL ints8
  apply List.ext_getElem
  · simp
  · intro i h1 h2
    simp [Nat.mod_one]
 rw [e]
theorem ints_one (l : List Int) : ∀ v ∈ ints8 l,v.oneCell' = true := fun v hv => by
 obtain ⟨x,_,rfl⟩ := List.mem_map.1 hv
 rfl
theorem size8 : (Tryd.prog.info? 5).map (·.size) = some 1 := by kernel_rfl
/-- Cells that hold numbers, one behind the other. -/
def CellsAt (w : World) (blk off : Nat) (l : List Int) : Prop := ∀ i,i < l.length → w.cell? ⟨blk,off + i,none⟩ = some (.int .u8 (l.getD i 0))
theorem CellsAt.src {w : World} {blk off : Nat} {l : List Int} (h : CellsAt w blk off l) (a n : Nat) : ∀ j v,(ints8 ((l.drop a).take n))[j]? = some v → w.cell? ((⟨blk,off + a,none⟩ : Addr).add j) = some v := fun j v hj => by
 unfold ints8 at hj
 rw [List.getElem?_map,List.getElem?_take] at hj
 split at hj
 · rw [List.getElem?_drop] at hj
   obtain ⟨x,hx,rfl⟩ := Option.map_eq_some_iff.1 hj
   have hlt := (List.getElem?_eq_some_iff.1 hx).1
   have := h (a + j) hlt
   rw [List.getD_eq_getElem?_getD,hx] at this
   rw [Lib.addr_add,Nat.add_assoc]
   exact this
 · cases hj
theorem CellsAt.below {w w' : World} {blk off : Nat} {l : List Int} (h : CellsAt w blk off l) (hb : Below w.heap.size w w') : CellsAt w' blk off l := fun i hi => by
 have := h i hi
 rw [(cell_below hb (World.block_lt_of_cell? _ _ this)).1]
 exact this
theorem CellsAt.drop {w : World} {blk off : Nat} {l : List Int} (h : CellsAt w blk off l) (a : Nat) : CellsAt w blk (off + a) (l.drop a) := fun i hi => by
 rw [List.length_drop] at hi
 have := h (a + i) (by omega)
 rw [Nat.add_assoc,this]
 simp [List.getD_eq_getElem?_getD]
theorem CellsAt.add {w : World} {blk off : Nat} {l : List Int} (h : CellsAt w blk off l) : ∀ i,i < l.length → w.cell? ((⟨blk,off,none⟩ : Addr).add i) = some (.int .u8 (l.getD i 0)) := fun i hi => by
 rw [Lib.addr_add]; exact h i hi
set_option maxHeartbeats 1200000 in
set_option maxRecDepth 100000 in
theorem repl_walk (blk off n c : Nat) (l m : List Int) (x : Int) (b2 o2 c2 b3 o3 c3 : Nat) (w : World) (hn : l.length = n) (hnc : n ≤ c) (hs : n < 4294967281) (h1 : CellsAt w blk off l) (hb1 : byteB l = true) (hb2 : byteB m = true)
 (hm1 : 1 ≤ m.length) (hm2 : m.length ≤ 2) (h2 : CellsAt w b2 o2 m) (h3 : CellsAt w b3 o3 [x]) (hmc : m.length ≤ c2) (z : Int) (hz : w.cell? ⟨Tryd.layBCount_ren.g 0,0,none⟩ = some (.int .i64 z)) (hz2 : w.cell? ⟨Tryd.layBIndex_ren.g 1,0,none⟩ = some (.int .i64 z)) (K : Nat) (hk : cntI l m = K) (hK : 0 < K) :
 Calls Tryd.prog 48 #[.slice (some ⟨blk,off,none⟩) n c,.slice (some ⟨b2,o2,none⟩) m.length c2,.slice (some ⟨b3,o3,none⟩) 1 c3,.int .i64 (-1)] w fun e w' =>
  (∃ g cap,e = .returned (.slice (some ⟨g,0,none⟩) (replW l m [x]).length cap) ∧ w.heap.size ≤ g ∧ (replW l m [x]).length ≤ cap ∧ CellsAt w' g 0 (replW l m [x])) ∧ Below w.heap.size w w' := by
 obtain ⟨q,hq⟩ : ∃ q,m.length = q := ⟨_,rfl⟩
 have hc2 : Calls Tryd.prog 57 #[.slice (some ⟨blk,off,none⟩) n c,.slice (some ⟨b2,o2,none⟩) m.length c2] w fun e w' => e = .returned (.int .i64 (K : Int)) ∧ ∃ q,w' = w.drewN q := by
  have := Any.bytes_Count_any Tryd.layBCount ⟨blk,off,none⟩ ⟨b2,o2,none⟩ n c m.length c2 l m z w hn rfl (byteB_all hb1) (byteB_all hb2) (by rw [← hn]; exact h1.add) h2.add hnc hs (by omega) hm1 hz
  unfold cntI at hk
  rw [hk] at this
  exact this
 have hN0 := replI_length (m := m) (r := [x]) (by omega) K l hk
 have hle := cnt_le_len (m := m) (by omega) K l hk
 obtain ⟨N,hN⟩ : ∃ N,(replW l m [x]).length = N := ⟨_,rfl⟩
 have hNN : N + K * m.length = n + K * 1 := by rw [← hN,← hn]; unfold replW; rw [hk]; exact hN0
 have hNr : K * m.length ≤ n := by rw [← hn]; exact hle
 clear hN0 hle
 have hK0 : ((K : Int) == 0) = false := beq_eq_false_iff_ne.2 (by omega)
 rw [hq] at hc2 hNN hNr hm1 hm2 ⊢
 rw [hN]
 have H1 := Aside0.mk h1
 have H2 := Aside0.mk h2
 have H3 := Aside0.mk h3
 clear h1 h2 h3
 have hmk := fun W : World => make_row W N (by have : q = 1 ∨ q = 2 := by omega
                                               rcases this with rfl | rfl <;> omega)
 have hacc0 : replI m [x] K l = replW l m [x] := by unfold replW; rw [hk]
 have hNb : N ≤ 4294967296 := by
  obtain rfl | rfl : q = 1 ∨ q = 2 := by omega
  all_goals omega
 have hKb : K ≤ 4294967296 := by
  obtain rfl | rfl : q = 1 ∨ q = 2 := by omega
  all_goals omega
 have hZ0 : ∃ Z : Int,(K : Int) * (1 - (q : Int)) = Z ∧ (n : Int) + Z = (N : Int) ∧ -4294967296 ≤ Z ∧ Z ≤ 0 := by
  refine ⟨_,rfl,?_⟩
  obtain rfl | rfl : q = 1 ∨ q = 2 := by omega
  · rw [show (1 : Int) - ((1 : Nat) : Int) = 0 from rfl,Int.mul_zero]; omega
  · rw [show (1 : Int) - ((2 : Nat) : Int) = -1 from rfl,Int.mul_neg,Int.mul_one]; omega
 obtain ⟨Z,hZ1,hZ2,hZ3,hZ4⟩ := hZ0
 have hq0 : 0 < q := by omega
 · go_enter Tryd.func48,Tryd.ntmps48
   go_wp2_with (go_at_call 57; refine hc2.mono ?_; rintro e w' ⟨rfl,qq,hw⟩; rw [hw])
   have hrow0 : ((w.drewN qq).alloc (.cells (rowL [] N).toArray 5)).heap[w.heap.size]? = some (.cells (rowL [] N).toArray 5 (0,0)) := blk_new (w.drewN qq) _
   have hB0 : Below w.heap.size w ((w.drewN qq).alloc (.cells (rowL [] N).toArray 5)) := below_alloc (below_drewW w qq) _
   have R0 := Aside0.mk hrow0
   have B0 := Aside0.mk hB0
   have HNN := Aside0.mk (And.intro hNN (And.intro hN (And.intro hk hacc0)))
   clear hrow0 hB0 hc2 hmk hNN hNr hN hk hacc0 hZ1 hZ2 hZ3 hZ4
   have hgl := Aside0.mk (Nat.le_refl w.heap.size)
   go_loopw [11,12,49] (fun v11 v12 v49 wr => ∃ i st j : Nat,i ≤ K ∧ v49 = .int .i64 i ∧ v12 = .int .i64 st ∧ v11 = .int .i64 j ∧ st ≤ n ∧ Aside0 (∃ acc : List Int,j = acc.length ∧ wr.heap[w.heap.size]? = some (.cells (rowL acc N).toArray 5 (0,0)) ∧ acc ++ replI m [x] (K - i) (l.drop st) = replW l m [x] ∧ cntI (l.drop st) m = K - i) ∧ Aside0 (Below w.heap.size w wr)) (fun _ _ i _ => K - (intOf i).toNat)
   case atStart => exact ⟨0,0,0,Nat.zero_le _,rfl,rfl,rfl,Nat.zero_le _,⟨[],rfl,R0.out,by rw [List.drop_zero,Nat.sub_zero,List.nil_append]; exact HNN.out.2.2.2,by rw [List.drop_zero]; exact HNN.out.2.2.1⟩,B0⟩
   case round =>
    obtain ⟨i,st,j,hi,rfl,rfl,rfl,hst,hI,hB⟩ := hrel
    by_cases hlt : i < K
    · obtain ⟨acc,hj,hrow,hacc,hcnt⟩ := hI.out
      obtain ⟨t,ht1,ht2,ht3⟩ := cnt_step (l := l.drop st) (m := m) (k := K - i - 1) (by omega) (by omega)
      rw [List.length_drop,hq,hn] at ht2
      rw [hq] at ht3
      have e1 : replI m [x] (K - i) (l.drop st) = (l.drop st).take t ++ ([x] ++ replI m [x] (K - i - 1) ((l.drop st).drop (t + q))) := by rw [show K - i = (K - i - 1) + 1 by omega,replI,ht1,Int.toNat_natCast,hq,Nat.add_sub_cancel]
      have hjN : j + (t + 1) ≤ N := by
       have := congrArg List.length hacc
       rw [HNN.out.2.1,e1,List.length_append,List.length_append,List.length_append,List.length_take,List.length_drop,hn,Nat.min_eq_left (by omega)] at this
       simp only [List.length_cons,List.length_nil] at this
       omega
      have hidx : Calls Tryd.prog 17 #[.slice (some ⟨blk,off + st,none⟩) (n - st) (c - st),.slice (some ⟨b2,o2,none⟩) q c2] wr fun e w' => e = .returned (.int .i64 (t : Int)) ∧ ∃ q',w' = wr.drewN q' := by
       have hz' : wr.cell? _ = _ := (cell_below hB.out (World.block_lt_of_cell? _ _ hz2)).1.trans hz2
       have := Any.bytes_Index_at { Tryd.layBIndex with } ⟨blk,off + st,none⟩ ⟨b2,o2,none⟩ (n - st) (c - st) q c2 (l.drop st) m z wr (by rw [List.length_drop,hn]) hq (fun y hy => byteB_all hb1 y (List.mem_of_mem_drop hy)) (byteB_all hb2) (fun a ha => ((H1.out.drop st).below hB.out).add a (by rw [List.length_drop,hn]; exact ha)) (fun a ha => (H2.out.below hB.out).add a (by rw [hq]; exact ha)) (by omega) (by omega) (by omega) hz'
       rwa [show Lib.index (Lib.bytesOf (l.drop st)) (Lib.bytesOf m) = bIndexW (l.drop st) m from rfl,ht1] at this
      have hcst : ¬ c = st := by omega
      have hjle : j ≤ N := by omega
      have hjne : ¬ N = j := by omega
      obtain ⟨e,he⟩ : ∃ e,e = st + t := ⟨_,rfl⟩
      have he1 : (st : Int) + (t : Int) = (e : Int) := by omega
      have he2 : st ≤ e := by omega
      have he3 : e ≤ c := by omega
      have HE := Aside0.mk (show t = e - st by omega)
      clear he
      obtain ⟨f,hf⟩ : ∃ f,f = j + t := ⟨_,rfl⟩
      have hf1 : (j : Int) + (t : Int) = (f : Int) := by omega
      have hf2 : f + 1 ≤ N := by omega
      obtain ⟨u,hu⟩ : ∃ u,u = (l.drop st).take t := ⟨_,rfl⟩
      obtain ⟨cs1,hc1⟩ : ∃ cs1,cs1 = ints8 u := ⟨_,rfl⟩
      obtain ⟨row1,hr1⟩ : ∃ row1,row1 = rowL acc N := ⟨_,rfl⟩
      have hL : cs1.length = t := by rw [hc1,hu]; unfold ints8; rw [List.length_map,List.length_take,List.length_drop,hn]; omega
      have HF := Aside0.mk (show j + cs1.length ≤ row1.length by rw [hL,hr1,rowL_length _ _ (by rw [← hj]; omega)]; omega)
      have HN := Aside0.mk (show cs1.length = Nat.min (e - st) (N - j) by rw [hL,HE.out]; exact (Nat.min_eq_left (by omega)).symm)
      have HO := Aside0.mk (show ∀ v ∈ cs1,v.oneCell' = true by rw [hc1]; exact ints_one _)
      rw [← hr1] at hrow
      have rowD := Aside0.mk (fun q => (show (wr.drewN q).heap[w.heap.size]? = some (.cells row1.toArray 5 (0,0)) from hrow))
      have belD := Aside0.mk (fun q => pw_below_drewN hB.out q)
      have src1 := Aside0.mk (fun q => (H1.out.below (pw_below_drewN hB.out q)).src st t)
      rw [← hu,← hc1] at src1
      have src2 := Aside0.mk (fun W (hW : Below w.heap.size w W) => (H3.out.below hW).src 0 1)
      have HX := Aside0.mk (And.intro hj (And.intro hf (And.intro hacc (And.intro ht3 (And.intro e1 (And.intro hu (And.intro hc1 hr1)))))))
      clear hrow hacc ht3 e1 hcnt ht1 hj hf hu hc1 hr1
      go_wp2_with (go_at_call 17; refine hidx.mono ?_; rintro e w' ⟨rfl,q',hw⟩; rw [hw])
      go_region_law (refine step_copy_splice (w := wr.drewN (q' + 1)) (by rfl) (.tmp 61) (.tmp 65) 22 22 (by rfl) 5 Tryd.underlying22 size8 (some ⟨w.heap.size,j,none⟩) (some ⟨blk,off + st,none⟩) (N - j) (N - j) (e - st) (c - st) (by simp [Act.eval,Act.put]) (by simp [Act.eval,Act.put]) w.heap.size j row1 5 (rowD.out (q' + 1)) cs1 HN.out (fun _ => ⟨rfl,_,rfl,src1.out (q' + 1)⟩) HF.out HO.out w.heap.size w (belD.out (q' + 1)) hgl.out ?_; intro w4 hg4 hb4)
      obtain ⟨row2,hr2⟩ : ∃ row2,row2 = rowL (acc ++ u) N := ⟨_,rfl⟩
      have hput : splice row1 j cs1 = row2 := by
       rw [hr2,HX.out.2.2.2.2.2.2.2,HX.out.2.2.2.2.2.2.1,HX.out.1]
       exact rowL_put acc u N (by rw [← HX.out.1]; have := hL; rw [HX.out.2.2.2.2.2.2.1] at this; unfold ints8 at this; rw [List.length_map] at this; omega)
      rw [hput] at hg4
      have hul : u.length = t := by have := hL; rw [HX.out.2.2.2.2.2.2.1] at this; unfold ints8 at this; rw [List.length_map] at this; exact this
      have HR := Aside0.mk (And.intro hr2 hul)
      have HF2 := Aside0.mk (show f + [Value.int .u8 x].length ≤ row2.length by rw [hr2,rowL_length _ _ (by rw [List.length_append,← HX.out.1,hul]; omega)]; simp; omega)
      have s3 := Aside0.mk (show ∀ (j : Nat) v,[Value.int .u8 x][j]? = some v → w4.cell? ((⟨b3,o3,none⟩ : Addr).add j) = some v from src2.out w4 hb4)
      have HN2 := Aside0.mk (show [Value.int .u8 x].length = Nat.min 1 (N - f) by show 1 = min 1 (N - f); omega)
      have hfle : f ≤ N := by omega
      have hfne : ¬ N = f := by omega
      obtain ⟨w5,hcp,hg5,hb5⟩ : ∃ w5,(Builtin.copy_ #[22,22] 3 #[.slice (some ⟨w.heap.size,f,none⟩) (N - f) (N - f),.slice (some ⟨b3,o3,none⟩) 1 c3]).run Tryd.prog w4 = .ok (.int .i64 1) w5 ∧ Aside0 (w5.heap[w.heap.size]? = some (.cells (splice row2 f [Value.int .u8 x]).toArray 5 (0,0))) ∧ Aside0 (Below w.heap.size w w5) :=
       ⟨_,run_copy_row (P := Tryd.prog) w4 22 22 3 5 w.heap.size f (N - f) (N - f) ⟨b3,o3,none⟩ 1 c3 row2.toArray 5 [Value.int .u8 x] Tryd.underlying22 size8 hg4.out HN2.out s3.out (by simpa using HF2.out) (ints_one [x]),⟨by simpa [splice] using setRow_heap w4 w.heap.size row2.toArray _ 5 _ hg4.out⟩,⟨below_setRow hb4 hgl.out _⟩⟩
      clear hr2 hul hput
      go_wp2
      have x1 : f + 1 = (acc ++ (u ++ [x])).length := by rw [HX.out.2.1,HX.out.1,← HR.out.2]; simp; omega
      have x2 : w5.heap[w.heap.size]? = some (.cells (rowL (acc ++ (u ++ [x])) N).toArray 5 (0,0)) := by
       have p := rowL_put (acc ++ u) [x] N (by rw [List.length_append,← HX.out.1,HR.out.2,List.length_singleton]; omega)
       rw [List.append_assoc,List.length_append,← HX.out.1,HR.out.2,← HX.out.2.1] at p
       rw [← p,← HR.out.1]
       exact hg5.out
      have x3 : (l.drop st).drop (t + q) = l.drop (e + q) := by rw [List.drop_drop]; congr 1; have := HE.out; omega
      have x4 : (acc ++ (u ++ [x])) ++ replI m [x] (K - (i + 1)) (l.drop (e + q)) = replW l m [x] := by
       rw [← HX.out.2.2.1,HX.out.2.2.2.2.1,x3,← HX.out.2.2.2.2.2.1,show K - (i + 1) = K - i - 1 by omega]
       simp only [List.append_assoc]
      have x5 : cntI (l.drop (e + q)) m = K - (i + 1) := by rw [← x3,HX.out.2.2.2.1]; omega
      refine ⟨⟨i + 1,e + q,f + 1,by omega,congrArg (Value.int .i64) (by omega),congrArg (Value.int .i64) (by omega),congrArg (Value.int .i64) (by omega),by have := HE.out; omega,⟨acc ++ (u ++ [x]),x1,x2,x4,x5⟩,hb5⟩,by simp [intOf]; omega⟩
    · obtain ⟨acc,hj,hrow,hacc,hcnt⟩ := hI.out
      have hiK : i = K := by omega
      subst hiK
      rw [Nat.sub_self,replI] at hacc
      have hlen : j + (n - st) = N := by
       have := congrArg List.length hacc
       rw [HNN.out.2.1,List.length_append,List.length_drop,hn,← hj] at this
       exact this
      have fin : ∀ W : World,W.heap[w.heap.size]? = some (.cells (ints8 (replW l m [x])).toArray 5 (0,0)) → CellsAt W w.heap.size 0 (replW l m [x]) := fun W hW a ha => by
       rw [Nat.zero_add,blk_cell hW a,List.getElem?_toArray]
       unfold ints8
       rw [List.getElem?_map,List.getElem?_eq_getElem ha,List.getD_eq_getElem?_getD,List.getElem?_eq_getElem ha]
       rfl
      have FIN := Aside0.mk fin
      have rowD := Aside0.mk (fun q => (show (wr.drewN q).heap[w.heap.size]? = some (.cells (rowL acc N).toArray 5 (0,0)) from hrow))
      have belD := Aside0.mk (fun q => pw_below_drewN hB.out q)
      have src1 := Aside0.mk (fun q => (H1.out.below (pw_below_drewN hB.out q)).src st (n - st))
      obtain ⟨row1,hr1⟩ : ∃ row1,row1 = rowL acc N := ⟨_,rfl⟩
      obtain ⟨cs1,hc1⟩ : ∃ cs1,cs1 = ints8 ((l.drop st).take (n - st)) := ⟨_,rfl⟩
      rw [← hr1] at rowD
      rw [← hc1] at src1
      have hL : cs1.length = n - st := by rw [hc1]; unfold ints8; rw [List.length_map,List.length_take,List.length_drop,hn]; omega
      have hall : splice row1 j cs1 = ints8 (replW l m [x]) := by
       rw [hr1,hc1,hj]
       have p := rowL_put acc ((l.drop st).take (n - st)) N (by rw [← hj,List.length_take,List.length_drop,hn]; omega)
       rw [p,List.take_of_length_le (by rw [List.length_drop,hn]; exact Nat.le_refl _),hacc]
       unfold rowL
       rw [HNN.out.2.1,Nat.sub_self]
       simp
      have HA := Aside0.mk (And.intro hall hL)
      by_cases h0 : st = n
      · subst h0
        obtain rfl : j = N := by omega
        have hcp0 : ∀ (W : World) (d a : Option Addr) (dl dc cc : Nat),(Builtin.copy_ #[22,22] 3 #[.slice d dl dc,.slice a 0 cc]).run Tryd.prog W = .ok (goInt 0) W := fun W d a dl dc cc => run_copy_none (P := Tryd.prog) W 22 22 3 5 d a dl dc 0 cc Tryd.underlying22 size8 (by simp)
        have hfull : Aside0 (row1 = ints8 (replW l m [x])) := ⟨by
         rw [Nat.sub_self,List.drop_of_length_le (by omega)] at hc1
         have : cs1 = [] := by rw [hc1]; rfl
         rw [← hall,this]
         simp [splice]⟩
        clear hrow hacc hcnt hj hr1 hc1 fin hall
        by_cases hcn : c = st
        · subst hcn
          go_wp2
          go_quiet (fail)
          go_wp2
          go_ret
          exact ⟨⟨w.heap.size,j,by first | rfl | simp,Nat.le_refl _,Nat.le_refl _,FIN.out _ (by rw [← hfull.out]; exact rowD.out _)⟩,belD.out _⟩
        · go_wp2
          go_quiet (fail)
          go_wp2
          go_ret
          exact ⟨⟨w.heap.size,j,by first | rfl | simp,Nat.le_refl _,Nat.le_refl _,FIN.out _ (by rw [← hfull.out]; exact rowD.out _)⟩,belD.out _⟩
      · have hcst : ¬ c = st := by omega
        have hjle : j ≤ N := by omega
        have hjne : ¬ N = j := by omega
        have hjs : (j : Int) + ((n - st : Nat) : Int) = (N : Int) := by omega
        have HF := Aside0.mk (show j + cs1.length ≤ row1.length by rw [hL,hr1,rowL_length _ _ (by rw [← hj]; omega)]; omega)
        have HN := Aside0.mk (show cs1.length = Nat.min (n - st) (N - j) by rw [hL]; show n - st = min (n - st) (N - j); omega)
        have HO := Aside0.mk (show ∀ v ∈ cs1,v.oneCell' = true by rw [hc1]; exact ints_one _)
        clear hrow hacc hcnt hj hr1 hc1 fin hall
        go_wp2
        go_region_law (refine step_copy_splice (w := wr.drew) (by rfl) (.tmp 123) (.tmp 126) 22 22 (by rfl) 5 Tryd.underlying22 size8 (some ⟨w.heap.size,j,none⟩) (some ⟨blk,off + st,none⟩) (N - j) (N - j) (n - st) (c - st) (by simp [Act.eval,Act.put]) (by simp [Act.eval,Act.put]) w.heap.size j row1 5 (rowD.out 1) cs1 HN.out (fun _ => ⟨rfl,_,rfl,src1.out 1⟩) HF.out HO.out w.heap.size w (belD.out 1) hgl.out ?_; intro w4 hg4 hb4)
        go_wp2
        go_ret
        exact ⟨⟨w.heap.size,N,by first | rfl | simp,Nat.le_refl _,Nat.le_refl _,FIN.out w4 (by rw [← HA.out.1]; exact hg4.out)⟩,hb4⟩
/-- A new slice of these bytes, or nil. -/
def NewOf (w w' : World) (l : List Int) (v : Value) : Prop := (v = .slice none 0 0 ∧ l = []) ∨ ∃ g cap,v = .slice (some ⟨g,0,none⟩) l.length cap ∧ w.heap.size ≤ g ∧ l.length ≤ cap ∧ CellsAt w' g 0 l
theorem byte_info : ∃ i8,Tryd.prog.info? 5 = some i8 ∧ i8.zero = some (.int .u8 0) ∧ i8.size = 1 ∧ i8.bytes = 1 := by
 have h : (Tryd.prog.info? 5).map (fun i => (i.zero,i.size,i.bytes)) = some (some (.int .u8 0),1,1) := by kernel_rfl
 obtain ⟨i,h1,h2⟩ := Option.map_eq_some_iff.1 h
 simp only [Prod.mk.injEq] at h2
 exact ⟨i,h1,h2.1,h2.2.1,h2.2.2⟩
set_option maxHeartbeats 2000000 in
set_option maxRecDepth 100000 in
theorem repl_none (p : Option Addr) (n c : Nat) (l m r : List Int) (b2 o2 c2 : Nat) (v3 : Value) (w : World) (hn : l.length = n) (hnc : n ≤ c) (hs : n < 4294967281) (h1 : Lib.BytesIn w p n l) (hb1 : byteB l = true) (hp : p = none → c = 0)
 (hc : Calls Tryd.prog 57 #[.slice p n c,.slice (some ⟨b2,o2,none⟩) m.length c2] w fun e w' => e = .returned (.int .i64 0) ∧ ∃ q,w' = w.drewN q) :
 Calls Tryd.prog 48 #[.slice p n c,.slice (some ⟨b2,o2,none⟩) m.length c2,v3,.int .i64 (-1)] w fun e w' => (∃ v,e = .returned v ∧ NewOf w w' l v) ∧ Below w.heap.size w w' := by
 have H1 := Aside0.mk h1
 clear h1
 cases p with
 | none =>
  obtain rfl := hp rfl
  obtain rfl : n = 0 := by omega
  go_enter Tryd.func48,Tryd.ntmps48
  go_wp2_with (go_at_call 57; refine hc.mono ?_; rintro e w' ⟨rfl,qq,hw⟩; rw [hw])
  go_ret
  exact ⟨⟨_,by first | rfl | simp,.inl ⟨rfl,List.eq_nil_of_length_eq_zero hn⟩⟩,below_drewW _ _⟩
 | some a =>
  have hsrc : Aside0 (∀ q (j : Nat) u,(ints8 l)[j]? = some u → (w.drewN q).cell? (a.add j) = some u) := ⟨fun q j u hj => by
   have hlt : j < l.length := by have := (List.getElem?_eq_some_iff.1 hj).1; unfold ints8 at this; rwa [List.length_map] at this
   obtain ⟨b,o,e1,e2⟩ := H1.out.at (by omega : 0 < n)
   obtain rfl := Option.some.inj e1
   have := e2 j (by omega)
   unfold ints8 at hj
   rw [List.getElem?_map,List.getElem?_eq_getElem hlt] at hj
   obtain rfl := Option.some.inj hj
   rw [List.getD_eq_getElem?_getD,List.getElem?_eq_getElem hlt] at this
   rw [Lib.addr_add]
   exact this⟩
  obtain ⟨i8,hi8,hi8z,hi8s,hi8b⟩ := byte_info
  go_enter Tryd.func48,Tryd.ntmps48
  go_wp2_with (first | (go_at_call 57; refine hc.mono ?_; rintro e w' ⟨rfl,qq,hw⟩; rw [hw]) | (at_builtin; refine wpList_append_own_at (P := Tryd.prog) _ (by rfl) (.const (.slice none 0 0)) (.tmp 24) 22 (by rfl) w.heap.size 5 i8 (.int .u8 0) 1 1 Tryd.underlying22 hi8 hi8z hi8s hi8b rfl (by decide) (.slice none 0 0) 0 [] (by rfl) (World.ownsRow_nil _ _ _ _) a n c (ints8 l) (by rfl) (by unfold ints8; rw [List.length_map]; omega) (hsrc.out qq) (ints_one l) (by simp only [maxLen]; omega) (by omega) (Nat.le_refl _) ?_; intro v2 w2 hown hgr hnil hat))
  go_ret
  refine ⟨⟨v2,by first | rfl | simp,?_⟩,⟨hgr.os,hgr.tape,hgr.output,hgr.size,fun k hk => hgr.block k hk (by simp [Value.ownBlock])⟩⟩
  rcases hown.2 with ⟨rfl,h0⟩ | ⟨g,cap,cur,rfl,hg,hcur,hnc2,_,hsz,htk⟩
  · exact .inl ⟨rfl,List.eq_nil_of_length_eq_zero (by omega)⟩
  · refine .inr ⟨g,cap,by rw [Nat.zero_add,hn],hg,by omega,fun j hj => ?_⟩
    rw [Nat.zero_add,blk_cell hcur j]
    have e := congrArg (·[j]?) htk
    simp only [List.nil_append] at e
    rw [List.getElem?_take,if_pos (by omega),Array.getElem?_toList] at e
    rw [e]
    unfold ints8
    rw [List.getElem?_map,List.getElem?_eq_getElem hj,List.getD_eq_getElem?_getD,List.getElem?_eq_getElem hj]
    rfl
section
variable {U : Nat → Type} {C : Codec U}
theorem newOf_rel {g : Gh} {w w' : World} {l : List Int} {v : Value} (h : NewOf w w' l v) : RelV C (g.grow w w') (.sl (.int .u8) l .no) v := by
 rcases h with ⟨rfl,rfl⟩ | ⟨b,cap,rfl,h1,h2,h3⟩
 · exact .sl0 rfl
 · refine .sl (vs := l.map (Value.int .u8)) (RelVs.ofNums _) (fun j v hv => grow_new h1 ?_) h2 trivial
   have hlt : j < l.length := by have := (List.getElem?_eq_some_iff.1 hv).1; rwa [List.length_map] at this
   rw [h3 j hlt,List.getD_eq_getElem?_getD,List.getElem?_eq_getElem hlt]
   rw [List.getElem?_map,List.getElem?_eq_getElem hlt] at hv
   exact hv
theorem cnt_nil {m : List Int} (h : 0 < m.length) : cntI [] m = 0 := by
 unfold cntI
 refine Lib.count_miss ?_
 cases m with
 | nil => exact absurd h (Nat.lt_irrefl 0)
 | cons a r => rfl
def replF : List (AVal U) → Option (AVal U)
 | [.sl (.int .u8) l _,.sl (.int .u8) m _,.sl (.int .u8) r _,.int .i64 n] => if (n = -1 ∧ byteB l = true ∧ byteB m = true) ∧ (l.length < 4294967281 ∧ 1 ≤ m.length ∧ m.length ≤ 2 ∧ r.length = 1) then some (.sl (.int .u8) (replW l m r) .no) else none
 | _ => none
theorem repl_ok : CallOk (R := Rr U) Tryd.prog C 48 (asExt replF) := by
 refine callOk_ext fun args v h g w cs ha hi hw => ?_
 unfold replF at h
 split at h
 · rename_i l _ m _ r _ n
   split at h
   · rename_i hs
     obtain rfl := Option.some.inj h
     obtain ⟨⟨rfl,hb1,hb2⟩,h1,h2,h3,h4⟩ := hs
     obtain ⟨x,rfl⟩ := List.length_eq_one_iff.1 h4
     obtain ⟨w0,hw1,hw2⟩ := hw
     obtain ⟨z,hz⟩ := (Tryd.layBIndex).s1_3 w0 hw2.2
     have hlt := World.block_lt_of_cell? _ _ hz
     have hz' : w.cell? _ = _ := (cell_below hw1 hlt).1.trans hz
     cases ha with
     | cons ha1 ha =>
     cases ha with
     | cons ha2 ha =>
     cases ha with
     | cons ha3 ha =>
     cases ha with
     | cons ha4 ha =>
     cases ha
     cases ha4
     cases ha2 with
     | sl0 => exact absurd h2 (by simp)
     | sle => exact absurd h2 (by simp)
     | sl hs2 hm2 hl2 hp2 =>
     cases ha3 with
     | sl hs3 hm3 hl3 hp3 =>
     rename_i b2 o2 c2 vs2 b3 o3 c3 vs3
     have hc2 : CellsAt w b2 o2 m := fun i hl => by have := bytes_at hs2 hm2 hi i hl; rwa [Lib.addr_add] at this
     have hc3 : CellsAt w b3 o3 [x] := fun i hl => by have := bytes_at hs3 hm3 hi i hl; rwa [Lib.addr_add] at this
     have h0 := hc2 0 (by omega)
     have none (p : Option Addr) (c : Nat) (hnc : l.length ≤ c) (hx : Lib.BytesIn w p l.length l) (hp : p = none → c = 0) (hk : cntI l m = 0) (hc : Calls Tryd.prog 57 #[.slice p l.length c,.slice (some ⟨b2,o2,none⟩) m.length c2] w fun e w' => e = .returned (.int .i64 0) ∧ ∃ q,w' = w.drewN q) :
      Calls Tryd.prog 48 #[.slice p l.length c,.slice (some ⟨b2,o2,none⟩) m.length c2,.slice (some ⟨b3,o3,none⟩) 1 c3,.int .i64 (-1)] w fun e w' => ∃ c,e = .returned c ∧ RowKit.Below w.heap.size w w' ∧ RelV C (g.grow w w') (.sl (.int .u8) (replW l m [x]) .no) c := by
      refine (repl_none p l.length c l m [x] b2 o2 c2 _ w rfl hnc h1 hx hb1 hp hc).mono fun e w' ⟨⟨v,h5,h6⟩,h7⟩ => ⟨v,h5,h7,?_⟩
      have e : replW l m [x] = l := by unfold replW; rw [hk]; rfl
      rw [e]
      exact newOf_rel h6
     cases ha1 with
     | sl0 => exact none Option.none 0 (Nat.zero_le _) (fun h => absurd h (Nat.lt_irrefl 0)) (fun _ => rfl) (cnt_nil (by omega)) ((Any.bytes_Count_nil_any Tryd.layBCount _ m.length c2 w h2 (by omega) (fun _ => ⟨_,_,_,rfl,h0⟩)).mono fun e w' ⟨h5,h6⟩ => ⟨h5,0,h6⟩)
     | sle =>
      rename_i a hz0
      refine none (some a) 0 (Nat.zero_le _) (fun h => absurd h (Nat.lt_irrefl 0)) (fun h => by cases h) (cnt_nil (by omega)) ?_
      have := Any.bytes_Count_any Tryd.layBCount a ⟨b2,o2,Option.none⟩ 0 0 m.length c2 [] m z w rfl rfl (fun y hy => by cases hy) (byteB_all hb2) (fun i hi => absurd hi (Nat.not_lt_zero i)) hc2.add (Nat.le_refl _) (by decide) (by omega) h2 hz'
      rw [show Lib.count (Lib.bytesOf []) (Lib.bytesOf m) = 0 from cnt_nil (by omega)] at this
      exact this
     | sl hs1 hm1 hl1 hp1 =>
      rename_i blk off cap vs
      have hc1 : CellsAt w blk off l := fun i hl => by have := bytes_at hs1 hm1 hi i hl; rwa [Lib.addr_add] at this
      cases hk : cntI l m with
      | zero =>
       refine none (some ⟨blk,off,Option.none⟩) cap hl1 (Lib.BytesIn.of_cells hc1.add) (fun h => by cases h) hk ?_
       have := Any.bytes_Count_any Tryd.layBCount ⟨blk,off,Option.none⟩ ⟨b2,o2,Option.none⟩ l.length cap m.length c2 l m z w rfl rfl (byteB_all hb1) (byteB_all hb2) hc1.add hc2.add hl1 h1 (by omega) h2 hz'
       rw [show Lib.count (Lib.bytesOf l) (Lib.bytesOf m) = 0 from hk] at this
       exact this
      | succ k =>
       refine (repl_walk blk off l.length cap l m x b2 o2 c2 b3 o3 c3 w rfl hl1 h1 hc1 hb1 hb2 h2 h3 hc2 hc3 hl2 z hz' hz' (k + 1) hk (Nat.succ_pos k)).mono fun e w' ⟨⟨b,c,h5,h6,h7,h8⟩,h9⟩ => ⟨_,h5,h9,newOf_rel (.inr ⟨b,c,rfl,h6,h7,h8⟩)⟩
   · cases h
 · cases h
def replS {R : Type} : List (AVal U) → St U → (Res U → St U → Option R) → Option R := fun args st K => match args with
 | [.sl (.int .u8) l _,.sl (.int .u8) m _,.sl (.int .u8) r _,.int .i64 n] => if (n = -1 ∧ byteB l = true ∧ byteB m = true) ∧ (l.length < 4294967281 ∧ 1 ≤ m.length ∧ m.length ≤ 2 ∧ r.length = 1) then K (.ret (.sl (.int .u8) (replW l m r) .no)) st else none
 | _ => none
theorem replS_ok : CallOkL (R := Rr U) Tryd.prog C 48 replS := callOk_by repl_ok fun args st K r h => by
 unfold replS at h
 unfold asExt replF
 split at h
 · split at h
   · rename_i h1
     rw [if_pos h1]; exact h
   · cases h
 · cases h
end
end Go.Proofs.YtccfmfifnbnlmaaDoor.Ev
end
section
/- What the lists of functions share: words of functions, contexts, rounds. -/
set_option linter.unusedVariables false
namespace Go.Proofs.YtccfmfifnbnlmaaDoor.Ev
open Go
abbrev W : Ty := .pair (.int .i64) (.pair .str (.int .i64))
abbrev Spec := List (AVal U0) → St U0 → (Res U0 → St U0 → Option (Rr U0)) → Option (Rr U0)
abbrev SpecL := List (FuncId × Bool × Spec)
def extL : List (FuncId × Bool × Spec) → FuncId → Option (Bool × Spec)
 | [],_ => none
 | s :: r,f => match Nat.beq s.1 f with
  | true => some s.2
  | false => extL r f
noncomputable def cxOf (l : List (FuncId × Bool × Spec)) : Cx U0 (Rr U0) := ⟨TT U0,FT,extL l,live0,C0,eqs0⟩
open Classical in
/-- What a function with so many rounds at most comes to. -/
noncomputable def lim {α : Type} (X : Nat → Option α) : Option α := if h : ∃ k v,k ≤ 16000000 ∧ X k = some v then X h.choose else none
def specs_lib0 : List (FuncId × Bool × Spec) := [(66,false,indexByteS),(46,false,runeS),(17,false,bIndexS),(26,false,bIndexByteS),(49,false,bTrimS),(48,false,replS)]
end Go.Proofs.YtccfmfifnbnlmaaDoor.Ev
end
section
/- How the evaluator's trees are the functions that were printed: what both proofs share. -/
set_option linter.unusedVariables false
namespace Go.Proofs.YtccfmfifnbnlmaaDoor.Ev
open Go Go.RowKit Go.Proofs.YtccfmfifnbnlmaaDoorW.PrintWords

theorem seq_list (x y : ByteArray) : (seq x y = true) = (x.toList = y.toList) := by
  rw [ByteArray.toList_eq, ByteArray.toList_eq]
  unfold seq
  simp
theorem seq_false (x y : ByteArray) : (seq x y = false) = ¬ (x.toList = y.toList) := by
  rw [← seq_list]
  cases seq x y <;> simp
theorem ba_list (l : List UInt8) : (ByteArray.mk ⟨l⟩).toList = l := by rw [ByteArray.toList_eq]
theorem ite_or (c : Prop) [Decidable c] (b : Bool) : ((if c then true else b) = true) = (c ∨ b = true) := by by_cases h : c <;> simp [h]
theorem ite_and (c : Prop) [Decidable c] (b : Bool) : ((if c then b else false) = true) = (c ∧ b = true) := by by_cases h : c <;> simp [h]
theorem wrap_64 (x : Int) : IntKind.i64.wrap x = wrap64 x := by
  unfold wrap64; exact IntKind.wrap_i64 x
theorem bt_eq (s : ByteArray) (i : Int) : Ev.bt s i = Go.Proofs.YtccfmfifnbnlmaaDoorW.PrintWords.bt s i := rfl
theorem toBytes_len (s : ByteArray) : (toBytes s).length = s.size := by
  unfold toBytes
  rw [List.length_map, Array.length_toList]
  rfl
theorem wrap_8 (x : Int) : IntKind.u8.wrap x = x % 256 := IntKind.wrap_u8 x
theorem wrap_u64_mod (x : Int) : IntKind.u64.wrap (x % 256) = x % 256 := by
  rw [IntKind.wrap_u64]; omega
theorem ofBytes_eq (l : List Int) : ofBytes l = strOfNums l := rfl
theorem false_or_b (b : Bool) : ((if false = true then true else b) = true) = (b = true) := by simp
theorem true_and_b (b : Bool) : ((if true = true then b else false) = true) = (b = true) := by simp
theorem shr_6 (r : Int) : r.fdiv ((2 : Int) ^ min (Int.toNat (6 : Int)) IntKind.i64.bits) = r / 64 := by
  rw [show ((2 : Int) ^ min (Int.toNat (6 : Int)) IntKind.i64.bits) = 64 from by decide]; exact Int.fdiv_eq_ediv_of_nonneg r (by decide)
theorem shr_12 (r : Int) : r.fdiv ((2 : Int) ^ min (Int.toNat (12 : Int)) IntKind.i64.bits) = r / 4096 := by
  rw [show ((2 : Int) ^ min (Int.toNat (12 : Int)) IntKind.i64.bits) = 4096 from by decide]; exact Int.fdiv_eq_ediv_of_nonneg r (by decide)
theorem shr_18 (r : Int) : r.fdiv ((2 : Int) ^ min (Int.toNat (18 : Int)) IntKind.i64.bits) = r / 262144 := by
  rw [show ((2 : Int) ^ min (Int.toNat (18 : Int)) IntKind.i64.bits) = 262144 from by decide]; exact Int.fdiv_eq_ediv_of_nonneg r (by decide)
theorem wrap64_mod (x : Int) : wrap64 (x % 256) = x % 256 := by unfold wrap64; omega
theorem toNat0 : Int.toNat 0 = 0 := rfl
theorem toNat1 : Int.toNat 1 = 1 := rfl
theorem toNat2 : Int.toNat 2 = 2 := rfl
theorem bindE {α β : Type} {o : Option α} {f : α → Option β} {v : β} (h : o.bind f = some v) : ∃ a, o = some a ∧ f a = some v := Option.bind_eq_some_iff.1 h
theorem lim_some {α : Type} {X : Nat → Option α} {v : α} (h : lim X = some v) : ∃ k, k ≤ 16000000 ∧ X k = some v := by
  unfold lim at h
  split at h
  · rename_i q
    obtain ⟨v', h1, h2⟩ := q.choose_spec
    exact ⟨_, h1, h⟩
  · cases h
theorem leO_le {α : Type} {X : Nat → Option α} (hm : ∀ k, LeO (X k) (X (k + 1))) {v : α} : ∀ {d k : Nat}, X k = some v → X (k + d) = some v
  | 0, _, h => h
  | d + 1, k, h => hm (k + d) _ (leO_le hm h)
theorem lim_of {α : Type} {X : Nat → Option α} (hm : ∀ k, LeO (X k) (X (k + 1))) {v : α} {k : Nat} (hk : k ≤ 16000000) (h : X k = some v) : lim X = some v := by
  unfold lim
  have q : ∃ k v, k ≤ 16000000 ∧ X k = some v := ⟨k, v, hk, h⟩
  rw [dif_pos q]
  obtain ⟨v', h1, h2⟩ := q.choose_spec
  generalize q.choose = k' at h1 h2
  have e1 := leO_le hm (d := k') h
  have e2 := leO_le hm (d := k) h2
  rw [Nat.add_comm, e1] at e2
  rw [h2, e2]

def AllOk (l : List (FuncId × Bool × Spec)) : Prop := ∀ x ∈ l, FnOk Tryd.prog x.1 ∧ CallOkL Tryd.prog C0 x.1 x.2.2
theorem extL_ok : ∀ {l : List (FuncId × Bool × Spec)}, AllOk l → ∀ f s, extL l f = some s → FnOk Tryd.prog f ∧ CallOkL Tryd.prog C0 f s.2
  | [], _, f, s, h => by cases h
  | x :: r, ha, f, s, h => by
    unfold extL at h
    cases e : Nat.beq x.1 f with
    | true =>
      rw [e] at h
      obtain rfl := Option.some.inj h
      rw [← Nat.eq_of_beq_eq_true e]
      exact ha x (List.mem_cons_self ..)
    | false =>
      rw [e] at h
      exact extL_ok (fun y hy => ha y (List.mem_cons_of_mem _ hy)) f s h

theorem funcs_find {f : FuncId} {fn : Func} (h : FT f = some fn) : Tryd.prog.funcs[f]? = some fn ∧ (fn.name == "runtime.NumGoroutine") = false := ft_ok ft_holds f fn h

theorem ok_ext (e : FuncId → Option (Bool × Spec)) : Ok Tryd.prog (⟨TT U0, FT, e, live0, C0, eqs0⟩ : Cx U0 (Rr U0)) where
  tt := tt_all tt_holds
  codec := codecOf_ok shapes
  eqs := eqs_ok eqs_holds
  ft := fun f fn h => funcs_find h
  mixed := by kernel_rfl

theorem cok_of {l : List (FuncId × Bool × Spec)} (h : AllOk l) : Calls.Ok Tryd.prog (cxOf l) noCalls := noCalls_ok fun f s hs => extL_ok h f s hs

theorem fnOk_of {f : FuncId} (h : ((FT f).bind (·.body)).isSome = true) : FnOk Tryd.prog f := by
  cases e : FT f with
  | none => rw [e] at h; cases h
  | some fn =>
    rw [e] at h
    obtain ⟨h1, h2⟩ := funcs_find e
    exact ⟨fn, h1, h2, h⟩

theorem lib_ok0 : AllOk specs_lib0 := by
  intro x hx
  unfold specs_lib0 at hx
  simp only [List.mem_cons, List.not_mem_nil, or_false] at hx
  rcases hx with rfl | rfl | rfl | rfl | rfl | rfl
  · exact ⟨fnOk_of (by kernel_rfl), indexByteS_ok⟩
  · exact ⟨fnOk_of (by kernel_rfl), runeS_ok⟩
  · exact ⟨fnOk_of (by kernel_rfl), bIndexS_ok⟩
  · exact ⟨fnOk_of (by kernel_rfl), bIndexByteS_ok⟩
  · exact ⟨fnOk_of (by kernel_rfl), bTrimS_ok⟩
  · exact ⟨fnOk_of (by kernel_rfl), replS_ok⟩

theorem allOk_cons {f : FuncId} {kp : Bool} {S : Spec} {l : List (FuncId × Bool × Spec)} (h : AllOk l) (h1 : FnOk Tryd.prog f) (h2 : CallOkL Tryd.prog C0 f S) : AllOk ((f, kp, S) :: l) := by
  intro x hx
  rcases List.mem_cons.1 hx with rfl | hx
  · exact ⟨h1, h2⟩
  · exact h x hx
/-! ### a function's proof in few words -/
theorem okG {F : Nat → Option (Rr U0)} {K : Res U0 → St U0 → Option (Rr U0)} {a : Res U0} {b : St U0} {r : Rr U0} (h2 : K a b = some r) (e : ∃ m, F m = some (a, b)) : ∃ m res st', F m = some (res, st') ∧ K res st' = some r := e.elim fun m h => ⟨m, a, b, h, h2⟩
theorem okS {L : List (FuncId × Bool × Spec)} {cx : Cx U0 (Rr U0)} {f : FuncId} {s : Spec} (hc : cxOf L = cx) (p : AllOk L) (hf : ((FT f).bind (·.body)).isSome = true)
    (h : ∀ args cs n K r, s args (lcSt cs n) K = some r → ∃ m res st', callX false (fnF cx noCalls m f) args (lcSt cs n) out = some (res, st') ∧ K res st' = some r) : AllOk ((f, false, s) :: L) := by
  subst hc
  exact allOk_cons p (fnOk_of hf) (sealed_of (kp := false) (ok_ext _) (cok_of p) h)
theorem okSk {L : List (FuncId × Bool × Spec)} {cx : Cx U0 (Rr U0)} {f : FuncId} {s : Spec} (hc : cxOf L = cx) (p : AllOk L) (hf : ((FT f).bind (·.body)).isSome = true)
    (h : ∀ args cs n K r, s args (lcSt cs n) K = some r → ∃ m res st', callX true (fnF cx noCalls m f) args (lcSt cs n) out = some (res, st') ∧ K res st' = some r) : AllOk ((f, true, s) :: L) := by
  subst hc
  exact allOk_cons p (fnOk_of hf) (sealed_of (kp := true) (ok_ext _) (cok_of p) h)
end Go.Proofs.YtccfmfifnbnlmaaDoor.Ev
end
section
/- slices.Clone, at each type; and the words that all lists begin with. -/
set_option linter.unusedVariables false
namespace Go.Proofs.YtccfmfifnbnlmaaDoor.Ev
open Go Go.RowKit
set_option maxRecDepth 100000
def specs_clone : List (FuncId × Bool × Spec) := []
def specs_lib1 : List (FuncId × Bool × Spec) := specs_lib0
theorem lib_ok1 : AllOk specs_lib1 := lib_ok0
def specs_lib : List (FuncId × Bool × Spec) := specs_lib1 ++ specs_clone
theorem lib_ok : AllOk specs_lib := by
 intro x hx
 rcases List.mem_append.1 hx with hx | hx
 · exact lib_ok1 x hx
 · unfold specs_clone at hx
   cases hx
end Go.Proofs.YtccfmfifnbnlmaaDoor.Ev
end
section
/- What is known of each function: its word; and the contexts in which it is reckoned. -/
-- prev lib
set_option linter.unusedVariables false
namespace Go.Proofs.YtccfmfifnbnlmaaDoor.Ev
open Go
noncomputable def cx_chars_Decode := cxOf specs_lib
noncomputable def chars_Decode.spec : Spec := fun args st K => match args,st.box,st.nt with
 | [.sl (.int .u8) b .no],[],0 => (Q.chars_Decode.f b).bind fun v => K (.ret (.tup [.int .i64 v.1,.int .i64 v.2])) (lcRet [] [] 0)
 | _,_,_ => none
noncomputable def specs_chars_Decode : SpecL := (32,false,chars_Decode.spec) :: specs_lib
noncomputable def cx_chars_in := cxOf specs_chars_Decode
noncomputable def chars_in.spec : Spec := fun args st K => match args,st.box,st.nt with
 | [.int .i64 r,.sl (.pair (.int .i64) (.int .i64)) l .no],[],0 => (lim fun k => Q.chars_in.f k r (l.map fun p => ⟨p.1,p.2⟩)).bind fun v => K (.ret (.bool v)) (lcRet [] [] 0)
 | _,_,_ => none
noncomputable def specs_chars_in : SpecL := (47,false,chars_in.spec) :: specs_chars_Decode
noncomputable def cx_chars_ofXML := cxOf specs_chars_in
noncomputable def chars_ofXML.spec : Spec := fun args st K => match args,st.box,st.nt with
 | [.int .i64 r],[],0 => (lim fun k => Q.chars_ofXML.f k r).bind fun v => K (.ret (.bool v)) (lcRet [] [] 0)
 | _,_,_ => none
noncomputable def specs_chars_ofXML : SpecL := (76,false,chars_ofXML.spec) :: specs_chars_in
noncomputable def cx_chars_Wrong := cxOf specs_chars_ofXML
noncomputable def chars_Wrong.spec : Spec := fun args st K => match args,st.box,st.nt with
 | [.sl (.int .u8) b .no],[],0 => (lim fun k => Q.chars_Wrong.f k b).bind fun v => K (.ret (.int .i64 v)) (lcRet [] [] 0)
 | _,_,_ => none
noncomputable def specs_chars_Wrong : SpecL := (67,false,chars_Wrong.spec) :: specs_chars_ofXML
noncomputable def cx_utf8_ValidRune := cxOf specs_chars_Wrong
noncomputable def utf8_ValidRune.spec : Spec := fun args st K => match args,st.box,st.nt with
 | [.int .i32 r],[],0 => (lim fun k => Q.utf8_ValidRune.f k r).bind fun v => K (.ret (.bool v)) (lcRet [] [] 0)
 | _,_,_ => none
noncomputable def specs_utf8_ValidRune : SpecL := (54,false,utf8_ValidRune.spec) :: specs_chars_Wrong
noncomputable def cx_utf8_appendRuneNonASCII := cxOf specs_utf8_ValidRune
noncomputable def utf8_appendRuneNonASCII.spec : Spec := fun args st K => match args,st.box,st.nt with
 | [.sl (.int .u8) [] .exact,.int .i32 r],[],0 => (lim fun k => Q.utf8_appendRuneNonASCII.f k [] r).bind fun v => K (.ret (.sl (.int .u8) (v) (.tok 0))) (lcRet [] [0] 1)
 | _,_,_ => none
noncomputable def specs_utf8_appendRuneNonASCII : SpecL := (68,true,utf8_appendRuneNonASCII.spec) :: specs_utf8_ValidRune
noncomputable def cx_utf8_AppendRune := cxOf specs_utf8_appendRuneNonASCII
noncomputable def utf8_AppendRune.spec : Spec := fun args st K => match args,st.box,st.nt with
 | [.sl (.int .u8) [] .exact,.int .i32 r],[],0 => (lim fun k => Q.utf8_AppendRune.f k [] r).bind fun v => K (.ret (.sl (.int .u8) (v) (.tok 0))) (lcRet [] [0] 1)
 | _,_,_ => none
noncomputable def specs_utf8_AppendRune : SpecL := (55,true,utf8_AppendRune.spec) :: specs_utf8_appendRuneNonASCII
noncomputable def cx_chars_First := cxOf specs_utf8_AppendRune
noncomputable def chars_First.spec : Spec := fun args st K => match args,st.box,st.nt with
 | [.int .i64 r],[],0 => (lim fun k => Q.chars_First.f k r).bind fun v => K (.ret (.bool v)) (lcRet [] [] 0)
 | _,_,_ => none
noncomputable def specs_chars_First : SpecL := (33,false,chars_First.spec) :: specs_utf8_AppendRune
noncomputable def cx_chars_Later := cxOf specs_chars_First
noncomputable def chars_Later.spec : Spec := fun args st K => match args,st.box,st.nt with
 | [.int .i64 r],[],0 => (lim fun k => Q.chars_Later.f k r).bind fun v => K (.ret (.bool v)) (lcRet [] [] 0)
 | _,_,_ => none
noncomputable def specs_chars_Later : SpecL := (34,false,chars_Later.spec) :: specs_chars_First
noncomputable def cx_chars_Space := cxOf specs_chars_Later
noncomputable def chars_Space.spec : Spec := fun args st K => match args,st.box,st.nt with
 | [.int .i64 r],[],0 => (Q.chars_Space.f r).bind fun v => K (.ret (.bool v)) (lcRet [] [] 0)
 | _,_,_ => none
noncomputable def specs_chars_Space : SpecL := (19,false,chars_Space.spec) :: specs_chars_Later
noncomputable def cx_chars_Encode := cxOf specs_chars_Space
noncomputable def chars_Encode.spec : Spec := fun args st K => match args,st.box,st.nt with
 | [.int .i64 r],[],0 => (lim fun k => Q.chars_Encode.f k r).bind fun v => K (.ret (.sl (.int .u8) (v) .no)) (lcRet [] [] 0)
 | _,_,_ => none
noncomputable def specs_chars_Encode : SpecL := (44,false,chars_Encode.spec) :: specs_chars_Space
noncomputable def cx_xmllex_nameOf := cxOf specs_chars_Encode
noncomputable def xmllex_nameOf.spec : Spec := fun args st K => match args,st.box,st.nt with
 | [.sl (.int .u8) b .no],[],0 => (lim fun k => Q.xmllex_nameOf.f k b).bind fun v => K (.ret (.sl (.int .u8) (v) .no)) (lcRet [] [] 0)
 | _,_,_ => none
noncomputable def specs_xmllex_nameOf : SpecL := (18,false,xmllex_nameOf.spec) :: specs_chars_Encode
end Go.Proofs.YtccfmfifnbnlmaaDoor.Ev
end
section
/- What each function comes to, one step of it at a time: the kernel's own reckoning. -/
set_option linter.unusedVariables false
set_option maxRecDepth 100000
namespace Go.Proofs.YtccfmfifnbnlmaaDoor.Ev
open Go Go.RowKit
open Go.IntKind (i64 u8 i32 u64)
theorem chars_Decode.top (n : Nat) (b : List Int) : callX false (fnF cx_chars_Decode noCalls n 32) ([.sl (.int .u8) b .no]) (lcSt [] 0) out = ((Q.utf8_DecodeRune.f b).bind fun v0 => if (if (v0.1 == 65533) = true then decide (v0.2 ≤ 1) else false) = true then some (.ret (.tup [.int .i64 0,.int .i64 0]),lcRet [] [] 0) else some (.ret (.tup [.int .i64 (i64.wrap v0.1),.int .i64 v0.2]),lcRet [] [] 0)) := by kernel_rfl
theorem chars_ofXML.top (n : Nat) (r : Int) : callX false (fnF cx_chars_ofXML noCalls n 76) ([.int .i64 r]) (lcSt [] 0) out = ((lim fun k => Q.chars_in.f k r (List.map (fun p => Q.S79.mk p.1 p.2) [((32 : Int),(55295 : Int)),((9 : Int),(10 : Int)),((13 : Int),(13 : Int)),((57344 : Int),(65533 : Int)),((65536 : Int),(1114111 : Int))])).bind fun v0 => some (.ret (.bool v0),lcRet [] [] 0)) := by kernel_rfl
theorem utf8_ValidRune.top (n : Nat) (r : Int) : callX false (fnF cx_utf8_ValidRune noCalls n 54) ([.int .i32 r]) (lcSt [] 0) out = if (if decide (0 ≤ r) = true then decide (r < 55296) else false) = true then some (.ret (.bool true),lcRet [] [] 0) else if (if decide ((57343 : Int) < r) = true then decide (r ≤ 1114111) else false) = true then some (.ret (.bool true),lcRet [] [] 0) else some (.ret (.bool false),lcRet [] [] 0) := by kernel_rfl
theorem utf8_AppendRune.top (n : Nat) (r : Int) : callX true (fnF cx_utf8_AppendRune noCalls n 55) ([.sl (.int .u8) [] Perm.exact,.int .i32 r]) (lcSt [] 0) out = if decide (IntKind.u32.wrap r ≤ 127) = true then if (0 + [u8.wrap r].length) * 1 ≤ most then some (.ret (.sl (.int .u8) [u8.wrap r] (Perm.tok 0)),lcRet [] ([0]) 1) else none else ((lim fun k => Q.utf8_appendRuneNonASCII.f k [] r).bind fun v0 => some (.ret (.sl (.int .u8) v0 (Perm.tok 0)),lcRet [] ([0]) 1)) := by kernel_rfl
theorem chars_Later.top (n : Nat) (r : Int) : callX false (fnF cx_chars_Later noCalls n 34) ([.int .i64 r]) (lcSt [] 0) out = ((lim fun k => Q.chars_First.f k r).bind fun v0 => if (if v0 = true then true else if (r == 45) = true then true else if (r == 46) = true then true else r == 183) = true then some (.ret (.bool true),lcRet [] [] 0) else ((lim fun k => Q.chars_in.f k r (List.map (fun p => Q.S79.mk p.1 p.2) [((48 : Int),(57 : Int)),((768 : Int),(879 : Int)),((8255 : Int),(8256 : Int))])).bind fun v1 => some (.ret (.bool v1),lcRet [] [] 0))) := by kernel_rfl
theorem chars_Encode.top (n : Nat) (r : Int) : callX false (fnF cx_chars_Encode noCalls n 44) ([.int .i64 r]) (lcSt [] 0) out = if (if decide (r < 0) = true then true else decide (r > 1114111)) = true then some (.ret (.sl (.int .u8) [] .no),lcRet [] [] 0) else ((lim fun k => Q.utf8_ValidRune.f k (i32.wrap r)).bind fun v0 => if (if false = true then true else !v0) = true then some (.ret (.sl (.int .u8) [] .no),lcRet [] [] 0) else ((lim fun k => Q.utf8_AppendRune.f k [] (i32.wrap r)).bind fun v1 => some (.ret (.sl (.int .u8) v1 .no),lcRet [] [] 0))) := by kernel_rfl
noncomputable def chars_in.L0 (n k0 : Nat) (r : Int) (l : List (Int × Int)) (j0 : Int) (j1 : List (Int × Int)) (j2 j3 : Int) : Option (Rr U0) := loopF cx_chars_in noCalls k0 0 ([(0,false),(7,false),(8,false),(9,false)]) ((siteC (Tryd.f47.body.getD .skip) [1,0,1,0]).getD .skip) (siteK cx_chars_in noCalls n [] (Tryd.f47.body.getD .skip) [1,0,1,0] (bodyK cx_chars_in Tryd.f47 (lcSt [] 0) (callK false [] [] (lcSt [] 0) out))) (St.mk [(0,.int .i64 j0),(7,.sl ((Ty.int IntKind.i64).pair (.int .i64)) j1 .no),(8,.int .i64 j2),(9,.int .i64 j3)] [] [] 0 0 0 0 0 47 [] 24)
theorem chars_in.L0_s (n k0 : Nat) (r : Int) (l : List (Int × Int)) (j0 : Int) (j1 : List (Int × Int)) (j2 j3 : Int) : chars_in.L0 n (k0 + 1) r l j0 j1 j2 j3 = if decide (j3 < j2) = true then if 0 ≤ j3 then ((nth j1 j3.toNat).bind fun v0 => if (if decide (v0.1 ≤ j0) = true then decide (j0 ≤ v0.2) else false) = true then some (.ret (.bool true),lcRet [] [] 0) else (chars_in.L0 n k0 r l j0 j1 j2 (i64.wrap (j3 + 1)))) else none else some (.ret (.bool false),lcRet [] [] 0) := by kernel_rfl
theorem chars_in.top (n : Nat) (r : Int) (l : List (Int × Int)) : callX false (fnF cx_chars_in noCalls n 47) ([.int .i64 r,.sl ((Ty.int IntKind.i64).pair (.int .i64)) l .no]) (lcSt [] 0) out = (chars_in.L0 n n r l r l ((↑l.length : Int)) 0) := by kernel_rfl
noncomputable def chars_Wrong.L0 (n k0 : Nat) (b j0 : List Int) (j1 : Int) : Option (Rr U0) := loopF cx_chars_Wrong noCalls k0 0 ([(0,false),(3,false)]) ((siteC (Tryd.f67.body.getD .skip) [1,0,1,0]).getD .skip) (siteK cx_chars_Wrong noCalls n [] (Tryd.f67.body.getD .skip) [1,0,1,0] (bodyK cx_chars_Wrong Tryd.f67 (lcSt [] 0) (callK false [] [] (lcSt [] 0) out))) (St.mk [(0,.sl (.int .u8) j0 .no),(3,.int .i64 j1)] [] [] 0 0 0 0 0 67 [] 28)
theorem chars_Wrong.L0_s (n k0 : Nat) (b j0 : List Int) (j1 : Int) : chars_Wrong.L0 n (k0 + 1) b j0 j1 = if decide (j1 < (↑j0.length : Int)) = true then if 0 ≤ j1 then if j1 ≤ (↑j0.length : Int) then ((Q.chars_Decode.f (List.drop j1.toNat j0)).bind fun v0 => if (v0.2 == 0) = true then some (.ret (.int .i64 j1),lcRet [] [] 0) else ((lim fun k => Q.chars_ofXML.f k v0.1).bind fun v1 => if (if false = true then true else !v1) = true then some (.ret (.int .i64 j1),lcRet [] [] 0) else (chars_Wrong.L0 n k0 b j0 (i64.wrap (j1 + v0.2))))) else none else none else some (.ret (.int .i64 (-1 : Int)),lcRet [] [] 0) := by kernel_rfl
theorem chars_Wrong.top (n : Nat) (b : List Int) : callX false (fnF cx_chars_Wrong noCalls n 67) ([.sl (.int .u8) b .no]) (lcSt [] 0) out = (chars_Wrong.L0 n n b b 0) := by kernel_rfl
theorem utf8_appendRuneNonASCII.top (n : Nat) (r : Int) : callX true (fnF cx_utf8_appendRuneNonASCII noCalls n 68) ([.sl (.int .u8) [] Perm.exact,.int .i32 r]) (lcSt [] 0) out = if decide (IntKind.u32.wrap r ≤ 2047) = true then if (0 + [bits BinOp.or IntKind.u8 (192 : Int) (u8.wrap (r.fdiv ((2 : Int) ^ min (Int.toNat (6 : Int)) IntKind.i32.bits))),bits BinOp.or IntKind.u8 (128 : Int) (bits BinOp.and IntKind.u8 (u8.wrap r) (63 : Int))].length) * 1 ≤ most then some (.ret (.sl (.int .u8) [bits BinOp.or IntKind.u8 (192 : Int) (u8.wrap (r.fdiv ((2 : Int) ^ min (Int.toNat (6 : Int)) IntKind.i32.bits))),bits BinOp.or IntKind.u8 (128 : Int) (bits BinOp.and IntKind.u8 (u8.wrap r) (63 : Int))] (Perm.tok 0)),lcRet [] ([0]) 1) else none else if decide (IntKind.u32.wrap r < 55296) = true then if (0 + [bits BinOp.or IntKind.u8 (224 : Int) (u8.wrap (r.fdiv ((2 : Int) ^ min (Int.toNat (12 : Int)) IntKind.i32.bits))),bits BinOp.or IntKind.u8 (128 : Int) (bits BinOp.and IntKind.u8 (u8.wrap (r.fdiv ((2 : Int) ^ min (Int.toNat (6 : Int)) IntKind.i32.bits))) (63 : Int)),bits BinOp.or IntKind.u8 (128 : Int) (bits BinOp.and IntKind.u8 (u8.wrap r) (63 : Int))].length) * 1 ≤ most then some (.ret (.sl (.int .u8) [bits BinOp.or IntKind.u8 (224 : Int) (u8.wrap (r.fdiv ((2 : Int) ^ min (Int.toNat (12 : Int)) IntKind.i32.bits))),bits BinOp.or IntKind.u8 (128 : Int) (bits BinOp.and IntKind.u8 (u8.wrap (r.fdiv ((2 : Int) ^ min (Int.toNat (6 : Int)) IntKind.i32.bits))) (63 : Int)),bits BinOp.or IntKind.u8 (128 : Int) (bits BinOp.and IntKind.u8 (u8.wrap r) (63 : Int))] (Perm.tok 0)),lcRet [] ([0]) 1) else none else if (if decide ((57343 : Int) < IntKind.u32.wrap r) = true then decide (IntKind.u32.wrap r ≤ 65535) else false) = true then if (0 + [bits BinOp.or IntKind.u8 (224 : Int) (u8.wrap (r.fdiv ((2 : Int) ^ min (Int.toNat (12 : Int)) IntKind.i32.bits))),bits BinOp.or IntKind.u8 (128 : Int) (bits BinOp.and IntKind.u8 (u8.wrap (r.fdiv ((2 : Int) ^ min (Int.toNat (6 : Int)) IntKind.i32.bits))) (63 : Int)),bits BinOp.or IntKind.u8 (128 : Int) (bits BinOp.and IntKind.u8 (u8.wrap r) (63 : Int))].length) * 1 ≤ most then some (.ret (.sl (.int .u8) [bits BinOp.or IntKind.u8 (224 : Int) (u8.wrap (r.fdiv ((2 : Int) ^ min (Int.toNat (12 : Int)) IntKind.i32.bits))),bits BinOp.or IntKind.u8 (128 : Int) (bits BinOp.and IntKind.u8 (u8.wrap (r.fdiv ((2 : Int) ^ min (Int.toNat (6 : Int)) IntKind.i32.bits))) (63 : Int)),bits BinOp.or IntKind.u8 (128 : Int) (bits BinOp.and IntKind.u8 (u8.wrap r) (63 : Int))] (Perm.tok 0)),lcRet [] ([0]) 1) else none else if (if decide (IntKind.u32.wrap r > 65535) = true then decide (IntKind.u32.wrap r ≤ 1114111) else false) = true then if (0 + [bits BinOp.or IntKind.u8 (240 : Int) (u8.wrap (r.fdiv ((2 : Int) ^ min (Int.toNat (18 : Int)) IntKind.i32.bits))),bits BinOp.or IntKind.u8 (128 : Int) (bits BinOp.and IntKind.u8 (u8.wrap (r.fdiv ((2 : Int) ^ min (Int.toNat (12 : Int)) IntKind.i32.bits))) (63 : Int)),bits BinOp.or IntKind.u8 (128 : Int) (bits BinOp.and IntKind.u8 (u8.wrap (r.fdiv ((2 : Int) ^ min (Int.toNat (6 : Int)) IntKind.i32.bits))) (63 : Int)),bits BinOp.or IntKind.u8 (128 : Int) (bits BinOp.and IntKind.u8 (u8.wrap r) (63 : Int))].length) * 1 ≤ most then some (.ret (.sl (.int .u8) [bits BinOp.or IntKind.u8 (240 : Int) (u8.wrap (r.fdiv ((2 : Int) ^ min (Int.toNat (18 : Int)) IntKind.i32.bits))),bits BinOp.or IntKind.u8 (128 : Int) (bits BinOp.and IntKind.u8 (u8.wrap (r.fdiv ((2 : Int) ^ min (Int.toNat (12 : Int)) IntKind.i32.bits))) (63 : Int)),bits BinOp.or IntKind.u8 (128 : Int) (bits BinOp.and IntKind.u8 (u8.wrap (r.fdiv ((2 : Int) ^ min (Int.toNat (6 : Int)) IntKind.i32.bits))) (63 : Int)),bits BinOp.or IntKind.u8 (128 : Int) (bits BinOp.and IntKind.u8 (u8.wrap r) (63 : Int))] (Perm.tok 0)),lcRet [] ([0]) 1) else none else some (.ret (.sl (.int .u8) [(239 : Int),(191 : Int),(189 : Int)] (Perm.tok 0)),lcRet [] ([0]) 1) := by kernel_rfl
theorem chars_First.top (n : Nat) (r : Int) : callX false (fnF cx_chars_First noCalls n 33) ([.int .i64 r]) (lcSt [] 0) out = if decide (r < 128) = true then some (.ret (.bool (if (if decide (bits BinOp.or IntKind.i64 r (32 : Int) ≥ 97) = true then decide (bits BinOp.or IntKind.i64 r (32 : Int) ≤ 122) else false) = true then true else r == 95)),lcRet [] [] 0) else ((lim fun k => Q.chars_in.f k r (List.map (fun p => Q.S79.mk p.1 p.2) [((192 : Int),(214 : Int)),((216 : Int),(246 : Int)),((248 : Int),(767 : Int)),((880 : Int),(893 : Int)),((895 : Int),(8191 : Int)),((8204 : Int),(8205 : Int)),((8304 : Int),(8591 : Int)),((11264 : Int),(12271 : Int)),((12289 : Int),(55295 : Int)),((63744 : Int),(64975 : Int)),((65008 : Int),(65533 : Int)),((65536 : Int),(983039 : Int))])).bind fun v0 => some (.ret (.bool v0),lcRet [] [] 0)) := by kernel_rfl
theorem chars_Space.top (n : Nat) (r : Int) : callX false (fnF cx_chars_Space noCalls n 19) ([.int .i64 r]) (lcSt [] 0) out = if (if (r == 32) = true then true else if (r == 9) = true then true else if (r == 10) = true then true else r == 13) = true then some (.ret (.bool true),lcRet [] [] 0) else some (.ret (.bool false),lcRet [] [] 0) := by kernel_rfl
noncomputable def xmllex_nameOf.L0 (n k0 : Nat) (b j0 : List Int) (j1 : Int) : Option (Rr U0) := loopF cx_xmllex_nameOf noCalls k0 0 ([(0,false),(3,false)]) ((siteC (Tryd.f18.body.getD .skip) [1,1,0]).getD .skip) (siteK cx_xmllex_nameOf noCalls n [] (Tryd.f18.body.getD .skip) [1,1,0] (bodyK cx_xmllex_nameOf Tryd.f18 (lcSt [] 0) (callK false [] [] (lcSt [] 0) out))) (St.mk [(0,.sl (.int .u8) j0 .no),(3,.int .i64 j1)] [] [] 0 0 0 0 0 18 [] 35)
theorem xmllex_nameOf.L0_s (n k0 : Nat) (b j0 : List Int) (j1 : Int) : xmllex_nameOf.L0 n (k0 + 1) b j0 j1 = if 0 ≤ j1 then if j1 ≤ (↑j0.length : Int) then ((Q.chars_Decode.f (List.drop j1.toNat j0)).bind fun v0 => if (v0.2 == 0) = true then if 0 ≤ j1 then if j1 ≤ (↑j0.length : Int) then some (.ret (.sl (.int .u8) (List.take j1.toNat j0) .no),lcRet [] [] 0) else none else none else if (j1 == 0) = true then ((lim fun k => Q.chars_First.f k v0.1).bind fun v1 => if (if false = true then true else if true = true then !v1 else false) = true then if 0 ≤ j1 then if j1 ≤ (↑j0.length : Int) then some (.ret (.sl (.int .u8) (List.take j1.toNat j0) .no),lcRet [] [] 0) else none else none else ((lim fun k => Q.chars_Later.f k v0.1).bind fun v2 => if (if false = true then true else !v2) = true then if 0 ≤ j1 then if j1 ≤ (↑j0.length : Int) then some (.ret (.sl (.int .u8) (List.take j1.toNat j0) .no),lcRet [] [] 0) else none else none else (xmllex_nameOf.L0 n k0 b j0 (i64.wrap (j1 + v0.2))))) else ((lim fun k => Q.chars_Later.f k v0.1).bind fun v3 => if (if false = true then true else !v3) = true then if 0 ≤ j1 then if j1 ≤ (↑j0.length : Int) then some (.ret (.sl (.int .u8) (List.take j1.toNat j0) .no),lcRet [] [] 0) else none else none else (xmllex_nameOf.L0 n k0 b j0 (i64.wrap (j1 + v0.2))))) else none else none := by kernel_rfl
theorem xmllex_nameOf.top (n : Nat) (b : List Int) : callX false (fnF cx_xmllex_nameOf noCalls n 18) ([.sl (.int .u8) b .no]) (lcSt [] 0) out = (xmllex_nameOf.L0 n n b b 0) := by kernel_rfl
end Go.Proofs.YtccfmfifnbnlmaaDoor.Ev
end
section
/- The evaluator's trees are the functions that were printed: characters, words. -/
set_option linter.unusedVariables false
set_option linter.unusedSimpArgs false
namespace Go.Proofs.YtccfmfifnbnlmaaDoor.Ev
open Go Go.RowKit Go.Proofs.YtccfmfifnbnlmaaDoorW.PrintWords
theorem chars_Decode.ok : AllOk specs_chars_Decode := okS (cx := cx_chars_Decode) rfl lib_ok (by kernel_rfl) fun args cs n K r g => by
 unfold chars_Decode.spec at g
 dsimp only [lcSt] at g
 split at g
 · rename_i b
   obtain ⟨v,h,h2⟩ := bind2 g
   clear g
   refine okG h2 ?_
   clear h2
   refine ⟨0,?_⟩
   rw [chars_Decode.top]
   unfold Q.chars_Decode.f at h
   simp only [ite_or,ite_and,seq_list,wrap_64,ba_list,decide_eq_true_eq,beq_iff_eq] at h ⊢
   grind [→ bindE]
 · cases g
theorem chars_in.l_ev (n : Nat) (r : Int) (l0 : List (Int × Int)) : ∀ (k m : Nat) (x : Int) (l : List (Int × Int)) (c i : Int) (v : Bool),k ≤ m → Q.chars_in.l0 k x (l.map fun p => ⟨p.1,p.2⟩) c i = some v → chars_in.L0 n m r l0 x l c i = some (.ret (.bool v),lcRet [] [] 0) := by
 intro k
 induction k with
 | zero => intro m x l c i v _ h; simp [Q.chars_in.l0] at h
 | succ k ih =>
  intro m x l c i v hk h
  obtain ⟨m,rfl⟩ : ∃ m',m = m' + 1 := ⟨m - 1,by omega⟩
  rw [Q.chars_in.l0] at h
  rw [chars_in.L0_s]
  have hg : ∀ (i : Int),0 ≤ i → i < l.length → nth l i.toNat = some (l.getD i.toNat (0,0)) ∧ (Q.rd_T79 (l.map fun p => ⟨p.1,p.2⟩) i) = ⟨(l.getD i.toNat (0,0)).1,(l.getD i.toNat (0,0)).2⟩ := by
   intro i h0 h1
   have hlt : i.toNat < l.length := by omega
   rw [nth_get,List.getElem?_eq_getElem hlt]
   unfold Q.rd_T79
   rw [List.getD_eq_getElem?_getD,List.getD_eq_getElem?_getD,List.getElem?_map,List.getElem?_eq_getElem hlt]
   exact ⟨rfl,rfl⟩
  have hlen : (l.map fun p => (⟨p.1,p.2⟩ : Q.S79)).length = l.length := List.length_map _
  rw [hlen] at h
  simp only [ite_or,ite_and,seq_list,wrap_64,ba_list,decide_eq_true_eq,beq_iff_eq] at h ⊢
  grind [→ bindE]
theorem chars_in.ok : AllOk specs_chars_in := okS (cx := cx_chars_in) rfl chars_Decode.ok (by kernel_rfl) fun args cs n K r g => by
 unfold chars_in.spec at g
 dsimp only [lcSt] at g
 split at g
 · rename_i r l
   obtain ⟨v,h1,h2⟩ := bind2 g
   obtain ⟨k,hk,h⟩ := lim_some h1
   clear h1
   clear g
   refine okG h2 ?_
   clear h2
   refine ⟨k,?_⟩
   rw [chars_in.top]
   unfold Q.chars_in.f at h
   rw [List.length_map] at h
   exact chars_in.l_ev k r l k k r l _ 0 v (Nat.le_refl _) h
 · cases g
theorem chars_ofXML.ok : AllOk specs_chars_ofXML := okS (cx := cx_chars_ofXML) rfl chars_in.ok (by kernel_rfl) fun args cs n K r g => by
 unfold chars_ofXML.spec at g
 dsimp only [lcSt] at g
 split at g
 · rename_i r
   obtain ⟨v,h1,h2⟩ := bind2 g
   obtain ⟨k,hk,h⟩ := lim_some h1
   clear h1
   clear g
   refine okG h2 ?_
   clear h2
   refine ⟨0,?_⟩
   rw [chars_ofXML.top]
   unfold Q.chars_ofXML.f at h
   obtain ⟨b,h1,h2⟩ := bind2 h
   obtain rfl := Option.some.inj h2
   have := lim_of (X := fun k => Q.chars_in.f k r [⟨32,55295⟩,⟨9,10⟩,⟨13,13⟩,⟨57344,65533⟩,⟨65536,1114111⟩]) (fun k => Q.chars_in.mono r _ k) hk h1
   simp only [List.map] 
   rw [this]
   rfl
 · cases g
theorem chars_Wrong.l_ev (n : Nat) (b : List Int) : ∀ (k m : Nat) (l : List Int) (i : Int) (v : Int),k ≤ 16000000 → k ≤ m → Q.chars_Wrong.l0 k l i = some v → chars_Wrong.L0 n m b l i = some (.ret (.int .i64 v),lcRet [] [] 0) := by
 intro k
 induction k with
 | zero => intro m l i v _ _ h; simp [Q.chars_Wrong.l0] at h
 | succ k ih =>
  intro m l i v hk0 hk h
  obtain ⟨m,rfl⟩ : ∃ m',m = m' + 1 := ⟨m - 1,by omega⟩
  rw [Q.chars_Wrong.l0] at h
  rw [chars_Wrong.L0_s]
  have hx : ∀ r v,Q.chars_ofXML.f k r = some v → lim (fun k => Q.chars_ofXML.f k r) = some v := fun r v h => lim_of (fun k => Q.chars_ofXML.mono r k) (by omega) h
  simp only [ite_or,ite_and,seq_list,wrap_64,ba_list,decide_eq_true_eq,beq_iff_eq] at h ⊢
  grind [→ bindE]
theorem chars_Wrong.ok : AllOk specs_chars_Wrong := okS (cx := cx_chars_Wrong) rfl chars_ofXML.ok (by kernel_rfl) fun args cs n K r g => by
 unfold chars_Wrong.spec at g
 dsimp only [lcSt] at g
 split at g
 · rename_i b
   obtain ⟨v,h1,h2⟩ := bind2 g
   obtain ⟨k,hk,h⟩ := lim_some h1
   clear h1
   clear g
   refine okG h2 ?_
   clear h2
   refine ⟨k,?_⟩
   rw [chars_Wrong.top]
   exact chars_Wrong.l_ev k b k k b 0 v hk (Nat.le_refl _) h
 · cases g
theorem bits_go (op : BinOp) (k : IntKind) (x y : Int) : Ev.bits op k x y = Go.bits op k x y := by cases op <;> rfl
theorem shr32 (r c : Int) (d : Int) (h : (2 : Int) ^ min (Int.toNat c) IntKind.i32.bits = d) (hd : 0 ≤ d) : r.fdiv ((2 : Int) ^ min (Int.toNat c) IntKind.i32.bits) = r / d := by rw [h]; exact Int.fdiv_eq_ediv_of_nonneg r hd
theorem shr32_6 (r : Int) : r.fdiv ((2 : Int) ^ min (Int.toNat (6 : Int)) IntKind.i32.bits) = r / 64 := shr32 r 6 64 (by decide) (by decide)
theorem shr32_12 (r : Int) : r.fdiv ((2 : Int) ^ min (Int.toNat (12 : Int)) IntKind.i32.bits) = r / 4096 := shr32 r 12 4096 (by decide) (by decide)
theorem shr32_18 (r : Int) : r.fdiv ((2 : Int) ^ min (Int.toNat (18 : Int)) IntKind.i32.bits) = r / 262144 := shr32 r 18 262144 (by decide) (by decide)
theorem utf8_ValidRune.ok : AllOk specs_utf8_ValidRune := okS (cx := cx_utf8_ValidRune) rfl chars_Wrong.ok (by kernel_rfl) fun args cs n K r g => by
 unfold utf8_ValidRune.spec at g
 dsimp only [lcSt] at g
 split at g
 · rename_i r
   obtain ⟨v,h1,h2⟩ := bind2 g
   obtain ⟨k,hk,h⟩ := lim_some h1
   clear h1
   clear g
   refine okG h2 ?_
   clear h2
   refine ⟨0,?_⟩
   rw [utf8_ValidRune.top]
   unfold Q.utf8_ValidRune.f at h
   rcases k with _ | k <;> simp only [Q.utf8_ValidRune.j0] at h <;> simp only [ite_or,ite_and,false_or_b,true_and_b,seq_list,seq_false,wrap_64,wrap_8,wrap_u64_mod,ba_list,decide_eq_true_eq,beq_iff_eq,Bool.not_eq_true',Int.zero_sub,toBytes_len,bt_eq,shr_6,shr_12,shr_18,wrap64_mod,toNat0,toNat1,toNat2,most,List.length_cons,List.length_nil,ofBytes_eq] at h ⊢ <;> grind
 · cases g
theorem utf8_appendRuneNonASCII.ok : AllOk specs_utf8_appendRuneNonASCII := okSk (cx := cx_utf8_appendRuneNonASCII) rfl utf8_ValidRune.ok (by kernel_rfl) fun args cs n K r g => by
 unfold utf8_appendRuneNonASCII.spec at g
 dsimp only [lcSt] at g
 split at g
 · rename_i r
   obtain ⟨v,h1,h2⟩ := bind2 g
   obtain ⟨k,hk,h⟩ := lim_some h1
   clear h1
   clear g
   refine okG h2 ?_
   clear h2
   refine ⟨0,?_⟩
   rw [utf8_appendRuneNonASCII.top]
   unfold Q.utf8_appendRuneNonASCII.f at h
   simp only [bits_go,shr32_6,shr32_12,shr32_18,IntKind.wrap_u32]
   rcases k with _ | k <;> simp only [Q.utf8_appendRuneNonASCII.j0,Option.bind_some,List.length_cons,List.length_nil,List.nil_append] at h <;> simp only [ite_or,ite_and,false_or_b,true_and_b,seq_list,seq_false,wrap_64,wrap_8,wrap_u64_mod,ba_list,decide_eq_true_eq,beq_iff_eq,Bool.not_eq_true',Int.zero_sub,toBytes_len,bt_eq,shr_6,shr_12,shr_18,wrap64_mod,toNat0,toNat1,toNat2,most,List.length_cons,List.length_nil,ofBytes_eq] at h ⊢ <;> grind
 · cases g
theorem utf8_AppendRune.ok : AllOk specs_utf8_AppendRune := okSk (cx := cx_utf8_AppendRune) rfl utf8_appendRuneNonASCII.ok (by kernel_rfl) fun args cs n K r g => by
 unfold utf8_AppendRune.spec at g
 dsimp only [lcSt] at g
 split at g
 · rename_i r
   obtain ⟨v,h1,h2⟩ := bind2 g
   obtain ⟨k,hk,h⟩ := lim_some h1
   clear h1
   clear g
   refine okG h2 ?_
   clear h2
   refine ⟨0,?_⟩
   rw [utf8_AppendRune.top]
   unfold Q.utf8_AppendRune.f at h
   simp only [IntKind.wrap_u32]
   have hx : ∀ r v,Q.utf8_appendRuneNonASCII.f k [] r = some v → lim (fun k => Q.utf8_appendRuneNonASCII.f k [] r) = some v := fun r v h => lim_of (fun k => Q.utf8_appendRuneNonASCII.mono [] r k) hk h
   simp only [ite_or,ite_and,false_or_b,true_and_b,seq_list,seq_false,wrap_64,wrap_8,wrap_u64_mod,ba_list,decide_eq_true_eq,beq_iff_eq,Bool.not_eq_true',Int.zero_sub,toBytes_len,bt_eq,shr_6,shr_12,shr_18,wrap64_mod,toNat0,toNat1,toNat2,most,List.length_cons,List.length_nil,ofBytes_eq] at h ⊢
   grind [→ bindE]
 · cases g
theorem chars_First.ok : AllOk specs_chars_First := okS (cx := cx_chars_First) rfl utf8_AppendRune.ok (by kernel_rfl) fun args cs n K r g => by
 unfold chars_First.spec at g
 dsimp only [lcSt] at g
 split at g
 · rename_i r
   obtain ⟨v,h1,h2⟩ := bind2 g
   obtain ⟨k,hk,h⟩ := lim_some h1
   clear h1
   clear g
   refine okG h2 ?_
   clear h2
   refine ⟨0,?_⟩
   rw [chars_First.top]
   unfold Q.chars_First.f at h
   simp only [bits_go]
   have hx : ∀ l v,Q.chars_in.f k r l = some v → lim (fun k => Q.chars_in.f k r l) = some v := fun l v h => lim_of (fun k => Q.chars_in.mono r l k) hk h
   simp only [List.map]
   simp only [ite_or,ite_and,false_or_b,true_and_b,seq_list,seq_false,wrap_64,wrap_8,wrap_u64_mod,ba_list,decide_eq_true_eq,beq_iff_eq,Bool.not_eq_true',Int.zero_sub,toBytes_len,bt_eq,shr_6,shr_12,shr_18,wrap64_mod,toNat0,toNat1,toNat2,most,List.length_cons,List.length_nil,ofBytes_eq] at h ⊢
   grind [→ bindE]
 · cases g
theorem chars_Later.ok : AllOk specs_chars_Later := okS (cx := cx_chars_Later) rfl chars_First.ok (by kernel_rfl) fun args cs n K r g => by
 unfold chars_Later.spec at g
 dsimp only [lcSt] at g
 split at g
 · rename_i r
   obtain ⟨v,h1,h2⟩ := bind2 g
   obtain ⟨k,hk,h⟩ := lim_some h1
   clear h1
   clear g
   refine okG h2 ?_
   clear h2
   refine ⟨0,?_⟩
   rw [chars_Later.top]
   unfold Q.chars_Later.f at h
   have hx : ∀ l v,Q.chars_in.f k r l = some v → lim (fun k => Q.chars_in.f k r l) = some v := fun l v h => lim_of (fun k => Q.chars_in.mono r l k) hk h
   have hy : ∀ v,Q.chars_First.f k r = some v → lim (fun k => Q.chars_First.f k r) = some v := fun v h => lim_of (fun k => Q.chars_First.mono r k) hk h
   simp only [List.map]
   simp only [ite_or,ite_and,false_or_b,true_and_b,seq_list,seq_false,wrap_64,wrap_8,wrap_u64_mod,ba_list,decide_eq_true_eq,beq_iff_eq,Bool.not_eq_true',Int.zero_sub,toBytes_len,bt_eq,shr_6,shr_12,shr_18,wrap64_mod,toNat0,toNat1,toNat2,most,List.length_cons,List.length_nil,ofBytes_eq] at h ⊢
   grind [→ bindE]
 · cases g
theorem chars_Space.ok : AllOk specs_chars_Space := okS (cx := cx_chars_Space) rfl chars_Later.ok (by kernel_rfl) fun args cs n K r g => by
 unfold chars_Space.spec at g
 dsimp only [lcSt] at g
 split at g
 · rename_i r
   obtain ⟨v,h,h2⟩ := bind2 g
   clear g
   refine okG h2 ?_
   clear h2
   refine ⟨0,?_⟩
   rw [chars_Space.top]
   unfold Q.chars_Space.f at h
   simp only [ite_or,ite_and,false_or_b,true_and_b,seq_list,seq_false,wrap_64,wrap_8,wrap_u64_mod,ba_list,decide_eq_true_eq,beq_iff_eq,Bool.not_eq_true',Int.zero_sub,toBytes_len,bt_eq,shr_6,shr_12,shr_18,wrap64_mod,toNat0,toNat1,toNat2,most,List.length_cons,List.length_nil,ofBytes_eq] at h ⊢
   grind
 · cases g
theorem chars_Encode.ok : AllOk specs_chars_Encode := okS (cx := cx_chars_Encode) rfl chars_Space.ok (by kernel_rfl) fun args cs n K r g => by
 unfold chars_Encode.spec at g
 dsimp only [lcSt] at g
 split at g
 · rename_i r
   obtain ⟨v,h1,h2⟩ := bind2 g
   obtain ⟨k,hk,h⟩ := lim_some h1
   clear h1
   clear g
   refine okG h2 ?_
   clear h2
   refine ⟨0,?_⟩
   rw [chars_Encode.top]
   unfold Q.chars_Encode.f at h
   have hw : ∀ x,IntKind.i32.wrap x = wrap32 x := fun x => by unfold wrap32; exact IntKind.wrap_i32 x
   have hx : ∀ r v,Q.utf8_ValidRune.f k r = some v → lim (fun k => Q.utf8_ValidRune.f k r) = some v := fun r v h => lim_of (fun k => Q.utf8_ValidRune.mono r k) hk h
   have hy : ∀ r v,Q.utf8_AppendRune.f k [] r = some v → lim (fun k => Q.utf8_AppendRune.f k [] r) = some v := fun r v h => lim_of (fun k => Q.utf8_AppendRune.mono [] r k) hk h
   rw [hw]
   simp only [ite_or,ite_and,false_or_b,true_and_b,seq_list,seq_false,wrap_64,wrap_8,wrap_u64_mod,ba_list,decide_eq_true_eq,beq_iff_eq,Bool.not_eq_true',Int.zero_sub,toBytes_len,bt_eq,shr_6,shr_12,shr_18,wrap64_mod,toNat0,toNat1,toNat2,most,List.length_cons,List.length_nil,ofBytes_eq] at h ⊢
   grind [→ bindE]
 · cases g
theorem xmllex_nameOf.l_ev (n : Nat) (b0 : List Int) : ∀ (k m : Nat) (b : List Int) (i : Int) (v : List Int),k ≤ 16000000 → k ≤ m → Q.xmllex_nameOf.l0 k b i = some v → xmllex_nameOf.L0 n m b0 b i = some (.ret (.sl (.int .u8) v .no),lcRet [] [] 0) := by
 intro k
 induction k with
 | zero => intro m b i v _ _ h; simp [Q.xmllex_nameOf.l0] at h
 | succ k ih =>
  intro m b i v hk0 hk h
  obtain ⟨m,rfl⟩ : ∃ m',m = m' + 1 := ⟨m - 1,by omega⟩
  rw [Q.xmllex_nameOf.l0] at h
  rw [xmllex_nameOf.L0_s]
  have hx : ∀ t v,Q.chars_First.f k t = some v → lim (fun k => Q.chars_First.f k t) = some v := fun t v h => lim_of (fun k => Q.chars_First.mono t k) (by omega) h
  have hy : ∀ t v,Q.chars_Later.f k t = some v → lim (fun k => Q.chars_Later.f k t) = some v := fun t v h => lim_of (fun k => Q.chars_Later.mono t k) (by omega) h
  simp only [ite_or,ite_and,false_or_b,true_and_b,seq_list,seq_false,wrap_64,wrap_8,wrap_u64_mod,ba_list,decide_eq_true_eq,beq_iff_eq,Bool.not_eq_true',Int.zero_sub,toBytes_len,bt_eq,shr_6,shr_12,shr_18,wrap64_mod,toNat0,toNat1,toNat2,most,List.length_cons,List.length_nil,ofBytes_eq] at h ⊢
  grind [→ bindE]
theorem xmllex_nameOf.ok : AllOk specs_xmllex_nameOf := okS (cx := cx_xmllex_nameOf) rfl chars_Encode.ok (by kernel_rfl) fun args cs n K r g => by
 unfold xmllex_nameOf.spec at g
 dsimp only [lcSt] at g
 split at g
 · rename_i b
   obtain ⟨v,h1,h2⟩ := bind2 g
   obtain ⟨k,hk,h⟩ := lim_some h1
   clear h1
   clear g
   refine okG h2 ?_
   clear h2
   refine ⟨k,?_⟩
   rw [xmllex_nameOf.top]
   exact xmllex_nameOf.l_ev k b k k b 0 v hk (Nat.le_refl _) h
 · cases g
end Go.Proofs.YtccfmfifnbnlmaaDoor.Ev
end
section
/- Characters: the program's decoder, the reference's and one plain function are the same at every list of bytes; so are the searches for a byte that is no character. -/
set_option linter.unusedSimpArgs false
set_option linter.unusedVariables false
namespace Go.Proofs.YtccfmfifnbnlmaaDoor.Chars
open Go.RowKit Go.Proofs.YtccfmfifnbnlmaaDoor.Q Go.Proofs.YtccfmfifnbnlmaaDoorW.PrintWords Go.Proofs.YtccfmfifnbnlmaaDoorW.PrintLast Go.Proofs.YtccfmfifnbnlmaaDoorH
/-- Each number of a list is a byte. -/
def Bytes (l : List Int) : Prop := ∀ x ∈ l,0 ≤ x ∧ x < 256
theorem Bytes.drop {l : List Int} (h : Bytes l) (n : Nat) : Bytes (l.drop n) := fun x hx => h x (List.mem_of_mem_drop hx)
theorem Bytes.take {l : List Int} (h : Bytes l) (n : Nat) : Bytes (l.take n) := fun x hx => h x (List.mem_of_mem_take hx)
theorem Bytes.getD {l : List Int} (h : Bytes l) (n : Nat) : 0 ≤ l.getD n 0 ∧ l.getD n 0 < 256 := by
 by_cases hn : n < l.length
 · rw [List.getD_eq_getElem?_getD,List.getElem?_eq_getElem hn]; exact h _ (List.getElem_mem hn)
 · rw [List.getD_eq_getElem?_getD,List.getElem?_eq_none (by omega)]; simp
/-- The first character and how many bytes it has; (0, 0): there is none. -/
def decN (n : Nat) (b0 b1 b2 b3 : Int) : Int × Int :=
 if b0 < 128 then (b0,1)
 else if 192 ≤ b0 ∧ b0 < 224 ∧ 2 ≤ n ∧ 128 ≤ b1 ∧ b1 < 192 then
  (if (b0 - 192) * 64 + (b1 - 128) ≥ 128 then ((b0 - 192) * 64 + (b1 - 128),2) else (0,0))
 else if 224 ≤ b0 ∧ b0 < 240 ∧ 3 ≤ n ∧ (128 ≤ b1 ∧ b1 < 192) ∧ 128 ≤ b2 ∧ b2 < 192 then
  (if 2048 ≤ (b0 - 224) * 4096 + (b1 - 128) * 64 + (b2 - 128) ∧ ((b0 - 224) * 4096 + (b1 - 128) * 64 + (b2 - 128) < 55296 ∨ 57344 ≤ (b0 - 224) * 4096 + (b1 - 128) * 64 + (b2 - 128))
   then ((b0 - 224) * 4096 + (b1 - 128) * 64 + (b2 - 128),3) else (0,0))
 else if 240 ≤ b0 ∧ b0 < 248 ∧ 4 ≤ n ∧ (128 ≤ b1 ∧ b1 < 192) ∧ (128 ≤ b2 ∧ b2 < 192) ∧ 128 ≤ b3 ∧ b3 < 192 then
  (if 65536 ≤ (b0 - 240) * 262144 + (b1 - 128) * 4096 + (b2 - 128) * 64 + (b3 - 128) ∧ (b0 - 240) * 262144 + (b1 - 128) * 4096 + (b2 - 128) * 64 + (b3 - 128) ≤ 1114111
   then ((b0 - 240) * 262144 + (b1 - 128) * 4096 + (b2 - 128) * 64 + (b3 - 128),4) else (0,0))
 else (0,0)
def dec (l : List Int) : Int × Int := if l = [] then (0,0) else decN l.length (l.getD 0 0) (l.getD 1 0) (l.getD 2 0) (l.getD 3 0)
theorem decN_two (n : Nat) (b0 b1 b2 b3 : Int) (h0 : 0 ≤ b0) : (decN n b0 b1 b2 b3).2 ≤ 4 ∧ 0 ≤ (decN n b0 b1 b2 b3).2 ∧ 0 ≤ (decN n b0 b1 b2 b3).1 ∧ (decN n b0 b1 b2 b3).1 ≤ 1114111 ∧ (1 ≤ n → (decN n b0 b1 b2 b3).2 ≤ n) ∧ ((decN n b0 b1 b2 b3).2 = 0 → (decN n b0 b1 b2 b3).1 = 0) := by
 unfold decN
 repeat' split
 all_goals (simp only; refine ⟨by omega,by omega,by omega,by omega,fun _ => by omega,fun h_ => by omega⟩)
theorem dec_two {l : List Int} (hl : Bytes l) : (dec l).2 ≤ 4 ∧ 0 ≤ (dec l).2 ∧ 0 ≤ (dec l).1 ∧ (dec l).1 ≤ 1114111 ∧ (dec l).2 ≤ l.length ∧ ((dec l).2 = 0 → (dec l).1 = 0) := by
 unfold dec
 by_cases h : l = []
 · rw [if_pos h]; simp
 · rw [if_neg h]
   have hlen : 1 ≤ l.length := List.length_pos_iff.2 h
   have := decN_two l.length (l.getD 0 0) (l.getD 1 0) (l.getD 2 0) (l.getD 3 0) (hl.getD 0).1
   exact ⟨this.1,this.2.1,this.2.2.1,this.2.2.2.1,this.2.2.2.2.1 hlen,this.2.2.2.2.2⟩
theorem get!_at (l : List Int) (hl : Bytes l) (i : Nat) : (((strOfNums l).get! i).toNat : Int) = l.getD i 0 := by
 by_cases h : i < l.length
 · rw [strOfNums_get! l i h,List.getD_eq_getElem?_getD,List.getElem?_eq_getElem h]
   have := hl _ (List.getElem_mem h)
   simp only [Option.getD_some]
   generalize l[i] = x at *
   obtain ⟨y,rfl⟩ := Int.eq_ofNat_of_zero_le this.1
   simp; omega
 · rw [List.getD_eq_getElem?_getD,List.getElem?_eq_none (by omega)]
   have : ¬ i < (strOfNums l).data.size := by simp [strOfNums]; omega
   have e : (strOfNums l).data[i]! = 0 := by
    rw [Array.getElem!_eq_getD,Array.getD_eq_getD_getElem?,Array.getElem?_eq_none (by omega)]; rfl
   show (((strOfNums l).data[i]!).toNat : Int) = _
   rw [e]; rfl
set_option maxHeartbeats 4000000 in
/-- The model's decoder, with what it calls no character told as (0, 0). -/
theorem decN_go (n : Nat) (b0 b1 b2 b3 : Nat) (h0 : b0 < 256) (h1 : b1 < 256) (h2 : b2 < 256) (h3 : b3 < 256) :
 (if (Lib.decodeN n b0 b1 b2 b3).1 = 65533 ∧ (Lib.decodeN n b0 b1 b2 b3).2 ≤ 1 then ((0 : Int),(0 : Int)) else (((Lib.decodeN n b0 b1 b2 b3).1 : Int),((Lib.decodeN n b0 b1 b2 b3).2 : Int))) = decN n b0 b1 b2 b3 := by
 unfold Lib.decodeN decN
 repeat' split
 all_goals first
  | (exfalso; omega)
  | (simp only at *; first | (exfalso; omega) | (apply Prod.ext <;> simp only <;> omega))
  | (apply Prod.ext <;> simp only <;> omega)
theorem chars_Decode_spec (l : List Int) (hl : Bytes l) : chars_Decode.f l = some (dec l) := by
 have hall : (l.all fun x => decide (0 ≤ x) && decide (x < 256)) = true := by
  rw [List.all_eq_true]; intro x hx; have := hl x hx; simp [this.1,this.2]
 unfold chars_Decode.f utf8_DecodeRune.f
 rw [if_pos hall,Option.bind_some]
 by_cases h : l = []
 · subst h; rfl
 · have hlen : 1 ≤ l.length := List.length_pos_iff.2 h
   have hsz : (strOfNums l).size = l.length := strOfNums_size l
   have hd : Lib.decodeGo (strOfNums l) = Lib.decodeN l.length (l.getD 0 0).toNat (l.getD 1 0).toNat (l.getD 2 0).toNat (l.getD 3 0).toNat := by
    unfold Lib.decodeGo
    rw [if_neg (by omega),Lib.decode_at,hsz]
    have g := get!_at l hl
    have e : ∀ i,((strOfNums l).get! i).toNat = (l.getD i 0).toNat := fun i => by have := g i; omega
    simp only [Nat.zero_add,Nat.sub_zero,e]
   have hdec : dec l = decN l.length (l.getD 0 0) (l.getD 1 0) (l.getD 2 0) (l.getD 3 0) := by unfold dec; rw [if_neg h]
   have hb := hl.getD
   have key := decN_go l.length (l.getD 0 0).toNat (l.getD 1 0).toNat (l.getD 2 0).toNat (l.getD 3 0).toNat (by have := hb 0; omega) (by have := hb 1; omega) (by have := hb 2; omega) (by have := hb 3; omega)
   rw [Int.toNat_of_nonneg (hb 0).1,Int.toNat_of_nonneg (hb 1).1,Int.toNat_of_nonneg (hb 2).1,Int.toNat_of_nonneg (hb 3).1,← hdec,← hd] at key
   rw [← key]
   have hr : (Lib.decodeGo (strOfNums l)).1 ≤ 1114111 := by
    rw [hd]; unfold Lib.decodeN
    have := hb 0; have := hb 1
    repeat' split
    all_goals (simp only; omega)
   by_cases h1 : (Lib.decodeGo (strOfNums l)).1 = 65533
   · by_cases h2 : (Lib.decodeGo (strOfNums l)).2 ≤ 1
     · rw [if_pos (by omega),if_pos (by omega),if_pos ⟨h1,h2⟩]
     · rw [if_pos (by omega),if_neg (by omega),if_neg (fun x => h2 x.2)]; congr 2; unfold wrap64; omega
   · rw [if_neg (by omega),if_neg (fun x => h1 x.1)]; congr 2; unfold wrap64; omega
/-! ## The reference's -/
/-- A character's bytes. -/
def enc (r : Int) : List Int :=
 if r < 0 ∨ r > 1114111 ∨ (55296 ≤ r ∧ r ≤ 57343) then []
 else if r < 128 then [r]
 else if r < 2048 then [192 + r / 64,128 + r % 64]
 else if r < 65536 then [224 + r / 4096,128 + r / 64 % 64,128 + r % 64]
 else [240 + r / 262144,128 + r / 4096 % 64,128 + r / 64 % 64,128 + r % 64]
/-- Bytes as a string are the same just where they are the same. -/
theorem str_inj {l m : List Int} (hl : Bytes l) (hm : Bytes m) : (strOfNums l).toList = (strOfNums m).toList ↔ l = m := by
 constructor
 · intro h
   rw [Lib.toList_data,Lib.toList_data,strOfNums_data,strOfNums_data] at h
   have hlen : l.length = m.length := by simpa using congrArg List.length h
   apply List.ext_getElem hlen
   intro i h1 h2
   have e : (l.map fun n => UInt8.ofNat n.toNat)[i]'(by simpa using h1) = (m.map fun n => UInt8.ofNat n.toNat)[i]'(by simpa using h2) := by simp only [h]
   simp only [List.getElem_map] at e
   have b1 := hl _ (List.getElem_mem h1)
   have b2 := hm _ (List.getElem_mem h2)
   have e' := congrArg UInt8.toNat e
   simp at e'
   omega
 · intro h; rw [h]
theorem enc_bytes (r : Int) : Bytes (enc r) := by
 unfold enc
 repeat' split
 all_goals (intro x hx; simp at hx)
 all_goals first | omega | (rcases hx with h | h <;> omega) | (rcases hx with h | h | h <;> omega) | (rcases hx with h | h | h | h <;> omega)
theorem w64 (x : Int) (h0 : -10000000 ≤ x) (h1 : x < 100000000) : wrap64 x = x := by unfold wrap64; omega
theorem enc_len (r : Int) : (enc r).length = if r < 0 ∨ r > 1114111 ∨ (55296 ≤ r ∧ r ≤ 57343) then 0 else if r < 128 then 1 else if r < 2048 then 2 else if r < 65536 then 3 else 4 := by
 unfold enc; repeat' split
 all_goals rfl
theorem decN4 (n : Nat) (b0 b1 b2 b3 : Int) (h : 240 ≤ b0) (hn : b0 < 256) : decN n b0 b1 b2 b3 = if 4 ≤ n ∧ ((128 ≤ b1 ∧ b1 < 192) ∧ (128 ≤ b2 ∧ b2 < 192) ∧ 128 ≤ b3 ∧ b3 < 192) ∧ 65536 ≤ (((b0 - 240) * 64 + (b1 - 128)) * 64 + (b2 - 128)) * 64 + (b3 - 128) ∧ (((b0 - 240) * 64 + (b1 - 128)) * 64 + (b2 - 128)) * 64 + (b3 - 128) ≤ 1114111
 then ((((b0 - 240) * 64 + (b1 - 128)) * 64 + (b2 - 128)) * 64 + (b3 - 128),4) else (0,0) := by
 unfold decN
 rw [if_neg (by omega),if_neg (by omega),if_neg (by omega)]
 repeat' split
 all_goals first | rfl | (exfalso; omega) | (congr 1; omega)
theorem decN3 (n : Nat) (b0 b1 b2 b3 : Int) (h : 224 ≤ b0) (hn : b0 < 240) : decN n b0 b1 b2 b3 = if 3 ≤ n ∧ ((128 ≤ b1 ∧ b1 < 192) ∧ 128 ≤ b2 ∧ b2 < 192) ∧ 2048 ≤ ((b0 - 224) * 64 + (b1 - 128)) * 64 + (b2 - 128) ∧ (((b0 - 224) * 64 + (b1 - 128)) * 64 + (b2 - 128) < 55296 ∨ 57344 ≤ ((b0 - 224) * 64 + (b1 - 128)) * 64 + (b2 - 128))
 then (((b0 - 224) * 64 + (b1 - 128)) * 64 + (b2 - 128),3) else (0,0) := by
 unfold decN
 rw [if_neg (by omega),if_neg (by omega)]
 repeat' split
 all_goals first | rfl | (exfalso; omega) | (congr 1; omega)
theorem decN2 (n : Nat) (b0 b1 b2 b3 : Int) (h : 192 ≤ b0) (hn : b0 < 224) : decN n b0 b1 b2 b3 = if 2 ≤ n ∧ (128 ≤ b1 ∧ b1 < 192) ∧ 128 ≤ (b0 - 192) * 64 + (b1 - 128) then ((b0 - 192) * 64 + (b1 - 128),2) else (0,0) := by
 unfold decN
 rw [if_neg (by omega)]
 repeat' split
 all_goals first | rfl | (exfalso; omega)
theorem decN1 (n : Nat) (b0 b1 b2 b3 : Int) (hn : b0 < 192) : decN n b0 b1 b2 b3 = if b0 < 128 then (b0,1) else (0,0) := by
 unfold decN
 by_cases h : b0 < 128
 · rw [if_pos h,if_pos h]
 · have a1 : ¬ (192 ≤ b0) := by omega
   have a2 : ¬ (224 ≤ b0) := by omega
   have a3 : ¬ (240 ≤ b0) := by omega
   rw [if_neg h,if_neg (fun x => a1 x.1),if_neg (fun x => a2 x.1),if_neg (fun x => a3 x.1),if_neg h]
/-! ## Characters of XML; where the first byte stands that is none -/
def xmlC (r : Int) : Bool := decide ((32 ≤ r ∧ r ≤ 55295) ∨ (9 ≤ r ∧ r ≤ 10) ∨ r = 13 ∨ (57344 ≤ r ∧ r ≤ 65533) ∨ (65536 ≤ r ∧ r ≤ 1114111))
theorem chars_in_at (r : Int) (xs : List S79) (hlen : xs.length < 1000000) : ∀ d i k : Nat,i + d = xs.length → chars_in.l0 (k + d + 1) r xs (xs.length : Int) (i : Int) = some ((xs.drop i).any fun s => decide (s.f0 ≤ r) && decide (r ≤ s.f1)) := by
 intro d
 induction d with
 | zero =>
  intro i k hi
  rw [chars_in.l0,if_neg (by omega),List.drop_of_length_le (by omega)]; rfl
 | succ d ih =>
  intro i k hi
  have hlt : i < xs.length := by omega
  have e2 : wrap64 ((i : Int) + 1) = ((i + 1 : Nat) : Int) := by rw [w64 _ (by omega) (by omega)]; omega
  have hrd : rd_T79 xs (i : Int) = xs[i] := by simp [rd_T79,List.getD,hlt]
  rw [show k + (d + 1) + 1 = (k + d + 1) + 1 from by omega,chars_in.l0,if_pos (by omega),if_pos (by omega),if_pos (by omega),hrd,List.drop_eq_getElem_cons hlt,e2,ih (i + 1) k (by omega),List.any_cons]
  generalize ((xs.drop (i + 1)).any fun s => decide (s.f0 ≤ r) && decide (r ≤ s.f1)) = v
  by_cases c1 : (xs[i]).f0 ≤ r
  · by_cases c2 : r ≤ (xs[i]).f1
    · simp [c1,c2]
    · simp [c1,c2]
  · simp [c1]
theorem chars_in_spec (r : Int) (xs : List S79) (hlen : xs.length < 1000000) (k : Nat) (hk : xs.length + 1 ≤ k) : chars_in.f k r xs = some (xs.any fun s => decide (s.f0 ≤ r) && decide (r ≤ s.f1)) := by
 have := chars_in_at r xs hlen xs.length 0 (k - xs.length - 1) (by omega)
 rw [show k - xs.length - 1 + xs.length + 1 = k from by omega] at this
 exact this
theorem chars_ofXML_spec (k : Nat) (r : Int) : chars_ofXML.f (k + 10) r = some (xmlC r) := by
 unfold chars_ofXML.f
 rw [chars_in_spec r _ (by simp) _ (by simp),Option.bind_some]
 unfold xmlC
 congr 1
 simp only [List.any_cons,List.any_nil,Bool.or_false]
 rw [Bool.eq_iff_iff]
 simp only [Bool.or_eq_true,Bool.and_eq_true,decide_eq_true_eq]
 omega
end Go.Proofs.YtccfmfifnbnlmaaDoor.Chars
end
section
/- Names: the program's and the reference's are the same at every list of bytes. -/
set_option linter.unusedSimpArgs false
set_option linter.unusedVariables false
namespace Go.Proofs.YtccfmfifnbnlmaaDoor.Xm
open Go.RowKit Go.Proofs.YtccfmfifnbnlmaaDoor.Q Go.Proofs.YtccfmfifnbnlmaaDoorW.PrintWords Go.Proofs.YtccfmfifnbnlmaaDoorW.PrintLast Go.Proofs.YtccfmfifnbnlmaaDoorH Go.Proofs.YtccfmfifnbnlmaaDoor.Chars

theorem x64 (x : Int) (h0 : -10000000000 ≤ x) (h1 : x < 100000000000) : wrap64 x = x := by unfold wrap64; omega
def firstC (r : Int) : Bool := decide ((65 ≤ r ∧ r ≤ 90) ∨ (95 ≤ r ∧ r ≤ 95) ∨ (97 ≤ r ∧ r ≤ 122) ∨ (192 ≤ r ∧ r ≤ 214) ∨ (216 ≤ r ∧ r ≤ 246) ∨ (248 ≤ r ∧ r ≤ 767) ∨ (880 ≤ r ∧ r ≤ 893) ∨ (895 ≤ r ∧ r ≤ 8191) ∨ (8204 ≤ r ∧ r ≤ 8205) ∨ (8304 ≤ r ∧ r ≤ 8591) ∨ (11264 ≤ r ∧ r ≤ 12271) ∨ (12289 ≤ r ∧ r ≤ 55295) ∨ (63744 ≤ r ∧ r ≤ 64975) ∨ (65008 ≤ r ∧ r ≤ 65533) ∨ (65536 ≤ r ∧ r ≤ 983039))
def laterC (r : Int) : Bool := firstC r || decide ((45 ≤ r ∧ r ≤ 46) ∨ (48 ≤ r ∧ r ≤ 57) ∨ (183 ≤ r ∧ r ≤ 183) ∨ (768 ≤ r ∧ r ≤ 879) ∨ (8255 ≤ r ∧ r ≤ 8256))
theorem or_low : ∀ n : Fin 128, (Go.bits .or .i64 (n.val : Int) 32 ≥ 97 ∧ Go.bits .or .i64 (n.val : Int) 32 ≤ 122) ↔ ((65 ≤ n.val ∧ n.val ≤ 90) ∨ (97 ≤ n.val ∧ n.val ≤ 122)) := by decide
theorem or_low' (r : Int) (h0 : 0 ≤ r) (h1 : r < 128) : (Go.bits .or .i64 r 32 ≥ 97 ∧ Go.bits .or .i64 r 32 ≤ 122) ↔ ((65 ≤ r ∧ r ≤ 90) ∨ (97 ≤ r ∧ r ≤ 122)) := by
  have := or_low ⟨r.toNat, by omega⟩
  simp only [Int.toNat_of_nonneg h0] at this
  rw [this]; omega
theorem first_spec (k : Nat) (r : Int) (h0 : 0 ≤ r) : chars_First.f (k + 20) r = some (firstC r) := by
  unfold chars_First.f
  by_cases h1 : r < 128
  · have h := or_low' r h0 h1
    rw [if_pos h1]
    by_cases h2 : (65 ≤ r ∧ r ≤ 90) ∨ (97 ≤ r ∧ r ≤ 122)
    · have h3 := h.2 h2
      rw [if_pos h3.1, if_pos h3.2]
      unfold firstC; rw [decide_eq_true (by omega)]
    · have h4 : (r == 95) = firstC r := by
        unfold firstC; rw [Bool.eq_iff_iff, beq_iff_eq, decide_eq_true_eq]; omega
      by_cases h3 : Go.bits .or .i64 r 32 ≥ 97
      · rw [if_pos h3, if_neg (fun h5 => h2 (h.1 ⟨h3, h5⟩)), h4]
      · rw [if_neg h3, h4]
  · rw [if_neg h1, chars_in_spec r _ (by simp) _ (by simp), Option.bind_some]
    unfold firstC
    congr 1
    simp only [List.any_cons, List.any_nil, Bool.or_false]
    rw [Bool.eq_iff_iff]
    simp only [Bool.or_eq_true, Bool.and_eq_true, decide_eq_true_eq]
    omega
theorem later_spec (k : Nat) (r : Int) (h0 : 0 ≤ r) : chars_Later.f (k + 20) r = some (laterC r) := by
  unfold chars_Later.f
  rw [first_spec k r h0, Option.bind_some, chars_in_spec r _ (by simp) _ (by simp), Option.bind_some]
  unfold laterC
  by_cases h : firstC r = true
  · rw [if_pos h, h]; rfl
  · rw [if_neg h, Bool.not_eq_true _ |>.mp h, Bool.false_or]
    simp only [List.any_cons, List.any_nil, Bool.or_false]
    by_cases h1 : r = 45
    · rw [if_pos h1, decide_eq_true (by omega)]
    by_cases h2 : r = 46
    · rw [if_neg h1, if_pos h2, decide_eq_true (by omega)]
    by_cases h3 : r = 183
    · rw [if_neg h1, if_neg h2, if_pos h3, decide_eq_true (by omega)]
    rw [if_neg h1, if_neg h2, if_neg h3]
    congr 1
    rw [Bool.eq_iff_iff]
    simp only [Bool.or_eq_true, Bool.and_eq_true, decide_eq_true_eq]
    omega
/-- How many bytes a name has, from a place on (`a`: its first character). -/
def nameGo : Nat → Bool → List Int → Nat
  | 0, _, _ => 0
  | d + 1, a, l => if (dec l).2 = 0 ∨ (a = true ∧ firstC (dec l).1 = false) ∨ laterC (dec l).1 = false then 0 else (dec l).2.toNat + nameGo d false (l.drop (dec l).2.toNat)
def nameL (l : List Int) : Nat := nameGo (l.length + 1) true l
theorem nameGo_le : ∀ (d : Nat) (a : Bool) (l : List Int), Bytes l → nameGo d a l ≤ l.length
  | 0, _, _, _ => Nat.zero_le _
  | d + 1, a, l, hl => by
    unfold nameGo
    have h := dec_two hl
    split
    · exact Nat.zero_le _
    · have := nameGo_le d false (l.drop (dec l).2.toNat) (hl.drop _)
      rw [List.length_drop] at this
      omega
theorem nameOf_at (l : List Int) (hl : Bytes l) (hs : l.length ≤ 1000000000) : ∀ (d i k : Nat), l.length ≤ i + d → i ≤ l.length → xmllex_nameOf.l0 (k + d + 30) l (i : Int) = some (l.take (i + nameGo (d + 1) (i == 0) (l.drop i))) := by
  intro d
  induction d with
  | zero =>
    intro i k h1 h2
    have e : l.drop i = [] := List.drop_eq_nil_of_le (by omega)
    rw [show k + 0 + 30 = (k + 29) + 1 from rfl, xmllex_nameOf.l0, if_pos (by omega), if_pos (by omega), Int.toNat_natCast, chars_Decode_spec _ (hl.drop i), Option.bind_some, e]
    have e2 : (dec []).2 = 0 := rfl
    rw [if_pos e2]
    simp only [nameGo]
    rw [if_pos (Or.inl e2), Nat.add_zero]
  | succ d ih =>
    intro i k h1 h2
    have hd := dec_two (hl.drop i)
    rw [show k + (d + 1) + 30 = (k + d + 30) + 1 from by omega, xmllex_nameOf.l0, if_pos (by omega), if_pos (by omega), Int.toNat_natCast, chars_Decode_spec _ (hl.drop i), Option.bind_some]
    generalize hw : dec (l.drop i) = w at hd
    rw [nameGo, hw]
    rw [List.length_drop] at hd
    by_cases c0 : w.2 = 0
    · rw [if_pos c0, if_pos (Or.inl c0), Nat.add_zero]
    rw [if_neg c0, show k + d + 30 = (k + d + 10) + 20 from rfl, first_spec _ _ hd.2.2.1, later_spec _ _ hd.2.2.1]
    simp only [Option.bind_some]
    have e1 : wrap64 ((i : Int) + w.2) = ((i + w.2.toNat : Nat) : Int) := by rw [x64 _ (by omega) (by omega)]; omega
    have h3 := ih (i + w.2.toNat) k (by omega) (by omega)
    rw [show k + d + 30 = (k + d + 10) + 20 from rfl] at h3
    rw [e1, h3, show ((i + w.2.toNat == 0) : Bool) = false from by rw [beq_eq_false_iff_ne]; omega, List.drop_drop, Nat.add_assoc]
    by_cases c1 : i = 0
    · subst c1
      rw [if_pos (by rfl)]
      cases hf : firstC w.1 <;> cases hg : laterC w.1 <;> simp [c0]
    · rw [if_neg (by omega)]
      have : (i == 0) = false := by rw [beq_eq_false_iff_ne]; exact c1
      cases hg : laterC w.1 <;> simp [c0, this]
theorem nameOf_spec (l : List Int) (hl : Bytes l) (hs : l.length ≤ 1000000000) (k : Nat) : xmllex_nameOf.f (k + l.length + 30) l = some (l.take (nameL l)) := by
  have := nameOf_at l hl hs l.length 0 k (by omega) (by omega)
  rw [Nat.zero_add] at this
  exact this
end Go.Proofs.YtccfmfifnbnlmaaDoor.Xm
end
section
/- What is known of each function: its word; and the contexts in which it is reckoned. -/
-- prev dossierref05_name
set_option linter.unusedVariables false
namespace Go.Proofs.YtccfmfifnbnlmaaDoor.Ev
open Go
/-- Bytes to be looked through for a text. -/
def seekB (b c : List Int) : Prop := (byteB b = true ∧ byteB c = true) ∧ (b.length < 4294967281 ∧ 0 < c.length ∧ c.length ≤ 1000)
instance (b c : List Int) : Decidable (seekB b c) := by unfold seekB; infer_instance
def cutX (b c : List Int) : Option (List Int × List Int × Bool) := if seekB b c then (if 0 ≤ bIndexW b c then some (b.take (bIndexW b c).toNat,b.drop ((bIndexW b c).toNat + c.length),true) else some (b,[],false)) else none
def containsX (b c : List Int) : Option Bool := if seekB b c then some (bIndexW b c != -1) else none
def replX (l m r : List Int) : Option (List Int) := if (byteB l = true ∧ byteB m = true) ∧ (l.length < 4294967281 ∧ 1 ≤ m.length ∧ m.length ≤ 2 ∧ r.length = 1) then some (replW l m r) else none
noncomputable def cx_bytes_Equal := cxOf specs_xmllex_nameOf
noncomputable def bytes_Equal.spec : Spec := fun args st K => match args,st.box,st.nt with
 | [.sl (.int .u8) b .no,.sl (.int .u8) c .no],[],0 => (Q.bytes_Equal.f b c).bind fun v => K (.ret (.bool v)) (lcRet [] [] 0)
 | _,_,_ => none
noncomputable def specs_bytes_Equal : SpecL := (16,false,bytes_Equal.spec) :: specs_xmllex_nameOf
noncomputable def cx_bytes_HasPrefix := cxOf specs_bytes_Equal
noncomputable def bytes_HasPrefix.spec : Spec := fun args st K => match args,st.box,st.nt with
 | [.sl (.int .u8) b .no,.sl (.int .u8) c .no],[],0 => (Q.bytes_HasPrefix.f b c).bind fun v => K (.ret (.bool v)) (lcRet [] [] 0)
 | _,_,_ => none
noncomputable def specs_bytes_HasPrefix : SpecL := (8,false,bytes_HasPrefix.spec) :: specs_bytes_Equal
noncomputable def cx_bytes_CutPrefix := cxOf specs_bytes_HasPrefix
noncomputable def bytes_CutPrefix.spec : Spec := fun args st K => match args,st.box,st.nt with
 | [.sl (.int .u8) b .no,.sl (.int .u8) c .no],[],0 => (Q.bytes_CutPrefix.f b c).bind fun v => K (.ret (.tup [.sl (.int .u8) (v.1) .no,.bool v.2])) (lcRet [] [] 0)
 | _,_,_ => none
noncomputable def specs_bytes_CutPrefix : SpecL := (35,false,bytes_CutPrefix.spec) :: specs_bytes_HasPrefix
noncomputable def cx_stringslite_HasPrefix := cxOf specs_bytes_CutPrefix
noncomputable def stringslite_HasPrefix.spec : Spec := fun args st K => match args,st.box,st.nt with
 | [.str s,.str t],[],0 => (Q.stringslite_HasPrefix.f s t).bind fun v => K (.ret (.bool v)) (lcRet [] [] 0)
 | _,_,_ => none
noncomputable def specs_stringslite_HasPrefix : SpecL := (74,false,stringslite_HasPrefix.spec) :: specs_bytes_CutPrefix
noncomputable def cx_stringslite_CutPrefix := cxOf specs_stringslite_HasPrefix
noncomputable def stringslite_CutPrefix.spec : Spec := fun args st K => match args,st.box,st.nt with
 | [.str s,.str t],[],0 => (Q.stringslite_CutPrefix.f s t).bind fun v => K (.ret (.tup [.str v.1,.bool v.2])) (lcRet [] [] 0)
 | _,_,_ => none
noncomputable def specs_stringslite_CutPrefix : SpecL := (65,false,stringslite_CutPrefix.spec) :: specs_stringslite_HasPrefix
noncomputable def cx_strings_CutPrefix := cxOf specs_stringslite_CutPrefix
noncomputable def strings_CutPrefix.spec : Spec := fun args st K => match args,st.box,st.nt with
 | [.str s,.str t],[],0 => (Q.strings_CutPrefix.f s t).bind fun v => K (.ret (.tup [.str v.1,.bool v.2])) (lcRet [] [] 0)
 | _,_,_ => none
noncomputable def specs_strings_CutPrefix : SpecL := (52,false,strings_CutPrefix.spec) :: specs_stringslite_CutPrefix
noncomputable def cx_bytes_Cut := cxOf specs_strings_CutPrefix
noncomputable def bytes_Cut.spec : Spec := fun args st K => match args,st.box,st.nt with
 | [.sl (.int .u8) b .no,.sl (.int .u8) c .no],[],0 => (cutX b c).bind fun v => K (.ret (.tup [.sl (.int .u8) (v.1) .no,.sl (.int .u8) (v.2.1) .no,.bool v.2.2])) (lcRet [] [] 0)
 | _,_,_ => none
noncomputable def specs_bytes_Cut : SpecL := (21,false,bytes_Cut.spec) :: specs_strings_CutPrefix
noncomputable def cx_bytes_Contains := cxOf specs_bytes_Cut
noncomputable def bytes_Contains.spec : Spec := fun args st K => match args,st.box,st.nt with
 | [.sl (.int .u8) b .no,.sl (.int .u8) c .no],[],0 => (containsX b c).bind fun v => K (.ret (.bool v)) (lcRet [] [] 0)
 | _,_,_ => none
noncomputable def specs_bytes_Contains : SpecL := (27,false,bytes_Contains.spec) :: specs_bytes_Cut
noncomputable def cx_bytes_ReplaceAll := cxOf specs_bytes_Contains
noncomputable def bytes_ReplaceAll.spec : Spec := fun args st K => match args,st.box,st.nt with
 | [.sl (.int .u8) b .no,.sl (.int .u8) c .no,.sl (.int .u8) d .no],[],0 => (replX b c d).bind fun v => K (.ret (.sl (.int .u8) (v) .no)) (lcRet [] [] 0)
 | _,_,_ => none
noncomputable def specs_bytes_ReplaceAll : SpecL := (36,false,bytes_ReplaceAll.spec) :: specs_bytes_Contains
end Go.Proofs.YtccfmfifnbnlmaaDoor.Ev
end
