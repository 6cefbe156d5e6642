/- Several texts in one, in their order. -/
import Derived.Test.YtccfmfifnbnlmaaDoorBXmllexGoes7
import Derived.Shelf.Bytes.WriteAny
import Derived.Shelf.Bytes.String
import Derived.LoopTactic
import Derived.KernelRfl
section
/- xmllex.resolve, walked over a buffer of its own. -/
set_option linter.unusedVariables false
set_option linter.unusedSimpArgs false
namespace Go.Proofs
open Go.Shelf Go.RowKit
variable {P : Program} {ρ : Ren}
set_option maxHeartbeats 6400000 in
set_option maxRecDepth 100000 in
/-- (*bytes.Buffer).Write of no byte. -/
theorem YtccfmfifnbnlmaaDoor.Ev.write_none (L : LaysM.n180 P ρ) (B b : Nat) (bs : List Value) (p : Option Addr) (c : Nat) (w : World) (h : Lib.IsBuffer (ρ.t 93) (ρ.t 5) B b bs w) (hBw : B ≤ w.heap.size) :
 Calls P (ρ.f 180) #[.pointer (some ⟨b,0,none⟩),.slice p 0 c] w fun e w' => e = .returned (.tuple #[.int .i64 0,.nilIface]) ∧ Lib.IsBuffer (ρ.t 93) (ρ.t 5) B b bs w' ∧ Below B w w' := by
 have mixed := L.mixed
 have t5 := L.t5; have a5 := L.a5; have z5 := L.z5; have v5 := L.v5
 have t130 := L.t130; have a130 := L.a130; have z130 := L.z130; have v130 := L.v130
 have t37 := L.t37; have a37 := L.a37; have z37 := L.z37; have v37 := L.v37
 have t3 := L.t3; have a3 := L.a3; have z3 := L.z3; have v3 := L.v3
 have t75 := L.t75; have a75 := L.a75; have z75 := L.z75; have v75 := L.v75
 have t0 := L.t0; have a0 := L.a0; have z0 := L.z0; have v0 := L.v0
 have t93 := L.t93; have u93 := run_underlying L.t93; have a93 := L.a93; have z93 := L.z93; have v93 := L.v93
 have t91 := L.t91; have a91 := L.a91; have z91 := L.z91; have v91 := L.v91
 have t131 := L.t131; have a131 := L.a131; have z131 := L.z131; have v131 := L.v131
 have t4 := L.t4; have a4 := L.a4; have z4 := L.z4; have v4 := L.v4
 have e251 : ∀ args w,(callFunc (ρ.f 251) args).run P w = .ok (.enter (ρ.f 251) args) w := enters_of L.f251 (by kernel_rfl) rfl
 have e252 : ∀ args w,(callFunc (ρ.f 252) args).run P w = .ok (.enter (ρ.f 252) args) w := enters_of L.f252 (by kernel_rfl) rfl
 obtain ⟨hB,v0,lr,hbk,-,-⟩ := id h
 have c2 : w.cell? ⟨b,2,none⟩ = some (.int .i8 lr) := by rw [Lib.cell_of_heap hbk]; rfl
 have f2 : w.frozen? ⟨b,2,none⟩ = false := Lib.frozen_of_heap hbk 2
 have h' := h.setLast 0
 have hbel0 : Below B w (w.setCell ⟨b,2,none⟩ (.int .i8 0)) := (Below.refl B w).setCell (p := ⟨b,2,none⟩) hB _
 have hBw' : B ≤ (w.setCell ⟨b,2,none⟩ (.int .i8 0)).heap.size := by simpa [World.setCell] using hBw
 clear hbk v0
 have hinfo : (P.info? (ρ.t 5)).map (·.size) = some 1 := by
  obtain ⟨i0,hi,-,hz1,-⟩ := info_parts L.i5
  rw [hi]; simp [hz1]
 have hce : ∀ d dLen dCap W,(Builtin.copy_ #[(ρ.t 37),(ρ.t 37)] (ρ.t 3) #[.slice d dLen dCap,.slice p 0 c]).run P W = .ok (goInt 0) W := fun d dLen dCap W => run_copy_none W (ρ.t 37) (ρ.t 37) (ρ.t 3) (ρ.t 5) d p dLen dCap 0 c L.t37 hinfo (by simp)
 have hT : ∀ W,Lib.IsBuffer (ρ.t 93) (ρ.t 5) B b bs W → Calls P (ρ.f 251) #[.pointer (some ⟨b,0,none⟩),.int .i64 0] W _ := fun W hW => Any.Buffer_tryGrow_own { L with } B b 0 bs W hW
 go_enter L.f180,Body.n180_ntmps ρ
 go_wp2_with (go_at_fn (ρ.f 251); refine (hT _ ?_).mono ?_)
 · exact h'
 rintro e W1 (⟨rfl,xs,hxl,hI,hbel,hk,hg⟩ | ⟨rfl,rfl,hnr⟩)
 · clear h' c2 f2 hT
   have hx0 : xs = [] := List.eq_nil_of_length_eq_zero hxl
   subst hx0
   rw [List.append_nil] at hI
   obtain ⟨-,lr2,hc⟩ := hI.cases
   rcases hc with ⟨hb0,hbk2⟩ | ⟨g,cap,cur,hbk2,-,-,hnc,hcm,-,-,-⟩
   · subst hb0
     have d0 : W1.cell? ⟨b,0,none⟩ = some (.slice none 0 0) := by rw [Lib.cell_of_heap hbk2]; rfl
     go_wp2
     all_goals (go_ret2; first | exact ⟨rfl,hI,hbel0.trans hbel⟩ | exact ⟨by simp,by simpa using hI,hbel0.trans hbel⟩)
   · have d0 : W1.cell? ⟨b,0,none⟩ = some (.slice (some ⟨g,0,none⟩) bs.length cap) := by rw [Lib.cell_of_heap hbk2]; rfl
     unfold maxLen at hcm
     go_wp2
     all_goals (go_ret2; first | exact ⟨rfl,hI,hbel0.trans hbel⟩ | exact ⟨by simp,by simpa using hI,hbel0.trans hbel⟩)
 · obtain ⟨_,_,_,_,hlt⟩ := hnr
   omega
end Go.Proofs
namespace Go.Proofs.YtccfmfifnbnlmaaDoor.Ev
open Go Go.RowKit
/-- A buffer with these bytes. -/
abbrev IsB (B b : Nat) (acc : List Int) (w : World) : Prop := Lib.IsBuffer (Tryd.layBufWrite_ren.t 93) (Tryd.layBufWrite_ren.t 5) B b (acc.map (Value.int .u8)) w
theorem ones8 (l : List Int) : ∀ v ∈ l.map (Value.int .u8),v.oneCell' = true := fun v hv => by
 obtain ⟨x,_,rfl⟩ := List.mem_map.1 hv
 rfl
theorem write_rel {B b : Nat} {acc l : List Int} {g : Gh} {p : Perm} {v : Value} {w : World} (h : IsB B b acc w) (hB : B ≤ w.heap.size) (hv : RelV C0 g (.sl (.int .u8) l p) v) (hi : ∀ b o x,g.own b o = .imm x → w.cell? ⟨b,o,none⟩ = some x) (hl : acc.length + l.length ≤ 140737488355328) :
 Calls Tryd.prog 41 #[.pointer (some ⟨b,0,none⟩),v] w fun e w' => (∃ n : Nat,e = .returned (.tuple #[.int .i64 n,.nilIface])) ∧ IsB B b (acc ++ l) w' ∧ Below B w w' := by
 have none' : ∀ (q : Option Addr) (c : Nat),l = [] → Calls Tryd.prog 41 #[.pointer (some ⟨b,0,none⟩),.slice q 0 c] w fun e w' => (∃ n : Nat,e = .returned (.tuple #[.int .i64 n,.nilIface])) ∧ IsB B b (acc ++ l) w' ∧ Below B w w' := by
  intro q c e
  rw [e,List.append_nil]
  exact (write_none Tryd.layBufWrite B b _ q c w h hB).mono fun e w' ⟨h1,h2,h3⟩ => ⟨⟨0,h1⟩,h2,h3⟩
 cases hv with
 | sl0 => exact none' none 0 rfl
 | sle => exact none' _ 0 rfl
 | sl hs hm hle hp =>
  rename_i blk off cap vs
  obtain rfl := RelVs.nums hs
  cases l with
  | nil => exact none' _ cap rfl
  | cons x t =>
   have hc : ∀ j u,((x :: t).map (Value.int .u8))[j]? = some u → w.cell? ((⟨blk,off,none⟩ : Addr).add j) = some u := fun j u hj => by
    rw [Lib.addr_add]
    exact hi _ _ _ (hm j u hj)
   have hab : blk ≠ b := by
    intro e
    have h0 := hi _ _ _ (hm 0 (.int .u8 x) rfl)
    obtain ⟨_,v0,lr,hbk,_⟩ := h
    rw [e] at h0
    unfold World.cell? at h0
    rw [show (⟨b,off + 0,none⟩ : Addr).block = b from rfl,hbk] at h0
    dsimp only at h0
    have : off = 0 ∨ off = 1 ∨ off = 2 ∨ 3 ≤ off := by omega
    rcases this with rfl | rfl | rfl | h3
    · simp at h0
      rename_i hown
      subst h0
      rcases hown.1.2 with ⟨q,_⟩ | ⟨_,_,_,q,_⟩ <;> cases q
    · simp at h0
    · simp at h0
    · simp at h0
      have h9 := (List.getElem?_eq_some_iff.1 h0).1
      simp at h9
      omega
   have hlen : (x :: t).length = ((x :: t).map (Value.int .u8)).length := (List.length_map _).symm
   refine (Any.Buffer_Write_any Tryd.layBufWrite B b (acc.map (Value.int .u8)) ((x :: t).map (Value.int .u8)) ⟨blk,off,none⟩ (x :: t).length cap w h hB (ones8 _) hlen.symm hab hc (ones8 _) (by rw [List.length_map]; exact hl)).mono fun e w' ⟨h1,h2,h3,_⟩ => ?_
   rw [← List.map_append] at h2
   exact ⟨⟨_,h1⟩,h2,h3⟩
theorem bytes_cells {l : List Int} (h : byteB l = true) : l.map (Value.int .u8) = Lib.byteCells (Lib.bytesOf l) := by
 unfold Lib.byteCells Lib.bytesOf
 rw [List.map_map]
 refine List.map_congr_left fun x hx => ?_
 have := byteB_all h x hx
 show Value.int .u8 x = Value.int .u8 ((UInt8.ofNat x.toNat).toNat : Int)
 congr 1
 simp
 omega
theorem string_of {B b : Nat} {acc : List Int} {w : World} (h : IsB B b acc w) (hb : byteB acc = true) : Calls Tryd.prog 42 #[.pointer (some ⟨b,0,none⟩)] w fun e w' => e = .returned (.string (ofBytes acc)) ∧ Below w.heap.size w w' := by
 unfold IsB at h
 rw [bytes_cells hb] at h
 exact (Any.Buffer_String Tryd.layBufString B b (Lib.bytesOf acc) w h).mono fun e w' ⟨h1,n,h2⟩ => ⟨h1,by rw [h2]; exact below_drewW _ _⟩
theorem lines_at {B : Nat} {w : World} {l : List Int} {p : Option Addr} {c : Nat} (v : Bool) (h : Sb B w l p c) (hb : okB l) (hA : Assumed w) : Calls Tryd.prog 22 #[.slice p l.length c,.bool v] w fun e w' => ∃ u,e = .returned u ∧ Below w.heap.size w w' ∧ ∃ g' : Gh,(∀ b o x,g'.own b o = .imm x → w'.cell? ⟨b,o,none⟩ = some x) ∧ RelV C0 g' (.sl (.int .u8) (linesW l v) .no) u := by
 refine callWord (args := [.sl (.int .u8) l .no,.bool v]) (st' := lcRet [] [] 0) (xmllex_lines.ok _ (List.mem_cons_self ..)).2 ?_ hA [_,_] (.cons h.rel (.cons (.bool v) .nil))
 show Option.bind (linesX l v) _ = _
 unfold linesX
 rw [if_pos hb]
 rfl
theorem named_at {w : World} (s : ByteArray) (hs : s.size ≤ 8000000) (hA : Assumed w) : Calls Tryd.prog 43 #[.string s] w fun e w' => e = .returned (.tuple #[.int .i64 (Xm.namedW (toBytes s)).1,.bool (Xm.namedW (toBytes s)).2]) ∧ Below w.heap.size w w' := by
 have := callWord (args := [.str s]) (v := .tup [.int .i64 (Xm.namedW (toBytes s)).1,.bool (Xm.namedW (toBytes s)).2]) (st' := lcRet [] [] 0) (w := w) (xmllex_named.ok _ (List.mem_cons_self ..)).2 (by
  show Option.bind (namedX s) _ = _
  unfold namedX
  rw [if_pos hs]
  rfl) hA [_] (.cons (.str s) .nil)
 refine this.mono fun e w' ⟨c,h1,h2,g',_,h3⟩ => ?_
 cases h3 with
 | tup h4 =>
  cases h4 with
  | cons h5 h6 =>
   cases h6 with
   | cons h7 h8 =>
    cases h8; cases h5; cases h7
    exact ⟨h1,h2⟩
theorem enc_at {w : World} (z : Int) (hA : Assumed w) : Calls Tryd.prog 44 #[.int .i64 z] w fun e w' => ∃ u,e = .returned u ∧ Below w.heap.size w w' ∧ ∃ g' : Gh,(∀ b o x,g'.own b o = .imm x → w'.cell? ⟨b,o,none⟩ = some x) ∧ RelV C0 g' (.sl (.int .u8) (Chars.enc z) .em) u :=
 callWord (args := [.int .i64 z]) (st' := lcRet [] [] 0) encS_ok rfl hA [_] (.cons (.int _ z) .nil)
/-- A text with its references resolved; an error and its place (`n`: how many bytes there were at first). -/
def resGo (n : Nat) (v : Bool) : Nat → List Int → List Int → List Int × Int × Int
 | 0,_,acc => (acc,0,0)
 | d + 1,l,acc => if bIndexW l [38] < 0 then (acc ++ linesW l v,0,0) else
  let u := l.drop ((bIndexW l [38]).toNat + 1)
  let a : Int := (n : Int) - u.length - 1
  if bIndexW u [59] < 0 then ([],a,13) else
  let r := Xm.namedW (u.take (bIndexW u [59]).toNat)
  if r.2 = false then ([],a,13) else resGo n v d (u.drop ((bIndexW u [59]).toNat + 1)) (acc ++ linesW (l.take (bIndexW l [38]).toNat) v ++ Chars.enc r.1)
theorem lines_len (l : List Int) (v : Bool) : (linesW l v).length ≤ l.length := by
 have := crlf_len l
 unfold linesW
 split <;> simp only [List.length_map] <;> exact this
theorem lines_byte {l : List Int} (v : Bool) (h : byteB l = true) : byteB (linesW l v) = true := by
 obtain ⟨k1,_⟩ := byteB_crlf h
 have b1 : byteB ((crlf l).map r2n) = true := byteB_map (by decide) k1
 have b2 : byteB (((crlf l).map r2n).map n2s) = true := byteB_map (by decide) b1
 have b3 : byteB ((((crlf l).map r2n).map n2s).map t2s) = true := byteB_map (by decide) b2
 unfold linesW
 split
 · exact b3
 · exact b1
theorem byteB_app {l m : List Int} (h1 : byteB l = true) (h2 : byteB m = true) : byteB (l ++ m) = true := by
 unfold byteB at *
 rw [List.all_append,h1,h2]; rfl
theorem byteB_enc (r : Int) : byteB (Chars.enc r) = true := by
 unfold byteB
 rw [List.all_eq_true]
 intro x hx
 have := Chars.enc_bytes r x hx
 simp [this]
theorem enc_le (r : Int) : (Chars.enc r).length ≤ 4 := by
 rw [Chars.enc_len]
 repeat' split
 all_goals omega
theorem zero_buf : (Tryd.prog.info? 64).map (fun i => (i.zero,i.size)) = some (some (.agg #[.slice none 0 0,.int .i64 0,.int .i8 0]),3) := by kernel_rfl
theorem conv_at {w : World} {B : Nat} {l : List Int} {p : Option Addr} {c : Nat} (h : Sb B w l p c) (hA : Assumed w) : (Go.convert 22 9 (.slice p l.length c)).run Tryd.prog w = .ok (.string (ofBytes l)) w :=
 convert_bytes_str (C := C0) (st := lcSt [] 0) (S := fun _ _ => false) (w0 := w) (e := 5) Tryd.underlying22 Tryd.underlying9 Tryd.underlying5 (srel0 (U := U0) (C := C0) hA 0).h h.rel
theorem isB_below {B b : Nat} {acc : List Int} {w w' : World} (h : IsB B b acc w) (hb : Below w.heap.size w w') : IsB B b acc w' := by
 obtain ⟨hB,v,lr,hv,hrow,hne⟩ := h
 refine ⟨hB,v,lr,?_,Go.Proofs.YtccfmfifnbnlmaaDoorW.PrintWords.own_move hrow (fun k hk => hb.block k (Go.Proofs.YtccfmfifnbnlmaaDoorW.PrintWords.own_lt hrow k hk)),hne⟩
 rw [hb.block b ?_]
 · exact hv
 · rcases Nat.lt_or_ge b w.heap.size with h1 | h1
   · exact h1
   · rw [Array.getElem?_eq_none h1] at hv; cases hv
/-- Ahead of a call that cuts at a sign: the sign's row is new. -/
theorem cut_at (B : Nat) (l : List Int) (p : Option Addr) (n c : Nat) (x : Int) (w : World) (hn : n = l.length) (h : Sb B w l p c) (hB : B ≤ w.heap.size) (hb : byteB l = true) (hx : 0 ≤ x ∧ x < 256) (hl : l.length ≤ 8000000) (hA : Assumed w) :
 Calls Tryd.prog 21 #[.slice p n c,.slice (some ⟨w.heap.size,0,none⟩) 1 1] (w.alloc (.cells #[.int .u8 x] 5)) fun e w' => Below w.heap.size w w' ∧
  ((0 ≤ bIndexW l [x] ∧ e = .returned (.tuple #[.slice p (bIndexW l [x]).toNat c,.slice (fromP p c ((bIndexW l [x]).toNat + 1)) (n - ((bIndexW l [x]).toNat + 1)) (c - ((bIndexW l [x]).toNat + 1)),.bool true])) ∨
   (bIndexW l [x] < 0 ∧ e = .returned (.tuple #[.slice p n c,.slice none 0 0,.bool false]))) := by
 have hbl : Below w.heap.size w (w.alloc (.cells #[.int .u8 x] 5)) := (Below.refl _ _).alloc (Nat.le_refl _) _
 refine (cut_walk B l p n c x w.heap.size 0 1 _ hn.symm (h.below hB ⟨hbl.os,hbl.tape,hbl.output,hbl.size,fun k hk => hbl.block k (Nat.lt_of_lt_of_le hk hB)⟩) hb hx hl (Nat.le_refl 1) ?_ (assumed_below hA hbl)).mono fun e w' ⟨h1,h2⟩ => ⟨?_,h2⟩
 · rw [cell_alloc_new]; rfl
 · have hs : (w.alloc (.cells #[.int .u8 x] 5)).heap.size = w.heap.size + 1 := by simp
   exact ⟨h1.os.trans hbl.os,h1.tape.trans hbl.tape,h1.output.trans hbl.output,Nat.le_trans hbl.size h1.size,fun k hk => (h1.block k (by omega)).trans (hbl.block k hk)⟩
theorem low {B : Nat} {w w' : World} (hb : Below w.heap.size w w') (hB : B ≤ w.heap.size) : Below B w w' := ⟨hb.os,hb.tape,hb.output,hb.size,fun k hk => hb.block k (Nat.lt_of_lt_of_le hk hB)⟩
theorem ofBytes_size (l : List Int) : (ofBytes l).size = l.length := by
 show (l.map _).toArray.size = _
 rw [List.size_toArray,List.length_map]
theorem toBytes_of {l : List Int} (h : byteB l = true) : toBytes (ofBytes l) = l := by
 unfold toBytes ofBytes
 dsimp only
 rw [List.map_map]
 have h' := byteB_all h
 have : ∀ x ∈ l,((fun b : UInt8 => (b.toNat : Int)) ∘ fun n : Int => UInt8.ofNat n.toNat) x = x := fun x hx => by
  have := h' x hx
  simp
  omega
 rw [List.map_congr_left this,List.map_id']
theorem resGo_fuel (n : Nat) (v : Bool) : ∀ (d e : Nat) (l acc : List Int),l.length < d → l.length < e → resGo n v d l acc = resGo n v e l acc
 | 0,_,_,_,h,_ => absurd h (Nat.not_lt_zero _)
 | _,0,_,_,_,h => absurd h (Nat.not_lt_zero _)
 | d + 1,e + 1,l,acc,h1,h2 => by
  rw [resGo,resGo]
  by_cases c0 : bIndexW l [38] < 0
  · rw [if_pos c0,if_pos c0]
  rw [if_neg c0,if_neg c0]
  dsimp only
  by_cases c1 : bIndexW (l.drop ((bIndexW l [38]).toNat + 1)) [59] < 0
  · rw [if_pos c1,if_pos c1]
  rw [if_neg c1,if_neg c1]
  by_cases c2 : (Xm.namedW ((l.drop ((bIndexW l [38]).toNat + 1)).take (bIndexW (l.drop ((bIndexW l [38]).toNat + 1)) [59]).toNat)).2 = false
  · rw [if_pos c2,if_pos c2]
  rw [if_neg c2,if_neg c2]
  have hl : 0 < l.length := by
   cases l with
   | nil => rw [bIndex_nil (by decide)] at c0; exact absurd (by decide) c0
   | cons x t => simp
  have hlen : ((l.drop ((bIndexW l [38]).toNat + 1)).drop ((bIndexW (l.drop ((bIndexW l [38]).toNat + 1)) [59]).toNat + 1)).length < l.length := by
   rw [List.length_drop,List.length_drop]; omega
  exact resGo_fuel n v d e _ _ (by omega) (by omega)
/-- What holds at the head of the loop. -/
structure ResInv (w : World) (n : Nat) (v : Bool) (fin : List Int × Int × Int) (l : List Int) (p : Option Addr) (c : Nat) (acc : List Int) (wr : World) : Prop where
 sb : Sb w.heap.size wr l p c
 okb : byteB l = true
 len : l.length ≤ n
 size : acc.length + 4 * l.length ≤ 4 * n
 byt : byteB acc = true
 buf : IsB w.heap.size w.heap.size acc wr
 below : Below w.heap.size w wr
 go : resGo n v (l.length + 1) l acc = fin
set_option maxHeartbeats 400000 in
set_option maxRecDepth 100000 in
theorem res_walk (l : List Int) (v : Bool) (p : Option Addr) (n c : Nat) (w : World) (hn : l.length = n) (h : Sb w.heap.size w l p c) (hb : okB l) (hA : Assumed w) (r1 : List Int) (r2 r3 : Int) (hr : resGo n v (n + 1) l [] = (r1,r2,r3)) :
 Calls Tryd.prog 28 #[.slice p n c,.bool v] w fun e w' => e = .returned (.tuple #[.string (ofBytes r1),.int .i64 r2,.int .i64 r3]) ∧ Below w.heap.size w w' := by
 have hz := zero_of_info zero_buf
 have hn8 : n ≤ 8000000 := by rw [← hn]; exact hb.2
 have HI : Aside (ResInv w n v (r1,r2,r3) l p c [] (w.alloc (.cells #[.slice none 0 0,.int .i64 0,.int .i8 0] 64))) := by
  have hbl : Below w.heap.size w (w.alloc (.cells #[.slice none 0 0,.int .i64 0,.int .i8 0] 64)) := (Below.refl _ _).alloc (Nat.le_refl _) _
  exact ⟨h.below (Nat.le_refl _) hbl,hb.1,by omega,by simp; omega,rfl,Lib.fresh_isBuffer _ _ w,hbl,by rw [hn]; exact hr⟩
 have HA : Aside (Assumed w) := hA
 have HN : Aside (n = l.length) := hn.symm
 clear h hb hA hr hn
 go_enter Tryd.func28,Tryd.ntmps28
 go_wp2
 go_loopg [9] n (fun k s wr => ∃ (l' : List Int) (p' : Option Addr) (n' c' : Nat) (acc : List Int),Aside (n' = l'.length) ∧ n' ≤ k ∧ s = .slice p' n' c' ∧ Aside (ResInv w n v (r1,r2,r3) l' p' c' acc wr))
 case atStart => exact ⟨l,p,n,c,[],HN,Nat.le_refl _,rfl,HI⟩
 case round =>
  obtain ⟨l',p',n',c',acc,hl',hk,rfl,HJ⟩ := hrel
  have hA1 : Aside (Assumed wr) := assumed_below HA.out HJ.out.below
  have hl8 : Aside (l'.length ≤ 8000000) := by have := HJ.out.len; exact (by omega : l'.length ≤ 8000000)
  have hBr : Aside (w.heap.size ≤ wr.heap.size) := HJ.out.below.size
  have hcut := cut_at w.heap.size l' p' n' c' 38 wr hl'.out HJ.out.sb hBr.out HJ.out.okb (by decide) hl8.out hA1.out
  by_cases h0 : bIndexW l' [38] < 0
  · have hcut2 : Calls Tryd.prog 21 #[.slice p' n' c',.slice (some ⟨wr.heap.size,0,none⟩) 1 1] (wr.alloc (.cells #[.int .u8 38] 5)) fun e w' => e = .returned (.tuple #[.slice p' n' c',.slice none 0 0,.bool false]) ∧ Below wr.heap.size wr w' :=
     hcut.mono fun e w' ⟨h1,h2⟩ => ⟨(h2.resolve_left (fun q => by omega)).2,h1⟩
    have HF : Aside (resGo n v (l'.length + 1) l' acc = (acc ++ linesW l' v,0,0)) := by rw [resGo,if_pos h0]; exact rfl
    clear hcut h0
    go_wp2_with (go_at_call 21; refine hcut2.mono ?_; rintro e w1 ⟨rfl,hb1⟩)
    have B1 : Aside (Below w.heap.size w w1) := HJ.out.below.trans (low hb1 hBr.out)
    have S1 : Aside (w.heap.size ≤ w1.heap.size) := B1.out.size
    have A1 : Aside (Assumed w1) := assumed_below HA.out B1.out
    have I1 : Aside (IsB w.heap.size w.heap.size acc w1) := isB_below HJ.out.buf hb1
    have hlines : Calls Tryd.prog 22 #[.slice p' n' c',.bool v] w1 fun e w' => ∃ u,e = .returned u ∧ Below w1.heap.size w1 w' ∧ ∃ g' : Gh,(∀ b o x,g'.own b o = .imm x → w'.cell? ⟨b,o,none⟩ = some x) ∧ RelV C0 g' (.sl (.int .u8) (linesW l' v) .no) u := by
     have := lines_at v (HJ.out.sb.below hBr.out (low hb1 hBr.out)) ⟨HJ.out.okb,hl8.out⟩ A1.out
     rwa [← hl'.out] at this
    clear hb1 hcut2
    go_wp2_with (go_at_call 22; refine hlines.mono ?_; rintro e w2 ⟨u,rfl,hb2,g2,hi2,hr2⟩)
    have B2 : Aside (Below w.heap.size w w2) := B1.out.trans (low hb2 S1.out)
    have A2 : Aside (Assumed w2) := assumed_below HA.out B2.out
    have hwr : Calls Tryd.prog 41 #[.pointer (some ⟨w.heap.size,0,none⟩),u] w2 fun e w' => (∃ n : Nat,e = .returned (.tuple #[.int .i64 n,.nilIface])) ∧ IsB w.heap.size w.heap.size (acc ++ linesW l' v) w' ∧ Below w.heap.size w2 w' :=
     write_rel (isB_below I1.out hb2) B2.out.size hr2 hi2 (by have h1 := HJ.out.size; have h2 := lines_len l' v; have h3 := hl8.out; omega)
    clear hb2 hi2 hr2 hlines
    go_wp2_with (go_at_call 41; refine hwr.mono ?_; rintro e w3 ⟨⟨m,rfl⟩,hI3,hb3⟩)
    have B3 : Aside (Below w.heap.size w w3) := B2.out.trans hb3
    have hstr := string_of hI3 (byteB_app HJ.out.byt (lines_byte v HJ.out.okb))
    clear hI3 hb3 hwr
    go_wp2_with (go_at_call 42; refine hstr.mono ?_; rintro e w4 ⟨rfl,hb4⟩)
    have B4 : Aside (Below w.heap.size w w4) := B3.out.trans (low hb4 B3.out.size)
    clear hb4 hstr
    go_ret3
    have hfin := HF.out.symm.trans HJ.out.go
    obtain ⟨rfl,e2⟩ := Prod.mk.inj hfin
    obtain ⟨rfl,rfl⟩ := Prod.mk.inj e2
    exact ⟨rfl,B4.out⟩
  · obtain ⟨i,hi⟩ : ∃ i : Nat,bIndexW l' [38] = i := ⟨(bIndexW l' [38]).toNat,by omega⟩
    have hil : i + 1 ≤ l'.length := by
     have := (bIndex_lt (l := l') (m := [38])).2
     rw [hi,if_neg (by omega)] at this
     simp only [List.length_cons,List.length_nil] at this
     omega
    have hcut2 : Calls Tryd.prog 21 #[.slice p' n' c',.slice (some ⟨wr.heap.size,0,none⟩) 1 1] (wr.alloc (.cells #[.int .u8 38] 5)) fun e w' => e = .returned (.tuple #[.slice p' i c',.slice (fromP p' c' (i + 1)) (n' - (i + 1)) (c' - (i + 1)),.bool true]) ∧ Below wr.heap.size wr w' :=
     hcut.mono fun e w' ⟨h1,h2⟩ => ⟨by have := (h2.resolve_right (fun q => by omega)).2; rw [hi,Int.toNat_natCast] at this; exact this,h1⟩
    have HI0 : Aside (bIndexW l' [38] = i) := hi
    have HIL : Aside (i + 1 ≤ l'.length) := hil
    clear hcut h0 hi hil
    go_wp2_with (go_at_call 21; refine hcut2.mono ?_; rintro e w1 ⟨rfl,hb1⟩)
    have B1 : Aside (Below w.heap.size w w1) := HJ.out.below.trans (low hb1 hBr.out)
    have S1 : Aside (w.heap.size ≤ w1.heap.size) := B1.out.size
    have A1 : Aside (Assumed w1) := assumed_below HA.out B1.out
    have I1 : Aside (IsB w.heap.size w.heap.size acc w1) := isB_below HJ.out.buf hb1
    have sb1 : Aside (Sb w.heap.size w1 l' p' c') := HJ.out.sb.below hBr.out (low hb1 hBr.out)
    have hti : Aside ((l'.take i).length = i) := by rw [List.length_take]; have := HIL.out; exact (by omega : min i l'.length = i)
    have hlines : Calls Tryd.prog 22 #[.slice p' i c',.bool v] w1 fun e w' => ∃ u,e = .returned u ∧ Below w1.heap.size w1 w' ∧ ∃ g' : Gh,(∀ b o x,g'.own b o = .imm x → w'.cell? ⟨b,o,none⟩ = some x) ∧ RelV C0 g' (.sl (.int .u8) (linesW (l'.take i) v) .no) u := by
     have := lines_at v (sb1.out.take (i := i) (by have := HIL.out; omega)) ⟨byteB_take HJ.out.okb _,by have := hl8.out; have := HIL.out; rw [hti.out]; omega⟩ A1.out
     rwa [hti.out] at this
    clear hb1 hcut2
    go_wp2_with (go_at_call 22; refine hlines.mono ?_; rintro e w2 ⟨u,rfl,hb2,g2,hi2,hr2⟩)
    have B2 : Aside (Below w.heap.size w w2) := B1.out.trans (low hb2 S1.out)
    have hwr : Calls Tryd.prog 41 #[.pointer (some ⟨w.heap.size,0,none⟩),u] w2 fun e w' => (∃ n : Nat,e = .returned (.tuple #[.int .i64 n,.nilIface])) ∧ IsB w.heap.size w.heap.size (acc ++ linesW (l'.take i) v) w' ∧ Below w.heap.size w2 w' :=
     write_rel (isB_below I1.out hb2) B2.out.size hr2 hi2 (by have h1 := HJ.out.size; have h2 := lines_len (l'.take i) v; have h3 := hl8.out; have h4 := HIL.out; rw [hti.out] at h2; omega)
    have sb2 : Aside (Sb w.heap.size w2 l' p' c') := sb1.out.below S1.out (low hb2 S1.out)
    clear hb2 hi2 hr2 hlines
    go_wp2_with (go_at_call 41; refine hwr.mono ?_; rintro e w3 ⟨⟨m,rfl⟩,hI3,hb3⟩)
    have B3 : Aside (Below w.heap.size w w3) := B2.out.trans hb3
    have S3 : Aside (w.heap.size ≤ w3.heap.size) := B3.out.size
    have I3 : Aside (IsB w.heap.size w.heap.size (acc ++ linesW (l'.take i) v) w3) := hI3
    have sbu : Aside (Sb w.heap.size w3 (l'.drop (i + 1)) (fromP p' c' (i + 1)) (c' - (i + 1))) := (sb2.out.below B2.out.size hb3).drop HIL.out
    clear hI3 hb3 hwr
    obtain ⟨nu,hnu⟩ : ∃ nu,nu = n' - (i + 1) := ⟨_,rfl⟩
    obtain ⟨cu,hcu⟩ : ∃ cu,cu = c' - (i + 1) := ⟨_,rfl⟩
    obtain ⟨pu,hpu⟩ : ∃ pu,pu = fromP p' c' (i + 1) := ⟨_,rfl⟩
    obtain ⟨lu,hlu⟩ : ∃ lu,lu = l'.drop (i + 1) := ⟨_,rfl⟩
    rw [← hnu,← hcu,← hpu]
    rw [← hcu,← hpu,← hlu] at sbu
    have hnl : Aside (nu = lu.length) := by rw [hnu,hlu,List.length_drop,← hl'.out]; exact rfl
    have hui : Aside (nu + (i + 1) = n' ∧ n' ≤ n) := by have h1 := HIL.out; have h2 := HJ.out.len; rw [← hl'.out] at h1 h2; exact ⟨by omega,h2⟩
    have hub : Aside (byteB lu = true) := by rw [hlu]; exact byteB_drop HJ.out.okb _
    have hat : wrap64 (wrap64 ((n : Int) - nu) - 1) = (n : Int) - nu - 1 := by have h1 := hui.out; have h2 := hn8; unfold wrap64; omega
    have hga : Aside (resGo n v (l'.length + 1) l' acc = (if bIndexW lu [59] < 0 then ([],(n : Int) - nu - 1,13) else if (Xm.namedW (lu.take (bIndexW lu [59]).toNat)).2 = false then ([],(n : Int) - nu - 1,13) else resGo n v l'.length (lu.drop ((bIndexW lu [59]).toNat + 1)) (acc ++ linesW (l'.take i) v ++ Chars.enc (Xm.namedW (lu.take (bIndexW lu [59]).toNat)).1))) := by
     rw [resGo,if_neg (by have := HI0.out; omega),HI0.out,Int.toNat_natCast,← hlu]
     dsimp only
     rw [← hnl.out]
     exact rfl
    have hnk : nu + 1 ≤ gk := by have h1 := hui.out; omega
    have A3 : Aside (Assumed w3) := assumed_below HA.out B3.out
    have hl8u : Aside (lu.length ≤ 8000000) := by have h1 := hui.out; have h2 := hnl.out; exact (by omega : lu.length ≤ 8000000)
    have hcut := cut_at w.heap.size lu pu nu cu 59 w3 hnl.out sbu.out S3.out hub.out (by decide) hl8u.out A3.out
    clear hnu hcu hpu hlu hk
    by_cases h1 : bIndexW lu [59] < 0
    · have hcut2 : Calls Tryd.prog 21 #[.slice pu nu cu,.slice (some ⟨w3.heap.size,0,none⟩) 1 1] (w3.alloc (.cells #[.int .u8 59] 5)) fun e w' => e = .returned (.tuple #[.slice pu nu cu,.slice none 0 0,.bool false]) ∧ Below w3.heap.size w3 w' :=
       hcut.mono fun e w' ⟨h3,h2⟩ => ⟨(h2.resolve_left (fun q => by omega)).2,h3⟩
      have HF : Aside (resGo n v (l'.length + 1) l' acc = ([],(n : Int) - nu - 1,13)) := by rw [hga.out,if_pos h1]; exact rfl
      clear hcut h1 hga
      go_wp2_with (go_at_call 21; refine hcut2.mono ?_; rintro e w4 ⟨rfl,hb4⟩)
      have B4 : Aside (Below w.heap.size w w4) := B3.out.trans (low hb4 S3.out)
      have A4 : Aside (Assumed w4) := assumed_below HA.out B4.out
      have hconv : (Go.convert 22 9 (.slice pu nu cu)).run Tryd.prog w4 = .ok (.string (ofBytes lu)) w4 := by
       have := conv_at (sbu.out.below S3.out (low hb4 S3.out)) A4.out
       rwa [← hnl.out] at this
      have hnm := named_at (w := w4) (ofBytes lu) (by rw [ofBytes_size]; exact hl8u.out) A4.out
      obtain ⟨z,hz1⟩ : ∃ z,z = Xm.namedW (toBytes (ofBytes lu)) := ⟨_,rfl⟩
      rw [← hz1] at hnm
      clear hz1 hb4 hcut2
      obtain ⟨z1,z2⟩ := z
      go_wp2_with (go_at_call 43; refine hnm.mono ?_; rintro e w5 ⟨rfl,hb5⟩)
      go_ret3
      have hfin := HF.out.symm.trans HJ.out.go
      obtain ⟨rfl,e2⟩ := Prod.mk.inj hfin
      obtain ⟨rfl,rfl⟩ := Prod.mk.inj e2
      exact ⟨by first | rfl | (rw [hat]; rfl),B4.out.trans (low hb5 B4.out.size)⟩
    · obtain ⟨j,hj⟩ : ∃ j : Nat,bIndexW lu [59] = j := ⟨(bIndexW lu [59]).toNat,by omega⟩
      have hjl : Aside (j + 1 ≤ lu.length) := by
       have := (bIndex_lt (l := lu) (m := [59])).2
       rw [hj,if_neg (by omega)] at this
       simp only [List.length_cons,List.length_nil] at this
       exact (by omega : j + 1 ≤ lu.length)
      have hcut2 : Calls Tryd.prog 21 #[.slice pu nu cu,.slice (some ⟨w3.heap.size,0,none⟩) 1 1] (w3.alloc (.cells #[.int .u8 59] 5)) fun e w' => e = .returned (.tuple #[.slice pu j cu,.slice (fromP pu cu (j + 1)) (nu - (j + 1)) (cu - (j + 1)),.bool true]) ∧ Below w3.heap.size w3 w' :=
       hcut.mono fun e w' ⟨h3,h2⟩ => ⟨by have := (h2.resolve_right (fun q => by omega)).2; rw [hj,Int.toNat_natCast] at this; exact this,h3⟩
      have hgb : Aside (resGo n v (l'.length + 1) l' acc = (if (Xm.namedW (lu.take j)).2 = false then ([],(n : Int) - nu - 1,13) else resGo n v l'.length (lu.drop (j + 1)) (acc ++ linesW (l'.take i) v ++ Chars.enc (Xm.namedW (lu.take j)).1))) := by
       rw [hga.out,if_neg h1,hj,Int.toNat_natCast]
       exact rfl
      clear hcut h1 hga hj
      go_wp2_with (go_at_call 21; refine hcut2.mono ?_; rintro e w4 ⟨rfl,hb4⟩)
      have B4 : Aside (Below w.heap.size w w4) := B3.out.trans (low hb4 S3.out)
      have A4 : Aside (Assumed w4) := assumed_below HA.out B4.out
      have htj : Aside ((lu.take j).length = j) := by rw [List.length_take]; have := hjl.out; exact (by omega : min j lu.length = j)
      have sb4 : Aside (Sb w.heap.size w4 lu pu cu) := sbu.out.below S3.out (low hb4 S3.out)
      have I4 : Aside (IsB w.heap.size w.heap.size (acc ++ linesW (l'.take i) v) w4) := isB_below I3.out hb4
      have hconv : (Go.convert 22 9 (.slice pu j cu)).run Tryd.prog w4 = .ok (.string (ofBytes (lu.take j))) w4 := by
       have := conv_at (sb4.out.take (i := j) (by have := hjl.out; omega)) A4.out
       rwa [htj.out] at this
      have hnm := named_at (w := w4) (ofBytes (lu.take j)) (by rw [ofBytes_size,htj.out]; have h1 := hjl.out; have h2 := hl8u.out; omega) A4.out
      rw [toBytes_of (byteB_take hub.out j)] at hnm
      obtain ⟨s,hs⟩ : ∃ s,s = ofBytes (lu.take j) := ⟨_,rfl⟩
      rw [← hs] at hconv hnm
      obtain ⟨z,hz1⟩ : ∃ z,z = Xm.namedW (lu.take j) := ⟨_,rfl⟩
      rw [← hz1] at hnm hgb
      clear hz1 hb4 hcut2 hs
      obtain ⟨z1,z2⟩ := z
      cases z2 with
      | false =>
       have HF : Aside (resGo n v (l'.length + 1) l' acc = ([],(n : Int) - nu - 1,13)) := by rw [hgb.out,if_pos rfl]; exact rfl
       clear hgb
       go_wp2_with (go_at_call 43; refine hnm.mono ?_; rintro e w5 ⟨rfl,hb5⟩)
       go_ret3
       have hfin := HF.out.symm.trans HJ.out.go
       obtain ⟨rfl,e2⟩ := Prod.mk.inj hfin
       obtain ⟨rfl,rfl⟩ := Prod.mk.inj e2
       exact ⟨by first | rfl | (rw [hat]; rfl),B4.out.trans (low hb5 B4.out.size)⟩
      | true =>
       have HF : Aside (resGo n v (l'.length + 1) l' acc = resGo n v l'.length (lu.drop (j + 1)) (acc ++ linesW (l'.take i) v ++ Chars.enc z1)) := by rw [hgb.out,if_neg (fun q => by cases q)]; exact rfl
       clear hgb
       go_wp2_with (go_at_call 43; refine hnm.mono ?_; rintro e w5 ⟨rfl,hb5⟩)
       have B5 : Aside (Below w.heap.size w w5) := B4.out.trans (low hb5 B4.out.size)
       have A5 : Aside (Assumed w5) := assumed_below HA.out B5.out
       have sb5 : Aside (Sb w.heap.size w5 lu pu cu) := sb4.out.below B4.out.size (low hb5 B4.out.size)
       have I5 : Aside (IsB w.heap.size w.heap.size (acc ++ linesW (l'.take i) v) w5) := isB_below I4.out hb5
       have henc := enc_at (w := w5) z1 A5.out
       clear hb5 hnm hconv
       go_wp2_with (go_at_call 44; refine henc.mono ?_; rintro e w6 ⟨u6,rfl,hb6,g6,hi6,hr6⟩)
       have B6 : Aside (Below w.heap.size w w6) := B5.out.trans (low hb6 B5.out.size)
       have hsz : Aside ((acc ++ linesW (l'.take i) v ++ Chars.enc z1).length + 4 * (nu - (j + 1)) ≤ 4 * n) := by
        have h1 := HJ.out.size; have h2 := lines_len (l'.take i) v; have h3 := hui.out; have h4 := enc_le z1; have h5 := hl'.out; have h6 := hjl.out; have h7 := hnl.out
        rw [hti.out] at h2
        rw [List.length_append,List.length_append]
        exact (by omega : acc.length + (linesW (l'.take i) v).length + (Chars.enc z1).length + 4 * (nu - (j + 1)) ≤ 4 * n)
       have hwr : Calls Tryd.prog 41 #[.pointer (some ⟨w.heap.size,0,none⟩),u6] w6 fun e w' => (∃ n : Nat,e = .returned (.tuple #[.int .i64 n,.nilIface])) ∧ IsB w.heap.size w.heap.size (acc ++ linesW (l'.take i) v ++ Chars.enc z1) w' ∧ Below w.heap.size w6 w' :=
        write_rel (isB_below I5.out hb6) B6.out.size hr6 hi6 (by have h1 := hsz.out; rw [List.length_append] at h1; omega)
       have sb6 : Aside (Sb w.heap.size w6 lu pu cu) := sb5.out.below B5.out.size (low hb6 B5.out.size)
       clear hb6 hi6 hr6 henc
       go_wp2_with (go_at_call 41; refine hwr.mono ?_; rintro e w7 ⟨⟨m7,rfl⟩,hI7,hb7⟩)
       go_roundg (nu - (j + 1))
       case measure => omega
       case rel =>
        have hfin : resGo n v ((lu.drop (j + 1)).length + 1) (lu.drop (j + 1)) (acc ++ linesW (l'.take i) v ++ Chars.enc z1) = (r1,r2,r3) := by
         rw [← HJ.out.go,HF.out]
         refine resGo_fuel n v _ _ _ _ (Nat.lt_succ_self _) ?_
         rw [List.length_drop]
         have h3 := hui.out; have h5 := hl'.out; have h7 := hnl.out; have h8 := hjl.out
         omega
        refine ⟨lu.drop (j + 1),fromP pu cu (j + 1),nu - (j + 1),cu - (j + 1),acc ++ linesW (l'.take i) v ++ Chars.enc z1,(by rw [List.length_drop,← hnl.out]; exact rfl),Nat.le_refl _,rfl,⟨(sb6.out.below B6.out.size hb7).drop hjl.out,byteB_drop hub.out _,?_,?_,byteB_app (byteB_app HJ.out.byt (lines_byte v (byteB_take HJ.out.okb _))) (byteB_enc z1),hI7,B6.out.trans hb7,hfin⟩⟩
        · rw [List.length_drop,← hnl.out]; have h3 := hui.out; omega
        · rw [List.length_drop,← hnl.out]; exact hsz.out
theorem Sb.of {C : Codec U0} {g : Gh} {w : World} {l : List Int} {q : Perm} {v : Value} (hv : RelV C g (.sl (.int .u8) l q) v) (hi : ∀ b o x,g.own b o = .imm x → w.cell? ⟨b,o,Option.none⟩ = some x) : ∃ p c,v = .slice p l.length c ∧ Sb w.heap.size w l p c := by
 cases hv with
 | sl0 => exact ⟨Option.none,0,rfl,Sb.nil _ _⟩
 | sle =>
  rename_i a hz
  exact ⟨some a,0,rfl,Nat.le_refl _,fun _ => rfl,fun h => absurd rfl h,fun h => absurd h (Nat.lt_irrefl 0)⟩
 | sl hs hm hle hp =>
  rename_i blk off cap vs
  obtain rfl := RelVs.nums hs
  refine ⟨_,cap,rfl,hle,fun h => (by cases h),fun _ a h => (by obtain rfl := Option.some.inj h; rfl),fun h0 => ⟨blk,off,rfl,?_,fun i hlt => ?_⟩⟩
  · have := hi _ _ _ (hm 0 _ (by rw [List.getElem?_map,List.getElem?_eq_getElem h0]; rfl))
    exact lt_of_cell (a := ⟨blk,off + 0,Option.none⟩) (by rw [this]; rfl)
  · refine hi _ _ _ (hm i _ ?_)
    rw [List.getElem?_map,List.getElem?_eq_getElem hlt,List.getD_eq_getElem?_getD,List.getElem?_eq_getElem hlt]; rfl
def resW (l : List Int) (v : Bool) : List Int × Int × Int := resGo l.length v (l.length + 1) l []
def resX (l : List Int) (v : Bool) : Option (ByteArray × Int × Int) := if okB l then some (ofBytes (resW l v).1,(resW l v).2.1,(resW l v).2.2) else none
def resF : List (AVal U0) → Option (AVal U0)
 | [.sl (.int .u8) l _,.bool v] => if okB l then some (.tup [.str (ofBytes (resW l v).1),.int .i64 (resW l v).2.1,.int .i64 (resW l v).2.2]) else none
 | _ => none
theorem res_ok : CallOk (R := Rr U0) Tryd.prog C0 28 (asExt resF) := by
 refine callOk_ext fun args u h g w cs ha hi hw => ?_
 unfold resF at h
 split at h
 · rename_i l _ b
   split at h
   · rename_i hs
     obtain rfl := Option.some.inj h
     obtain ⟨c,d,rfl,hc,hd⟩ := RelVs.two ha
     cases hd
     obtain ⟨p,c,rfl,hsb⟩ := Sb.of hc hi
     obtain ⟨w0,h0,h1⟩ := hw
     refine (res_walk l b p l.length c w rfl hsb hs (assumed_below h1 h0) _ _ _ rfl).mono fun e w' ⟨h2,h3⟩ => ?_
     exact ⟨_,h2,h3,.tup (.cons (.str _) (.cons (.int _ _) (.cons (.int _ _) .nil)))⟩
   · cases h
 · cases h
def resS : List (AVal U0) → St U0 → (Res U0 → St U0 → Option (Rr U0)) → Option (Rr U0) := fun args st K => match args with
 | [.sl (.int .u8) l _,.bool v] => (resX l v).bind fun r => K (.ret (.tup [.str r.1,.int .i64 r.2.1,.int .i64 r.2.2])) st
 | _ => none
theorem resS_ok : CallOkL Tryd.prog C0 28 resS := callOk_by res_ok fun args st K r h => by
 unfold resS at h
 unfold asExt resF
 split at h
 · unfold resX at h
   split at h
   · rename_i h1
     rw [if_pos h1]; exact h
   · cases h
 · cases h
noncomputable def specs_resS : SpecL := (28,false,resS) :: specs_xmllex_Skip
theorem resS.ok : AllOk specs_resS := allOk_cons xmllex_Skip.ok (fnOk_of (by kernel_rfl)) resS_ok
end Go.Proofs.YtccfmfifnbnlmaaDoor.Ev
end
section
/- What is known of each function: its word; and the contexts in which it is reckoned. -/
-- prev resS
-- irreducible fullX trimX linesX numX namedX commX instX cutX containsX replX Chars.enc skipX resX rattrX ropenX rtokX rnextX takeX blanksX nameX valueX attrX openX closeX litX textX tokX nextX isX
set_option linter.unusedVariables false
namespace Go.Proofs.YtccfmfifnbnlmaaDoor.Ev
open Go
abbrev TokT := Int × ByteArray × List (ByteArray × ByteArray) × Bool × ByteArray
def noTok : TokT := (0,⟨#[]⟩,[],false,⟨#[]⟩)
def off (l : List Int) : List Int := l.drop (blankN l)
def valQ (s : Int) (l : List Int) : List Int × Bool × List Int := if 0 ≤ bIndexW l [s] then (l.take (bIndexW l [s]).toNat,decide (bIndexW (l.take (bIndexW l [s]).toNat) [60] < 0),l.drop ((bIndexW l [s]).toNat + 1)) else (l,false,[])
/-- A value in signs: its text, whether it is one, what is left. -/
def valW (l : List Int) : List Int × Bool × List Int := if l.take 1 = [39] then valQ 39 (l.drop 1) else if l.take 1 = [34] then valQ 34 (l.drop 1) else ([],false,l)
def eqW (l : List Int) : Bool × List Int := if l.take 1 = [61] then (true,l.drop 1) else (false,l)
/-- An attribute: name, value, what is left, the error. -/
def attrW (l : List Int) : List Int × List Int × List Int × Int :=
 let e := eqW (off (l.drop (Xm.fullL l)))
 let t := valW (off e.2)
 if Xm.fullL l = 0 ∨ e.1 = false ∨ t.2.1 = false then (l.take (Xm.fullL l),[],t.2.2,11)
 else (l.take (Xm.fullL l),(resW t.1 true).1,t.2.2,(resW t.1 true).2.2)
/-- What is in an opening tag behind its name. -/
def openGo : Nat → List Int → List (ByteArray × ByteArray) → List (ByteArray × ByteArray) × Bool × List Int × Int
 | 0,l,xs => (xs,false,l,0)
 | d + 1,l,xs =>
  if (off l).take 1 = [62] then (xs,false,(off l).drop 1,0)
  else if (off l).take 2 = [47,62] then (xs,true,(off l).drop 2,0)
  else if blankN l = 0 then (xs,false,off l,11)
  else let a := attrW (off l)
   if a.2.2.2 = 0 then openGo d a.2.2.1 (xs ++ [(ofBytes a.1,ofBytes a.2.1)]) else (xs ++ [(ofBytes a.1,ofBytes a.2.1)],false,a.2.2.1,a.2.2.2)
def openW (l : List Int) : TokT × List Int × Int :=
 let u := if l.take 1 = [60] then l.drop 1 else l
 if Xm.fullL u = 0 then ((1,ofBytes (u.take 0),[],false,⟨#[]⟩),u,11)
 else let o := openGo (l.length + 1) (u.drop (Xm.fullL u)) []
  ((1,ofBytes (u.take (Xm.fullL u)),o.1,o.2.1,⟨#[]⟩),o.2.2.1,o.2.2.2)
def closeW (l : List Int) : TokT × List Int × Int :=
 let u := if l.take 2 = [60,47] then l.drop 2 else l
 let r := off (u.drop (Xm.fullL u))
 if Xm.fullL u = 0 then ((2,ofBytes (u.take 0),[],false,⟨#[]⟩),r,11)
 else if r.take 1 = [62] then ((2,ofBytes (u.take (Xm.fullL u)),[],false,⟨#[]⟩),r.drop 1,0) else ((2,ofBytes (u.take (Xm.fullL u)),[],false,⟨#[]⟩),r,11)
def litW (l : List Int) : TokT × List Int × Int :=
 let u := if l.take 9 = [60,33,91,67,68,65,84,65,91] then l.drop 9 else l
 if 0 ≤ bIndexW u [93,93,62] then ((3,⟨#[]⟩,[],false,ofBytes (linesW (u.take (bIndexW u [93,93,62]).toNat) false)),u.drop ((bIndexW u [93,93,62]).toNat + 3),0)
 else ((3,⟨#[]⟩,[],false,ofBytes (linesW u false)),[],11)
def textN (l : List Int) : Nat := if bIndexW l [60] < 0 then l.length else (bIndexW l [60]).toNat
def textW (l : List Int) : TokT × List Int × Int :=
 if bIndexW (l.take (textN l)) [93,93,62] = -1 then ((3,⟨#[]⟩,[],false,ofBytes (resW (l.take (textN l)) false).1),l.drop (textN l),(resW (l.take (textN l)) false).2.2)
 else ((3,⟨#[]⟩,[],false,⟨#[]⟩),l.drop (textN l),11)
def tokW (l : List Int) : TokT × List Int × Int :=
 if l.length = 0 then (noTok,l,0)
 else if l.take 9 = [60,33,91,67,68,65,84,65,91] then litW l
 else if l.take 9 = [60,33,68,79,67,84,89,80,69] then (noTok,l,12)
 else if l.take 2 = [60,47] then closeW l
 else if l.take 1 = [60] then openW l
 else textW l
def nextW (b : List Int) (p : Int) : TokT × Int × Int :=
 let s := skipW b p
 if s.2 ≠ 0 then (noTok,s.1,s.2) else
 let t := tokW (b.drop s.1.toNat)
 if t.2.2 ≠ 0 then (noTok,s.1,t.2.2) else (t.1,(b.length : Int) - t.2.1.length,0)
def flatT (t : TokT × Int × Int) : Int × ByteArray × List (ByteArray × ByteArray) × Bool × ByteArray × Int × Int := (t.1.1,t.1.2.1,t.1.2.2.1,t.1.2.2.2.1,t.1.2.2.2.2,t.2.1,t.2.2)
def flatB (t : TokT × List Int × Int) : Int × ByteArray × List (ByteArray × ByteArray) × Bool × ByteArray × List Int × Int := (t.1.1,t.1.2.1,t.1.2.2.1,t.1.2.2.2.1,t.1.2.2.2.2,t.2.1,t.2.2)
def nextX (b : List Int) (p : Int) : Option (Int × ByteArray × List (ByteArray × ByteArray) × Bool × ByteArray × Int × Int) := if okB b then some (flatT (nextW b p)) else none
def takeX (l : List Int) (q : Int) (t : ByteArray) : Option (Bool × List Int × Int) := if okB l then some (decide (l.take t.size = toBytes t),(if l.take t.size = toBytes t then l.drop t.size else l),q) else none
def blanksX (l : List Int) (q : Int) : Option (Bool × List Int × Int) := if okB l then some (decide (0 < blankN l),off l,q) else none
def nameX (l : List Int) (q : Int) : Option (ByteArray × List Int × Int) := if okB l then some (ofBytes (l.take (Xm.fullL l)),l.drop (Xm.fullL l),q) else none
def valueX (l : List Int) (q : Int) : Option (List Int × Bool × List Int × Int) := if okB l then some ((valW l).1,(valW l).2.1,(valW l).2.2,q) else none
def attrX (l : List Int) (q : Int) : Option (ByteArray × ByteArray × List Int × Int) := if okB l then some (ofBytes (attrW l).1,ofBytes (attrW l).2.1,(attrW l).2.2.1,(attrW l).2.2.2) else none
def openX (l : List Int) (q : Int) : Option (Int × ByteArray × List (ByteArray × ByteArray) × Bool × ByteArray × List Int × Int) := if okB l ∧ q = 0 then some (flatB (openW l)) else none
def closeX (l : List Int) (q : Int) : Option (Int × ByteArray × List (ByteArray × ByteArray) × Bool × ByteArray × List Int × Int) := if okB l ∧ q = 0 then some (flatB (closeW l)) else none
def litX (l : List Int) (q : Int) : Option (Int × ByteArray × List (ByteArray × ByteArray) × Bool × ByteArray × List Int × Int) := if okB l ∧ q = 0 then some (flatB (litW l)) else none
def textX (l : List Int) (q : Int) : Option (Int × ByteArray × List (ByteArray × ByteArray) × Bool × ByteArray × List Int × Int) := if okB l ∧ q = 0 then some (flatB (textW l)) else none
def isX (l : List Int) (t : ByteArray) : Option Bool := if okB l then some (decide (l.take t.size = toBytes t)) else none
def tokX (l : List Int) (q : Int) : Option (Int × ByteArray × List (ByteArray × ByteArray) × Bool × ByteArray × List Int × Int) := if okB l ∧ q = 0 then some (flatB (tokW l)) else none
noncomputable def cx_scan_take := cxOf specs_resS
noncomputable def scan_take.spec : Spec := fun args st K => match args,st.box,st.nt with
 | [.ptr 0 0,.str t],[[.sl (.int .u8) l .no,.int .i64 q]],0 => (takeX l q t).bind fun v => K (.ret (.bool v.1)) (lcRet [[.sl (.int .u8) (v.2.1) .no,.int .i64 (v.2.2)]] [] 0)
 | _,_,_ => none
noncomputable def specs_scan_take : SpecL := (20,false,scan_take.spec) :: specs_resS
noncomputable def cx_scan_blanks := cxOf specs_scan_take
noncomputable def scan_blanks.spec : Spec := fun args st K => match args,st.box,st.nt with
 | [.ptr 0 0],[[.sl (.int .u8) l .no,.int .i64 q]],0 => (blanksX l q).bind fun v => K (.ret (.bool v.1)) (lcRet [[.sl (.int .u8) (v.2.1) .no,.int .i64 (v.2.2)]] [] 0)
 | _,_,_ => none
noncomputable def specs_scan_blanks : SpecL := (24,false,scan_blanks.spec) :: specs_scan_take
noncomputable def cx_scan_name := cxOf specs_scan_blanks
noncomputable def scan_name.spec : Spec := fun args st K => match args,st.box,st.nt with
 | [.ptr 0 0],[[.sl (.int .u8) l .no,.int .i64 q]],0 => (nameX l q).bind fun v => K (.ret (.str v.1)) (lcRet [[.sl (.int .u8) (v.2.1) .no,.int .i64 (v.2.2)]] [] 0)
 | _,_,_ => none
noncomputable def specs_scan_name : SpecL := (23,false,scan_name.spec) :: specs_scan_blanks
noncomputable def cx_scan_value := cxOf specs_scan_name
noncomputable def scan_value.spec : Spec := fun args st K => match args,st.box,st.nt with
 | [.ptr 0 0],[[.sl (.int .u8) l .no,.int .i64 q]],0 => (valueX l q).bind fun v => K (.ret (.tup [.sl (.int .u8) (v.1) .no,.bool v.2.1])) (lcRet [[.sl (.int .u8) (v.2.2.1) .no,.int .i64 (v.2.2.2)]] [] 0)
 | _,_,_ => none
noncomputable def specs_scan_value : SpecL := (39,false,scan_value.spec) :: specs_scan_name
noncomputable def cx_scan_attribute := cxOf specs_scan_value
noncomputable def scan_attribute.spec : Spec := fun args st K => match args,st.box,st.nt with
 | [.ptr 0 0],[[.sl (.int .u8) l .no,.int .i64 q]],0 => (attrX l q).bind fun v => K (.ret (.agg [.str v.1,.str v.2.1])) (lcRet [[.sl (.int .u8) (v.2.2.1) .no,.int .i64 (v.2.2.2)]] [] 0)
 | _,_,_ => none
noncomputable def specs_scan_attribute : SpecL := (25,false,scan_attribute.spec) :: specs_scan_value
noncomputable def cx_scan_opening := cxOf specs_scan_attribute
noncomputable def scan_opening.spec : Spec := fun args st K => match args,st.box,st.nt with
 | [.ptr 0 0],[[.sl (.int .u8) l .no,.int .i64 q]],0 => (openX l q).bind fun v => K (.ret (.agg [.int .i64 v.1,.str v.2.1,.sl (.pair .str .str) (v.2.2.1) .no,.bool v.2.2.2.1,.str v.2.2.2.2.1])) (lcRet [[.sl (.int .u8) (v.2.2.2.2.2.1) .no,.int .i64 (v.2.2.2.2.2.2)]] [] 0)
 | _,_,_ => none
noncomputable def specs_scan_opening : SpecL := (14,false,scan_opening.spec) :: specs_scan_attribute
noncomputable def cx_scan_closing := cxOf specs_scan_opening
noncomputable def scan_closing.spec : Spec := fun args st K => match args,st.box,st.nt with
 | [.ptr 0 0],[[.sl (.int .u8) l .no,.int .i64 q]],0 => (closeX l q).bind fun v => K (.ret (.agg [.int .i64 v.1,.str v.2.1,.sl (.pair .str .str) (v.2.2.1) .no,.bool v.2.2.2.1,.str v.2.2.2.2.1])) (lcRet [[.sl (.int .u8) (v.2.2.2.2.2.1) .no,.int .i64 (v.2.2.2.2.2.2)]] [] 0)
 | _,_,_ => none
noncomputable def specs_scan_closing : SpecL := (13,false,scan_closing.spec) :: specs_scan_opening
noncomputable def cx_scan_literal := cxOf specs_scan_closing
noncomputable def scan_literal.spec : Spec := fun args st K => match args,st.box,st.nt with
 | [.ptr 0 0],[[.sl (.int .u8) l .no,.int .i64 q]],0 => (litX l q).bind fun v => K (.ret (.agg [.int .i64 v.1,.str v.2.1,.sl (.pair .str .str) (v.2.2.1) .no,.bool v.2.2.2.1,.str v.2.2.2.2.1])) (lcRet [[.sl (.int .u8) (v.2.2.2.2.2.1) .no,.int .i64 (v.2.2.2.2.2.2)]] [] 0)
 | _,_,_ => none
noncomputable def specs_scan_literal : SpecL := (12,false,scan_literal.spec) :: specs_scan_closing
noncomputable def cx_scan_text := cxOf specs_scan_literal
noncomputable def scan_text.spec : Spec := fun args st K => match args,st.box,st.nt with
 | [.ptr 0 0],[[.sl (.int .u8) l .no,.int .i64 q]],0 => (textX l q).bind fun v => K (.ret (.agg [.int .i64 v.1,.str v.2.1,.sl (.pair .str .str) (v.2.2.1) .no,.bool v.2.2.2.1,.str v.2.2.2.2.1])) (lcRet [[.sl (.int .u8) (v.2.2.2.2.2.1) .no,.int .i64 (v.2.2.2.2.2.2)]] [] 0)
 | _,_,_ => none
noncomputable def specs_scan_text : SpecL := (15,false,scan_text.spec) :: specs_scan_literal
noncomputable def cx_scan_is := cxOf specs_scan_text
noncomputable def scan_is.spec : Spec := fun args st K => match args,st.box,st.nt with
 | [.str t,.ptr 0 0],[[.ptr 1 0],[.sl (.int .u8) l .no,.int .i64 q]],0 => (isX l t).bind fun v => K (.ret (.bool v)) (lcRet [[.ptr 1 0],[.sl (.int .u8) l .no,.int .i64 q]] [] 0)
 | _,_,_ => none
noncomputable def specs_scan_is : SpecL := (11,false,scan_is.spec) :: specs_scan_text
noncomputable def cx_scan_token := cxOf specs_scan_is
noncomputable def scan_token.spec : Spec := fun args st K => match args,st.box,st.nt with
 | [.ptr 0 0],[[.sl (.int .u8) l .no,.int .i64 q]],0 => (tokX l q).bind fun v => K (.ret (.agg [.int .i64 v.1,.str v.2.1,.sl (.pair .str .str) (v.2.2.1) .no,.bool v.2.2.2.1,.str v.2.2.2.2.1])) (lcRet [[.sl (.int .u8) (v.2.2.2.2.2.1) .no,.int .i64 (v.2.2.2.2.2.2)]] [] 0)
 | _,_,_ => none
noncomputable def specs_scan_token : SpecL := (7,false,scan_token.spec) :: specs_scan_is
noncomputable def cx_xmllex_Next := cxOf specs_scan_token
noncomputable def xmllex_Next.spec : Spec := fun args st K => match args,st.box,st.nt with
 | [.sl (.int .u8) b .no,.int .i64 p],[],0 => (nextX b p).bind fun v => K (.ret (.tup [.agg [.int .i64 v.1,.str v.2.1,.sl (.pair .str .str) (v.2.2.1) .no,.bool v.2.2.2.1,.str v.2.2.2.2.1],.int .i64 v.2.2.2.2.2.1,.int .i64 v.2.2.2.2.2.2])) (lcRet [] [] 0)
 | _,_,_ => none
noncomputable def specs_xmllex_Next : SpecL := (4,false,xmllex_Next.spec) :: specs_scan_token
end Go.Proofs.YtccfmfifnbnlmaaDoor.Ev
end
section
/- What each function comes to, one step of it at a time: the kernel's own reckoning. -/
set_option linter.unusedVariables false
set_option maxRecDepth 100000
namespace Go.Proofs.YtccfmfifnbnlmaaDoor.Ev
open Go Go.RowKit
open Go.IntKind (i64 u8 i32 u64)
theorem scan_take.top (n : Nat) (t : ByteArray) (l : List Int) (q : Int) : callX false (fnF cx_scan_take noCalls n 20) ([.ptr 0 0,.str t]) (lcSt ([[.sl (.int .u8) l .no,.int .i64 q]]) 0) out = ((Q.bytes_CutPrefix.f l (toBytes t)).bind fun v0 => some (.ret (.bool v0.2),lcRet ([[.sl (.int .u8) v0.1 .no,.int .i64 q]]) [] 0)) := by kernel_rfl
theorem scan_name.top (n : Nat) (l : List Int) (q : Int) : callX false (fnF cx_scan_name noCalls n 23) ([.ptr 0 0]) (lcSt ([[.sl (.int .u8) l .no,.int .i64 q]]) 0) out = ((fullX l).bind fun v0 => if 0 ≤ (↑v0.length : Int) then if (↑v0.length : Int) ≤ (↑l.length : Int) then some (.ret (.str (ofBytes v0)),lcRet ([[.sl (.int .u8) (List.drop (↑v0.length : Int).toNat l) .no,.int .i64 q]]) [] 0) else none else none) := by kernel_rfl
theorem scan_attribute.top (n : Nat) (l : List Int) (q : Int) : callX false (fnF cx_scan_attribute noCalls n 25) ([.ptr 0 0]) (lcSt ([[.sl (.int .u8) l .no,.int .i64 q]]) 0) out = ((nameX l q).bind fun v0 => ((blanksX v0.2.1 v0.2.2).bind fun v1 => ((takeX v1.2.1 v1.2.2 (ByteArray.mk #[61])).bind fun v2 => ((blanksX v2.2.1 v2.2.2).bind fun v3 => ((valueX v3.2.1 v3.2.2).bind fun v4 => if (if (if seq v0.1 (ByteArray.mk #[]) = true then true else !v2.1) = true then true else !v4.2.1) = true then some (.ret (.agg [.str v0.1,.str ⟨#[]⟩]),lcRet ([[.sl (.int .u8) v4.2.2.1 .no,.int .i64 11]]) [] 0) else ((resX v4.1 true).bind fun v5 => some (.ret (.agg [.str v0.1,.str v5.1]),lcRet ([[.sl (.int .u8) v4.2.2.1 .no,.int .i64 v5.2.2]]) [] 0))))))) := by kernel_rfl
theorem scan_closing.top (n : Nat) (l : List Int) (q : Int) : callX false (fnF cx_scan_closing noCalls n 13) ([.ptr 0 0]) (lcSt ([[.sl (.int .u8) l .no,.int .i64 q]]) 0) out = ((takeX l q (ByteArray.mk #[60,47])).bind fun v0 => ((nameX v0.2.1 v0.2.2).bind fun v1 => ((blanksX v1.2.1 v1.2.2).bind fun v2 => if seq v1.1 (ByteArray.mk #[]) = true then some (.ret (.agg [.int .i64 2,.str v1.1,.sl (Ty.str.pair Ty.str) [] .no,.bool false,.str ⟨#[]⟩]),lcRet ([[.sl (.int .u8) v2.2.1 .no,.int .i64 11]]) [] 0) else ((takeX v2.2.1 v2.2.2 (ByteArray.mk #[62])).bind fun v3 => if (if false = true then true else !v3.1) = true then some (.ret (.agg [.int .i64 2,.str v1.1,.sl (Ty.str.pair Ty.str) [] .no,.bool false,.str ⟨#[]⟩]),lcRet ([[.sl (.int .u8) v3.2.1 .no,.int .i64 11]]) [] 0) else some (.ret (.agg [.int .i64 2,.str v1.1,.sl (Ty.str.pair Ty.str) [] .no,.bool false,.str ⟨#[]⟩]),lcRet ([[.sl (.int .u8) v3.2.1 .no,.int .i64 v3.2.2]]) [] 0))))) := by kernel_rfl
theorem scan_text.top (n : Nat) (l : List Int) (q : Int) : callX false (fnF cx_scan_text noCalls n 15) ([.ptr 0 0]) (lcSt ([[.sl (.int .u8) l .no,.int .i64 q]]) 0) out = if decide (Lib.indexByte (Lib.bytesOf l) (Int.toNat (60 : Int)).toUInt8 < 0) = true then if 0 ≤ (↑l.length : Int) then if (↑l.length : Int) ≤ (↑l.length : Int) then if 0 ≤ (↑l.length : Int) then if (↑l.length : Int) ≤ (↑l.length : Int) then ((containsX (List.take (↑l.length : Int).toNat l) [(93 : Int),(93 : Int),(62 : Int)]).bind fun v0 => if v0 = true then some (.ret (.agg [.int .i64 3,.str ⟨#[]⟩,.sl (Ty.str.pair Ty.str) [] .no,.bool false,.str ⟨#[]⟩]),lcRet ([[.sl (.int .u8) (List.drop (↑l.length : Int).toNat l) .no,.int .i64 11]]) [] 0) else ((resX (List.take (↑l.length : Int).toNat l) false).bind fun v1 => some (.ret (.agg [.int .i64 3,.str ⟨#[]⟩,.sl (Ty.str.pair Ty.str) [] .no,.bool false,.str v1.1]),lcRet ([[.sl (.int .u8) (List.drop (↑l.length : Int).toNat l) .no,.int .i64 v1.2.2]]) [] 0))) else none else none else none else none else if 0 ≤ Lib.indexByte (Lib.bytesOf l) (Int.toNat (60 : Int)).toUInt8 then if Lib.indexByte (Lib.bytesOf l) (Int.toNat (60 : Int)).toUInt8 ≤ (↑l.length : Int) then if 0 ≤ Lib.indexByte (Lib.bytesOf l) (Int.toNat (60 : Int)).toUInt8 then if Lib.indexByte (Lib.bytesOf l) (Int.toNat (60 : Int)).toUInt8 ≤ (↑l.length : Int) then ((containsX (List.take (Lib.indexByte (Lib.bytesOf l) (Int.toNat (60 : Int)).toUInt8).toNat l) [(93 : Int),(93 : Int),(62 : Int)]).bind fun v2 => if v2 = true then some (.ret (.agg [.int .i64 3,.str ⟨#[]⟩,.sl (Ty.str.pair Ty.str) [] .no,.bool false,.str ⟨#[]⟩]),lcRet ([[.sl (.int .u8) (List.drop (Lib.indexByte (Lib.bytesOf l) (Int.toNat (60 : Int)).toUInt8).toNat l) .no,.int .i64 11]]) [] 0) else ((resX (List.take (Lib.indexByte (Lib.bytesOf l) (Int.toNat (60 : Int)).toUInt8).toNat l) false).bind fun v3 => some (.ret (.agg [.int .i64 3,.str ⟨#[]⟩,.sl (Ty.str.pair Ty.str) [] .no,.bool false,.str v3.1]),lcRet ([[.sl (.int .u8) (List.drop (Lib.indexByte (Lib.bytesOf l) (Int.toNat (60 : Int)).toUInt8).toNat l) .no,.int .i64 v3.2.2]]) [] 0))) else none else none else none else none := by kernel_rfl
theorem scan_token.top (n : Nat) (l : List Int) (q : Int) : callX false (fnF cx_scan_token noCalls n 7) ([.ptr 0 0]) (lcSt ([[.sl (.int .u8) l .no,.int .i64 q]]) 0) out = if ((↑l.length : Int) == 0) = true then some (.ret (.agg [.int .i64 0,.str ⟨#[]⟩,.sl (Ty.str.pair Ty.str) [] .no,.bool false,.str ⟨#[]⟩]),lcRet ([[.sl (.int .u8) l .no,.int .i64 q]]) [] 0) else ((isX l (ByteArray.mk #[60,33,91,67,68,65,84,65,91])).bind fun v0 => if v0 = true then ((litX l q).bind fun v1 => some (.ret (.agg [.int .i64 v1.1,.str v1.2.1,.sl (Ty.str.pair Ty.str) v1.2.2.1 .no,.bool v1.2.2.2.1,.str v1.2.2.2.2.1]),lcRet ([[.sl (.int .u8) v1.2.2.2.2.2.1 .no,.int .i64 v1.2.2.2.2.2.2]]) [] 0)) else ((isX l (ByteArray.mk #[60,33,68,79,67,84,89,80,69])).bind fun v2 => if v2 = true then some (.ret (.agg [.int .i64 0,.str ⟨#[]⟩,.sl (Ty.str.pair Ty.str) [] .no,.bool false,.str ⟨#[]⟩]),lcRet ([[.sl (.int .u8) l .no,.int .i64 12]]) [] 0) else ((isX l (ByteArray.mk #[60,47])).bind fun v3 => if v3 = true then ((closeX l q).bind fun v4 => some (.ret (.agg [.int .i64 v4.1,.str v4.2.1,.sl (Ty.str.pair Ty.str) v4.2.2.1 .no,.bool v4.2.2.2.1,.str v4.2.2.2.2.1]),lcRet ([[.sl (.int .u8) v4.2.2.2.2.2.1 .no,.int .i64 v4.2.2.2.2.2.2]]) [] 0)) else ((isX l (ByteArray.mk #[60])).bind fun v5 => if v5 = true then ((openX l q).bind fun v6 => some (.ret (.agg [.int .i64 v6.1,.str v6.2.1,.sl (Ty.str.pair Ty.str) v6.2.2.1 .no,.bool v6.2.2.2.1,.str v6.2.2.2.2.1]),lcRet ([[.sl (.int .u8) v6.2.2.2.2.2.1 .no,.int .i64 v6.2.2.2.2.2.2]]) [] 0)) else ((textX l q).bind fun v7 => some (.ret (.agg [.int .i64 v7.1,.str v7.2.1,.sl (Ty.str.pair Ty.str) v7.2.2.1 .no,.bool v7.2.2.2.1,.str v7.2.2.2.2.1]),lcRet ([[.sl (.int .u8) v7.2.2.2.2.2.1 .no,.int .i64 v7.2.2.2.2.2.2]]) [] 0)))))) := by kernel_rfl
theorem scan_blanks.top (n : Nat) (l : List Int) (q : Int) : callX false (fnF cx_scan_blanks noCalls n 24) ([.ptr 0 0]) (lcSt ([[.sl (.int .u8) l .no,.int .i64 q]]) 0) out = ((trimX l).bind fun v0 => some (.ret (.bool (decide ((↑v0.length : Int) < (↑l.length : Int)))),lcRet ([[.sl (.int .u8) v0 .no,.int .i64 q]]) [] 0)) := by kernel_rfl
def scan_value.bs : List Nat := [0]
noncomputable def scan_value.L1 (n k0 : Nat) (l : List Int) (q : Int) (j0 j1 : ByteArray) (j2 : Int) (j3 : List Int) (j4 : Int) : Option (Rr U0) := loopF cx_scan_value noCalls k0 (1) ([(0,false),(9,false),(10,false)]) ((siteC (Tryd.f39.body.getD .skip) [1,0,1,0]).getD .skip) (siteK cx_scan_value noCalls n [] (Tryd.f39.body.getD .skip) [1,0,1,0] (bodyK cx_scan_value Tryd.f39 (lcSt ([[.sl (.int .u8) l .no,.int .i64 q]]) 0) (callK false scan_value.bs [] (lcSt ([[.sl (.int .u8) l .no,.int .i64 q]]) 0) out))) (St.mk [(0,.ptr 0 0),(9,.agg [.str j0,.str j1]),(10,.int .i64 j2)] [[.sl (.int .u8) j3 .no,.int .i64 j4]] [] 0 0 0 0 1 39 [] 39)
theorem scan_value.L1_s (n k0 : Nat) (l : List Int) (q : Int) (j0 j1 : ByteArray) (j2 : Int) (j3 : List Int) (j4 : Int) : scan_value.L1 n (k0 + 1) l q j0 j1 j2 j3 j4 = if decide (j2 < 2) = true then if j2 = (↑(1 : Nat) : Int) then ((takeX j3 j4 j1).bind fun v2 => if v2.1 = true then ((cutX v2.2.1 (toBytes j1)).bind fun v3 => if v3.2.2 = true then some (.ret (.tup [.sl (.int .u8) v3.1 .no,.bool (if true = true then decide (Lib.indexByte (Lib.bytesOf v3.1) (Int.toNat (60 : Int)).toUInt8 < 0) else false)]),lcRet ([[.sl (.int .u8) v3.2.1 .no,.int .i64 v2.2.2]]) [] 0) else some (.ret (.tup [.sl (.int .u8) v3.1 .no,.bool false]),lcRet ([[.sl (.int .u8) v3.2.1 .no,.int .i64 v2.2.2]]) [] 0)) else (scan_value.L1 n k0 l q j0 j1 (i64.wrap (j2 + 1)) v2.2.1 v2.2.2)) else if j2 = (↑0 : Int) then ((takeX j3 j4 j0).bind fun v4 => if v4.1 = true then ((cutX v4.2.1 (toBytes j0)).bind fun v5 => if v5.2.2 = true then some (.ret (.tup [.sl (.int .u8) v5.1 .no,.bool (if true = true then decide (Lib.indexByte (Lib.bytesOf v5.1) (Int.toNat (60 : Int)).toUInt8 < 0) else false)]),lcRet ([[.sl (.int .u8) v5.2.1 .no,.int .i64 v4.2.2]]) [] 0) else some (.ret (.tup [.sl (.int .u8) v5.1 .no,.bool false]),lcRet ([[.sl (.int .u8) v5.2.1 .no,.int .i64 v4.2.2]]) [] 0)) else (scan_value.L1 n k0 l q j0 j1 (i64.wrap (j2 + 1)) v4.2.1 v4.2.2)) else none else some (.ret (.tup [.sl (.int .u8) [] .no,.bool false]),lcRet ([[.sl (.int .u8) j3 .no,.int .i64 j4]]) [] 0) := by kernel_rfl
theorem scan_value.top (n : Nat) (l : List Int) (q : Int) : callX false (fnF cx_scan_value noCalls n 39) ([.ptr 0 0]) (lcSt ([[.sl (.int .u8) l .no,.int .i64 q]]) 0) out = (scan_value.L1 n n l q (ByteArray.mk #[39]) (ByteArray.mk #[34]) 0 l q) := by kernel_rfl
def scan_opening.bs : List Nat := [0]
noncomputable def scan_opening.L1 (n k0 : Nat) (l : List Int) (q : Int) (j0 : List Int) (j1 j2 : Int) (j3 : ByteArray) (j4 : List (Ty.den U0 (Ty.str.pair Ty.str))) (j5 : Bool) (j6 : ByteArray) (j7 : Int) (j8 : ByteArray) (j9 : List (Ty.den U0 (Ty.str.pair Ty.str))) (j10 : Bool) (j11 : ByteArray) : Option (Rr U0) := loopF cx_scan_opening noCalls k0 (3) ([(0,false),(2,false),(3,false)]) ((siteC (Tryd.f14.body.getD .skip) [1,1,1,1,0,0]).getD .skip) (siteK cx_scan_opening noCalls n [] (Tryd.f14.body.getD .skip) [1,1,1,1,0,0] (bodyK cx_scan_opening Tryd.f14 (lcSt ([[.sl (.int .u8) l .no,.int .i64 q]]) 0) (callK false scan_opening.bs [] (lcSt ([[.sl (.int .u8) l .no,.int .i64 q]]) 0) out))) (St.mk [(0,.ptr 0 0),(2,.ptr 1 0),(3,.ptr 2 0)] [[.sl (.int .u8) j0 .no,.int .i64 j1],[.int .i64 j2,.str j3,.sl (Ty.str.pair Ty.str) j4 (Perm.tok 0),.bool j5,.str j6],[.int .i64 j7,.str j8,.sl (Ty.str.pair Ty.str) j9 (Perm.tok (0 + 1)),.bool j10,.str j11]] [1,0] 2 0 0 0 1 14 [] 41)
theorem scan_opening.L1_s (n k0 : Nat) (l : List Int) (q : Int) (j0 : List Int) (j1 j2 : Int) (j3 : ByteArray) (j4 : List (Ty.den U0 (Ty.str.pair Ty.str))) (j5 : Bool) (j6 : ByteArray) (j7 : Int) (j8 : ByteArray) (j9 : List (Ty.den U0 (Ty.str.pair Ty.str))) (j10 : Bool) (j11 : ByteArray) : scan_opening.L1 n (k0 + 1) l q j0 j1 j2 j3 j4 j5 j6 j7 j8 j9 j10 j11 = if (j1 == 0) = true then ((blanksX j0 j1).bind fun v6 => ((takeX v6.2.1 v6.2.2 (ByteArray.mk #[62])).bind fun v7 => if v7.1 = true then some (.ret (.agg [.int .i64 j7,.str j8,.sl (Ty.str.pair Ty.str) j9 .no,.bool j10,.str j11]),lcRet ([[.sl (.int .u8) v7.2.1 .no,.int .i64 v7.2.2]]) [] 0) else ((takeX v7.2.1 v7.2.2 (ByteArray.mk #[47,62])).bind fun v8 => if v8.1 = true then some (.ret (.agg [.int .i64 j7,.str j8,.sl (Ty.str.pair Ty.str) j9 .no,.bool true,.str j11]),lcRet ([[.sl (.int .u8) v8.2.1 .no,.int .i64 v8.2.2]]) [] 0) else if (!v6.1) = true then some (.ret (.agg [.int .i64 j7,.str j8,.sl (Ty.str.pair Ty.str) j9 .no,.bool j10,.str j11]),lcRet ([[.sl (.int .u8) v8.2.1 .no,.int .i64 11]]) [] 0) else ((attrX v8.2.1 v8.2.2).bind fun v9 => if (j9.length + [(v9.1,v9.2.1)].length) * 32 ≤ most then (scan_opening.L1 n k0 l q v9.2.2.1 v9.2.2.2 j2 j3 j4 j5 j6 j7 j8 (j9 ++ [(v9.1,v9.2.1)]) j10 j11) else none)))) else some (.ret (.agg [.int .i64 j7,.str j8,.sl (Ty.str.pair Ty.str) j9 .no,.bool j10,.str j11]),lcRet ([[.sl (.int .u8) j0 .no,.int .i64 j1]]) [] 0) := by kernel_rfl
theorem scan_opening.top (n : Nat) (l : List Int) (q : Int) : callX false (fnF cx_scan_opening noCalls n 14) ([.ptr 0 0]) (lcSt ([[.sl (.int .u8) l .no,.int .i64 q]]) 0) out = ((takeX l q (ByteArray.mk #[60])).bind fun v0 => ((nameX v0.2.1 v0.2.2).bind fun v1 => if seq v1.1 (ByteArray.mk #[]) = true then (scan_opening.L1 n n l q v1.2.1 11 0 (ByteArray.mk #[]) [] false (ByteArray.mk #[]) 1 v1.1 [] false (ByteArray.mk #[])) else (scan_opening.L1 n n l q v1.2.1 v1.2.2 0 (ByteArray.mk #[]) [] false (ByteArray.mk #[]) 1 v1.1 [] false (ByteArray.mk #[])))) := by kernel_rfl
theorem scan_literal.top (n : Nat) (l : List Int) (q : Int) : callX false (fnF cx_scan_literal noCalls n 12) ([.ptr 0 0]) (lcSt ([[.sl (.int .u8) l .no,.int .i64 q]]) 0) out = ((takeX l q (ByteArray.mk #[60,33,91,67,68,65,84,65,91])).bind fun v0 => ((cutX v0.2.1 [(93 : Int),(93 : Int),(62 : Int)]).bind fun v1 => if (!v1.2.2) = true then ((linesX v1.1 false).bind fun v2 => some (.ret (.agg [.int .i64 3,.str ⟨#[]⟩,.sl (Ty.str.pair Ty.str) [] .no,.bool false,.str (ofBytes v2)]),lcRet ([[.sl (.int .u8) v1.2.1 .no,.int .i64 11]]) [] 0)) else ((linesX v1.1 false).bind fun v3 => some (.ret (.agg [.int .i64 3,.str ⟨#[]⟩,.sl (Ty.str.pair Ty.str) [] .no,.bool false,.str (ofBytes v3)]),lcRet ([[.sl (.int .u8) v1.2.1 .no,.int .i64 v0.2.2]]) [] 0)))) := by kernel_rfl
theorem scan_is.top (n : Nat) (t : ByteArray) (l : List Int) (q : Int) : callX false (fnF cx_scan_is noCalls n 11) ([.str t,.ptr 0 0]) (lcSt ([[.ptr 1 0],[.sl (.int .u8) l .no,.int .i64 q]]) 0) out = ((Q.bytes_HasPrefix.f l (toBytes t)).bind fun v0 => some (.ret (.bool v0),lcRet ([[.ptr 1 0],[.sl (.int .u8) l .no,.int .i64 q]]) [] 0)) := by kernel_rfl
theorem xmllex_Next.top (n : Nat) (b : List Int) (p : Int) : callX false (fnF cx_xmllex_Next noCalls n 4) ([.sl (.int .u8) b .no,.int .i64 p]) (lcSt [] 0) out = ((skipX b p).bind fun v0 => if (v0.2 != 0) = true then some (.ret (.tup [.agg [.int .i64 0,.str ⟨#[]⟩,.sl (Ty.str.pair Ty.str) [] .no,.bool false,.str ⟨#[]⟩],.int .i64 v0.1,.int .i64 v0.2]),lcRet [] [] 0) else if 0 ≤ v0.1 then if v0.1 ≤ (↑b.length : Int) then ((tokX (List.drop v0.1.toNat b) (0 : Int)).bind fun v1 => if (v1.2.2.2.2.2.2 != 0) = true then some (.ret (.tup [.agg [.int .i64 0,.str ⟨#[]⟩,.sl (Ty.str.pair Ty.str) [] .no,.bool false,.str ⟨#[]⟩],.int .i64 v0.1,.int .i64 v1.2.2.2.2.2.2]),lcRet [] [] 0) else some (.ret (.tup [.agg [.int .i64 v1.1,.str v1.2.1,.sl (Ty.str.pair Ty.str) v1.2.2.1 .no,.bool v1.2.2.2.1,.str v1.2.2.2.2.1],.int .i64 (i64.wrap ((↑b.length : Int) - (↑v1.2.2.2.2.2.1.length : Int))),.int .i64 0]),lcRet [] [] 0)) else none else none) := by kernel_rfl
end Go.Proofs.YtccfmfifnbnlmaaDoor.Ev
end
section
/- The evaluator's trees are the functions: texts, tags, tokens. -/
set_option linter.unusedVariables false
set_option linter.unusedSimpArgs false
namespace Go.Proofs.YtccfmfifnbnlmaaDoor.Ev
open Go Go.RowKit Go.Proofs.YtccfmfifnbnlmaaDoorW.PrintWords
theorem wid (x : Int) (h : -9000000000 ≤ x ∧ x ≤ 9000000000) : IntKind.i64.wrap x = x := by rw [wrap_64]; unfold wrap64; omega
theorem okB_drop {l : List Int} (h : okB l) (n : Nat) : okB (l.drop n) := ⟨byteB_drop h.1 n,by rw [List.length_drop]; have := h.2; omega⟩
theorem okB_take {l : List Int} (h : okB l) (n : Nat) : okB (l.take n) := ⟨byteB_take h.1 n,by rw [List.length_take]; have := h.2; omega⟩
theorem okB_off {l : List Int} (h : okB l) : okB (off l) := okB_drop h _
theorem full_le {l : List Int} (h : byteB l = true) : Xm.fullL l ≤ l.length := by
 have h1 := Xm.nameL_le (byteB_bytes h)
 unfold Xm.fullL
 split
 · rename_i q
   have h2 := Xm.nameL_le (byteB_bytes (byteB_drop h (Xm.nameL l + 1)))
   rw [List.length_drop] at h2
   omega
 · exact h1
theorem seq_empty (m : List Int) : (seq (ofBytes m) (ByteArray.mk #[]) = true) = (m = []) := by
 rw [str_toBytes]
 have h := toBytes_len (ofBytes m)
 rw [ofBytes_size] at h
 apply propext
 constructor
 · intro q; rw [q] at h; exact List.eq_nil_of_length_eq_zero h.symm
 · intro q; exact List.eq_nil_of_length_eq_zero (by rw [h,q]; rfl)
theorem take_none {l : List Int} {n : Nat} (h : n ≤ l.length) : (l.take n = []) = (n = 0) := by
 apply propext
 constructor
 · intro q
   have := congrArg List.length q
   rw [List.length_take,List.length_nil] at this
   omega
 · rintro rfl; rfl
theorem index_byte : ∀ (s : List UInt8) (x : UInt8),Lib.index s [x] = Lib.indexByte s x
 | [],x => by simp [Lib.index,Lib.indexByte]
 | b :: t,x => by
  have ih := index_byte t x
  rw [Lib.index,Lib.indexByte,ih]
  have e : ([x].isPrefixOf (b :: t) = true) = ((b == x) = true) := by
   simp only [List.isPrefixOf,Bool.and_true,beq_iff_eq]
   exact propext ⟨fun h => h.symm,fun h => h.symm⟩
  by_cases c : b = x
  · rw [if_pos (e.mpr (beq_iff_eq.2 c)),if_pos (beq_iff_eq.2 c)]
  · rw [if_neg (fun q => c (beq_iff_eq.1 (e.mp q))),if_neg (fun q => c (beq_iff_eq.1 q))]
theorem indexByte_W (l : List Int) (x : Nat) (h : x < 256) : Lib.indexByte (Lib.bytesOf l) (Int.toNat (x : Int)).toUInt8 = bIndexW l [(x : Int)] := (index_byte _ _).symm
theorem cutX_ok {b c : List Int} (h : okB b) (hc : byteB c = true) (h1 : 0 < c.length ∧ c.length ≤ 1000) : cutX b c = some (if 0 ≤ bIndexW b c then (b.take (bIndexW b c).toNat,b.drop ((bIndexW b c).toNat + c.length),true) else (b,[],false)) := by
 unfold cutX
 rw [if_pos ⟨⟨h.1,hc⟩,by have := h.2; omega,h1⟩]
 split <;> rfl
theorem linesX_ok {b : List Int} (h : okB b) (v : Bool) : linesX b v = some (linesW b v) := by unfold linesX; rw [if_pos h]
theorem resX_ok {b : List Int} (h : okB b) (v : Bool) : resX b v = some (ofBytes (resW b v).1,(resW b v).2.1,(resW b v).2.2) := by unfold resX; rw [if_pos h]
theorem takeX_ok {l : List Int} (h : okB l) (q : Int) (t : ByteArray) (m : List Int) (n : Nat) (ht : toBytes t = m) (hn : m.length = n) : takeX l q t = some (if l.take n = m then (true,l.drop n,q) else (false,l,q)) := by
 subst ht hn
 unfold takeX
 rw [if_pos h,toBytes_len]
 by_cases c : l.take t.size = toBytes t
 · rw [if_pos c,if_pos c,decide_eq_true c]
 · rw [if_neg c,if_neg c,decide_eq_false c]
theorem blanksX_ok {l : List Int} (h : okB l) (q : Int) : blanksX l q = some (decide (0 < blankN l),off l,q) := by unfold blanksX; rw [if_pos h]
theorem nameX_ok {l : List Int} (h : okB l) (q : Int) : nameX l q = some (ofBytes (l.take (Xm.fullL l)),l.drop (Xm.fullL l),q) := by unfold nameX; rw [if_pos h]
theorem valueX_ok {l : List Int} (h : okB l) (q : Int) : valueX l q = some ((valW l).1,(valW l).2.1,(valW l).2.2,q) := by unfold valueX; rw [if_pos h]
theorem attrX_ok {l : List Int} (h : okB l) (q : Int) : attrX l q = some (ofBytes (attrW l).1,ofBytes (attrW l).2.1,(attrW l).2.2.1,(attrW l).2.2.2) := by unfold attrX; rw [if_pos h]
theorem isX_ok {l : List Int} (h : okB l) (t : ByteArray) (m : List Int) (n : Nat) (ht : toBytes t = m) (hn : m.length = n) : isX l t = some (decide (l.take n = m)) := by
 subst ht hn
 unfold isX
 rw [if_pos h,toBytes_len]
theorem okB_valQ {l : List Int} (h : okB l) (s : Int) : okB (valQ s l).1 ∧ okB (valQ s l).2.2 := by
 unfold valQ
 split
 · exact ⟨okB_take h _,okB_drop h _⟩
 · exact ⟨h,rfl,by simp⟩
theorem okB_valW {l : List Int} (h : okB l) : okB (valW l).1 ∧ okB (valW l).2.2 := by
 unfold valW
 split
 · exact okB_valQ (okB_drop h 1) _
 · split
   · exact okB_valQ (okB_drop h 1) _
   · exact ⟨⟨rfl,by simp⟩,h⟩
theorem okB_eqW {l : List Int} (h : okB l) : okB (eqW l).2 := by
 unfold eqW
 split
 · exact okB_drop h 1
 · exact h
theorem okB_attrW {l : List Int} (h : okB l) : okB (attrW l).2.2.1 := by
 unfold attrW
 dsimp only
 have := (okB_valW (okB_off (okB_eqW (okB_off (okB_drop h (Xm.fullL l)))))).2
 split <;> exact this
theorem valQ_len (s : Int) (l : List Int) : (valQ s l).2.2.length ≤ l.length := by
 unfold valQ
 split
 · rw [List.length_drop]; omega
 · simp
theorem valW_len (l : List Int) : (valW l).2.2.length ≤ l.length := by
 unfold valW
 split
 · have := valQ_len 39 (l.drop 1); rw [List.length_drop] at this; omega
 · split
   · have := valQ_len 34 (l.drop 1); rw [List.length_drop] at this; omega
   · exact Nat.le_refl _
theorem off_len (l : List Int) : (off l).length ≤ l.length := by unfold off; rw [List.length_drop]; omega
theorem eqW_len (l : List Int) : (eqW l).2.length ≤ l.length := by
 unfold eqW
 split
 · rw [List.length_drop]; omega
 · exact Nat.le_refl _
theorem attrW_len (l : List Int) : (attrW l).2.2.1.length ≤ l.length := by
 unfold attrW
 dsimp only
 have h1 := valW_len (off (eqW (off (l.drop (Xm.fullL l)))).2)
 have h2 := off_len (eqW (off (l.drop (Xm.fullL l)))).2
 have h3 := eqW_len (off (l.drop (Xm.fullL l)))
 have h4 := off_len (l.drop (Xm.fullL l))
 rw [List.length_drop] at h4
 split <;> dsimp only <;> omega
theorem scan_take.ok : AllOk specs_scan_take := okS (cx := cx_scan_take) rfl resS.ok (by kernel_rfl) fun args cs n K r g => by
 unfold scan_take.spec at g
 dsimp only [lcSt] at g
 split at g
 · rename_i t l q
   obtain ⟨v,h,h2⟩ := bind2 g
   clear g
   refine okG h2 ?_
   clear h2
   refine ⟨0,?_⟩
   rw [scan_take.top]
   unfold takeX at h
   split at h
   · rename_i hs
     obtain rfl := Option.some.inj h
     unfold Q.bytes_CutPrefix.f
     rw [preP_spec hs.1 (byteB_to t),Option.bind_some,toBytes_len]
     by_cases c : l.take t.size = toBytes t
     · have hl := take_len c
       rw [toBytes_len] at hl
       rw [if_pos (decide_eq_true c),if_pos (by omega),if_pos (by omega),if_pos c,decide_eq_true c]
       rfl
     · rw [if_neg (by simpa using c),if_neg c,decide_eq_false c]
       rfl
   · cases h
 · cases g
theorem scan_blanks.ok : AllOk specs_scan_blanks := okS (cx := cx_scan_blanks) rfl scan_take.ok (by kernel_rfl) fun args cs n K r g => by
 unfold scan_blanks.spec at g
 dsimp only [lcSt] at g
 split at g
 · rename_i l q
   obtain ⟨v,h,h2⟩ := bind2 g
   clear g
   refine okG h2 ?_
   clear h2
   refine ⟨0,?_⟩
   rw [scan_blanks.top]
   unfold blanksX at h
   split at h
   · rename_i hs
     obtain rfl := Option.some.inj h
     unfold trimX
     rw [if_pos hs,Option.bind_some,trim_blank hs.1]
     have hle := blankN_le l
     have e : decide (((l.drop (blankN l)).length : Int) < (l.length : Int)) = decide (0 < blankN l) := by
      rw [Bool.eq_iff_iff,decide_eq_true_eq,decide_eq_true_eq,List.length_drop]
      omega
     rw [e]
     rfl
   · cases h
 · cases g
theorem scan_name.ok : AllOk specs_scan_name := okS (cx := cx_scan_name) rfl scan_blanks.ok (by kernel_rfl) fun args cs n K r g => by
 unfold scan_name.spec at g
 dsimp only [lcSt] at g
 split at g
 · rename_i l q
   obtain ⟨v,h,h2⟩ := bind2 g
   clear g
   refine okG h2 ?_
   clear h2
   refine ⟨0,?_⟩
   rw [scan_name.top]
   unfold nameX at h
   split at h
   · rename_i hs
     obtain rfl := Option.some.inj h
     have hle := full_le hs.1
     unfold fullX
     have e : ((l.take (Xm.fullL l)).length : Int) = (Xm.fullL l : Int) := by rw [List.length_take]; omega
     rw [if_pos hs,Option.bind_some,e,if_pos (by omega),if_pos (by omega),Int.toNat_natCast]
   · cases h
 · cases g
theorem val_end (n k : Nat) (l0 : List Int) (q0 : Int) (a b : ByteArray) (i : Int) (l : List Int) (q : Int) (hi : i = 2) : scan_value.L1 n (k + 1) l0 q0 a b i l q = (some (.ret (.tup [.sl (.int .u8) [] .no,.bool false]),lcRet [[.sl (.int .u8) l .no,.int .i64 q]] [] 0) : Option (Rr U0)) := by
 subst hi
 rw [scan_value.L1_s,if_neg (by decide)]
theorem val_quote {l : List Int} (h : okB l) (s : Int) (hs : byteB [s] = true) (q : Int) :
 ((cutX l [s]).bind fun v1 => (if v1.2.2 = true then some (Res.ret (AVal.tup [AVal.sl (Ty.int IntKind.u8) v1.1 Perm.no,AVal.bool (if true = true then decide (Lib.indexByte (Lib.bytesOf v1.1) (Int.toNat (60 : Int)).toUInt8 < (0 : Int)) else false)]),lcRet ([[AVal.sl (Ty.int IntKind.u8) v1.2.1 Perm.no,AVal.int IntKind.i64 q]]) ([]) ((0 : Nat))) else some (Res.ret (AVal.tup [AVal.sl (Ty.int IntKind.u8) v1.1 Perm.no,AVal.bool false]),lcRet ([[AVal.sl (Ty.int IntKind.u8) v1.2.1 Perm.no,AVal.int IntKind.i64 q]]) ([]) ((0 : Nat))))) =
 (some (.ret (.tup [.sl (.int .u8) (valQ s l).1 .no,.bool (valQ s l).2.1]),lcRet [[.sl (.int .u8) (valQ s l).2.2 .no,.int .i64 q]] [] 0) : Option (Rr U0)) := by
 rw [cutX_ok h hs ⟨by simp,by simp⟩,Option.bind_some]
 unfold valQ
 by_cases c : 0 ≤ bIndexW l [s]
 · rw [if_pos c,if_pos c]
   dsimp only
   rw [if_pos rfl,if_pos rfl,show (60 : Int) = ((60 : Nat) : Int) from rfl,indexByte_W _ 60 (by decide)]
   rfl
 · rw [if_neg c,if_neg c]
   dsimp only
   rw [if_neg (by decide)]
theorem scan_value.ok : AllOk specs_scan_value := okS (cx := cx_scan_value) rfl scan_name.ok (by kernel_rfl) fun args cs n K r g => by
 unfold scan_value.spec at g
 dsimp only [lcSt] at g
 split at g
 · rename_i l q
   obtain ⟨v,h,h2⟩ := bind2 g
   clear g
   refine okG h2 ?_
   clear h2
   refine ⟨3,?_⟩
   rw [scan_value.top]
   unfold valueX at h
   split at h
   · rename_i hs
     obtain rfl := Option.some.inj h
     rw [show (3 : Nat) = 2 + 1 from rfl,scan_value.L1_s,if_pos (by decide),if_neg (by decide),if_pos (by decide),takeX_ok hs q _ [39] 1 rfl rfl,Option.bind_some]
     unfold valW
     by_cases c : l.take 1 = [39]
     · rw [if_pos c,if_pos c]
       dsimp only
       rw [if_pos rfl]
       exact val_quote (okB_drop hs 1) 39 (by decide) q
     · rw [if_neg c,if_neg c]
       dsimp only
       rw [if_neg (by decide),show IntKind.i64.wrap (0 + 1) = 1 from rfl,show (2 : Nat) = 1 + 1 from rfl,scan_value.L1_s,if_pos (by decide),if_pos (by decide),takeX_ok hs q _ [34] 1 rfl rfl,Option.bind_some]
       by_cases c2 : l.take 1 = [34]
       · rw [if_pos c2,if_pos c2]
         dsimp only
         rw [if_pos rfl]
         exact val_quote (okB_drop hs 1) 34 (by decide) q
       · rw [if_neg c2,if_neg c2]
         dsimp only
         rw [if_neg (by decide)]
         exact val_end _ 0 _ _ _ _ _ _ _ rfl
   · cases h
 · cases g
theorem scan_attribute.ok : AllOk specs_scan_attribute := okS (cx := cx_scan_attribute) rfl scan_value.ok (by kernel_rfl) fun args cs n K r g => by
 unfold scan_attribute.spec at g
 dsimp only [lcSt] at g
 split at g
 · rename_i l q
   obtain ⟨v,h,h2⟩ := bind2 g
   clear g
   refine okG h2 ?_
   clear h2
   refine ⟨0,?_⟩
   rw [scan_attribute.top]
   unfold attrX at h
   split at h
   · rename_i hs
     obtain rfl := Option.some.inj h
     have hle := full_le hs.1
     have h1 := okB_drop hs (Xm.fullL l)
     have h2 := okB_off h1
     rw [nameX_ok hs,Option.bind_some,blanksX_ok h1,Option.bind_some,takeX_ok h2 q _ [61] 1 rfl rfl,Option.bind_some]
     have h3 := okB_eqW h2
     have e3 : (if (off (l.drop (Xm.fullL l))).take 1 = [61] then (true,(off (l.drop (Xm.fullL l))).drop 1,q) else (false,off (l.drop (Xm.fullL l)),q)) = ((eqW (off (l.drop (Xm.fullL l)))).1,(eqW (off (l.drop (Xm.fullL l)))).2,q) := by
      unfold eqW
      split <;> rfl
     dsimp only
     rw [e3]
     dsimp only
     have h4 := okB_off h3
     rw [blanksX_ok h3,Option.bind_some]
     dsimp only
     rw [valueX_ok h4,Option.bind_some]
     dsimp only
     unfold attrW
     dsimp only
     by_cases c : Xm.fullL l = 0 ∨ (eqW (off (l.drop (Xm.fullL l)))).1 = false ∨ (valW (off (eqW (off (l.drop (Xm.fullL l)))).2)).2.1 = false
     · rw [if_pos (by rw [ite_or,ite_or,seq_empty,take_none hle,Bool.not_eq_true',Bool.not_eq_true',or_assoc]; exact c),if_pos c]
       rfl
     · rw [if_neg (by rw [ite_or,ite_or,seq_empty,take_none hle,Bool.not_eq_true',Bool.not_eq_true',or_assoc]; exact c),if_neg c,resX_ok (okB_valW h4).1,Option.bind_some]
   · cases h
 · cases g
theorem open_L (n : Nat) (l0 : List Int) (q0 : Int) (x2 : Int) (x3 : ByteArray) (x4 : List (Ty.den U0 (Ty.str.pair Ty.str))) (x5 : Bool) (x6 : ByteArray) (nm : ByteArray) : ∀ (d k : Nat) (l : List Int) (xs : List (ByteArray × ByteArray)),okB l → l.length < d → xs.length + l.length ≤ 8000000 →
 scan_opening.L1 n (k + d + 1) l0 q0 l 0 x2 x3 x4 x5 x6 1 nm xs false ⟨#[]⟩ = (some (.ret (.agg [.int .i64 1,.str nm,.sl (Ty.str.pair Ty.str) (openGo d l xs).1 .no,.bool (openGo d l xs).2.1,.str ⟨#[]⟩]),lcRet [[.sl (.int .u8) (openGo d l xs).2.2.1 .no,.int .i64 (openGo d l xs).2.2.2]] [] 0) : Option (Rr U0)) := by
 intro d
 induction d with
 | zero => intro k l xs _ h1; omega
 | succ d ih =>
  intro k l xs hb h1 h2
  have ho := okB_off hb
  rw [show k + (d + 1) + 1 = (k + d + 1) + 1 from rfl,scan_opening.L1_s,if_pos (by decide),blanksX_ok hb,Option.bind_some]
  dsimp only
  rw [takeX_ok ho 0 _ [62] 1 rfl rfl,Option.bind_some,openGo]
  by_cases c1 : (off l).take 1 = [62]
  · rw [if_pos c1,if_pos c1]
    dsimp only
    rw [if_pos rfl]
  rw [if_neg c1,if_neg c1]
  dsimp only
  rw [if_neg (by decide),takeX_ok ho 0 _ [47,62] 2 rfl rfl,Option.bind_some]
  by_cases c2 : (off l).take 2 = [47,62]
  · rw [if_pos c2,if_pos c2]
    dsimp only
    rw [if_pos rfl]
  rw [if_neg c2,if_neg c2]
  dsimp only
  rw [if_neg (by decide)]
  by_cases c3 : blankN l = 0
  · rw [if_pos (by rw [c3]; rfl),if_pos c3]
  have hp : (!decide (0 < blankN l)) = false := by rw [decide_eq_true (by omega)]; rfl
  rw [if_neg (by rw [hp]; decide),if_neg c3,attrX_ok ho,Option.bind_some]
  dsimp only
  have hl := attrW_len (off l)
  have hl2 : (off l).length < l.length := by
   have := blankN_le l
   unfold off
   rw [List.length_drop]; omega
  rw [if_pos (by simp only [List.length_cons,List.length_nil,most]; omega)]
  by_cases c4 : (attrW (off l)).2.2.2 = 0
  · rw [if_pos c4,c4]
    exact ih k _ _ (okB_attrW ho) (by omega) (by rw [List.length_append]; simp only [List.length_cons,List.length_nil]; omega)
  · rw [if_neg c4,scan_opening.L1_s,if_neg (by rw [beq_iff_eq]; exact c4)]
theorem scan_opening.ok : AllOk specs_scan_opening := okS (cx := cx_scan_opening) rfl scan_attribute.ok (by kernel_rfl) fun args cs n K r g => by
 unfold scan_opening.spec at g
 dsimp only [lcSt] at g
 split at g
 · rename_i l q
   obtain ⟨v,h,h2⟩ := bind2 g
   clear g
   refine okG h2 ?_
   clear h2
   refine ⟨0 + (l.length + 1) + 1,?_⟩
   rw [scan_opening.top]
   unfold openX at h
   split at h
   · rename_i hs
     obtain rfl := Option.some.inj h
     obtain ⟨hs,rfl⟩ := hs
     rw [takeX_ok hs 0 _ [60] 1 rfl rfl,Option.bind_some]
     have e : (if l.take 1 = [60] then (true,l.drop 1,(0 : Int)) else (false,l,0)) = (decide (l.take 1 = [60]),(if l.take 1 = [60] then l.drop 1 else l),0) := by
      by_cases c : l.take 1 = [60]
      · rw [if_pos c,if_pos c,decide_eq_true c]
      · rw [if_neg c,if_neg c,decide_eq_false c]
     rw [e]
     have hu : okB (if l.take 1 = [60] then l.drop 1 else l) := by
      split
      · exact okB_drop hs 1
      · exact hs
     have hul : (if l.take 1 = [60] then l.drop 1 else l).length ≤ l.length := by
      split
      · rw [List.length_drop]; omega
      · exact Nat.le_refl _
     unfold openW
     dsimp only
     generalize (if l.take 1 = [60] then l.drop 1 else l) = u at hu hul ⊢
     have hle := full_le hu.1
     rw [nameX_ok hu,Option.bind_some]
     dsimp only
     by_cases c : Xm.fullL u = 0
     · rw [if_pos (by rw [seq_empty,take_none hle]; exact c),if_pos c,c,List.drop_zero,scan_opening.L1_s,if_neg (by decide)]
       rfl
     · rw [if_neg (by rw [seq_empty,take_none hle]; exact c),if_neg c]
       refine (open_L _ l 0 _ _ _ _ _ _ (l.length + 1) 0 (u.drop (Xm.fullL u)) [] (okB_drop hu _) (by rw [List.length_drop]; omega) (by rw [List.length_drop]; have := hu.2; simp only [List.length_nil]; omega)).trans ?_
       rfl
   · cases h
 · cases g
theorem scan_closing.ok : AllOk specs_scan_closing := okS (cx := cx_scan_closing) rfl scan_opening.ok (by kernel_rfl) fun args cs n K r g => by
 unfold scan_closing.spec at g
 dsimp only [lcSt] at g
 split at g
 · rename_i l q
   obtain ⟨v,h,h2⟩ := bind2 g
   clear g
   refine okG h2 ?_
   clear h2
   refine ⟨0,?_⟩
   rw [scan_closing.top]
   unfold closeX at h
   split at h
   · rename_i hs
     obtain rfl := Option.some.inj h
     obtain ⟨hs,rfl⟩ := hs
     rw [takeX_ok hs 0 _ [60,47] 2 rfl rfl,Option.bind_some]
     have e : (if l.take 2 = [60,47] then (true,l.drop 2,(0 : Int)) else (false,l,0)) = (decide (l.take 2 = [60,47]),(if l.take 2 = [60,47] then l.drop 2 else l),0) := by
      by_cases c : l.take 2 = [60,47]
      · rw [if_pos c,if_pos c,decide_eq_true c]
      · rw [if_neg c,if_neg c,decide_eq_false c]
     rw [e]
     have hu : okB (if l.take 2 = [60,47] then l.drop 2 else l) := by
      split
      · exact okB_drop hs 2
      · exact hs
     unfold closeW
     dsimp only
     generalize (if l.take 2 = [60,47] then l.drop 2 else l) = u at hu ⊢
     have hle := full_le hu.1
     have h1 := okB_drop hu (Xm.fullL u)
     have h2 := okB_off h1
     rw [nameX_ok hu,Option.bind_some]
     dsimp only
     rw [blanksX_ok h1,Option.bind_some]
     dsimp only
     by_cases c : Xm.fullL u = 0
     · rw [if_pos (by rw [seq_empty,take_none hle]; exact c),if_pos c,c]
       rfl
     · rw [if_neg (by rw [seq_empty,take_none hle]; exact c),if_neg c,takeX_ok h2 0 _ [62] 1 rfl rfl,Option.bind_some]
       by_cases c2 : (off (u.drop (Xm.fullL u))).take 1 = [62]
       · rw [if_pos c2,if_pos c2]
         dsimp only
         rw [if_neg (by decide)]
         rfl
       · rw [if_neg c2,if_neg c2]
         dsimp only
         rw [if_pos (by decide)]
         rfl
   · cases h
 · cases g
theorem scan_literal.ok : AllOk specs_scan_literal := okS (cx := cx_scan_literal) rfl scan_closing.ok (by kernel_rfl) fun args cs n K r g => by
 unfold scan_literal.spec at g
 dsimp only [lcSt] at g
 split at g
 · rename_i l q
   obtain ⟨v,h,h2⟩ := bind2 g
   clear g
   refine okG h2 ?_
   clear h2
   refine ⟨0,?_⟩
   rw [scan_literal.top]
   unfold litX at h
   split at h
   · rename_i hs
     obtain rfl := Option.some.inj h
     obtain ⟨hs,rfl⟩ := hs
     rw [takeX_ok hs 0 _ [60,33,91,67,68,65,84,65,91] 9 rfl rfl,Option.bind_some]
     have e : (if l.take 9 = [60,33,91,67,68,65,84,65,91] then (true,l.drop 9,(0 : Int)) else (false,l,0)) = (decide (l.take 9 = [60,33,91,67,68,65,84,65,91]),(if l.take 9 = [60,33,91,67,68,65,84,65,91] then l.drop 9 else l),0) := by
      by_cases c : l.take 9 = [60,33,91,67,68,65,84,65,91]
      · rw [if_pos c,if_pos c,decide_eq_true c]
      · rw [if_neg c,if_neg c,decide_eq_false c]
     rw [e]
     have hu : okB (if l.take 9 = [60,33,91,67,68,65,84,65,91] then l.drop 9 else l) := by
      split
      · exact okB_drop hs 9
      · exact hs
     unfold litW
     dsimp only
     generalize (if l.take 9 = [60,33,91,67,68,65,84,65,91] then l.drop 9 else l) = u at hu ⊢
     rw [cutX_ok hu (by decide) ⟨by decide,by decide⟩,Option.bind_some]
     by_cases c : 0 ≤ bIndexW u [93,93,62]
     · rw [if_pos c,if_pos c]
       dsimp only
       rw [if_neg (by decide),linesX_ok (okB_take hu _),Option.bind_some]
       rfl
     · rw [if_neg c,if_neg c]
       dsimp only
       rw [if_pos (by decide),linesX_ok hu,Option.bind_some]
       rfl
   · cases h
 · cases g
theorem textN_le (l : List Int) : textN l ≤ l.length := by
 obtain ⟨q1,q2⟩ := bIndex_lt (l := l) (m := [60])
 unfold textN
 split
 · exact Nat.le_refl _
 · rw [if_neg (by omega)] at q2
   simp only [List.length_cons,List.length_nil] at q2
   omega
theorem containsX_ok {b c : List Int} (h : okB b) (hc : byteB c = true) (h1 : 0 < c.length ∧ c.length ≤ 1000) : containsX b c = some (bIndexW b c != -1) := by
 unfold containsX
 rw [if_pos ⟨⟨h.1,hc⟩,by have := h.2; omega,h1⟩]
theorem scan_text.ok : AllOk specs_scan_text := okS (cx := cx_scan_text) rfl scan_literal.ok (by kernel_rfl) fun args cs n K r g => by
 unfold scan_text.spec at g
 dsimp only [lcSt] at g
 split at g
 · rename_i l q
   obtain ⟨v,h,h2⟩ := bind2 g
   clear g
   refine okG h2 ?_
   clear h2
   refine ⟨0,?_⟩
   rw [scan_text.top]
   unfold textX at h
   split at h
   · rename_i hs
     obtain rfl := Option.some.inj h
     obtain ⟨hs,rfl⟩ := hs
     have hle := textN_le l
     have fin : ∀ (m : Int),m = (textN l : Int) → ((containsX (List.take m.toNat l) [(93 : Int),(93 : Int),(62 : Int)]).bind fun v0 => (if v0 = true then some (Res.ret (AVal.agg [AVal.int IntKind.i64 (3 : Int),AVal.str (ByteArray.mk #[]),AVal.sl (Ty.str.pair Ty.str) [] Perm.no,AVal.bool false,AVal.str (ByteArray.mk #[])]),lcRet ([[AVal.sl (Ty.int IntKind.u8) (List.drop m.toNat l) Perm.no,AVal.int IntKind.i64 (11 : Int)]]) ([]) ((0 : Nat))) else ((resX (List.take m.toNat l) false).bind fun v1 => some (Res.ret (AVal.agg [AVal.int IntKind.i64 (3 : Int),AVal.str (ByteArray.mk #[]),AVal.sl (Ty.str.pair Ty.str) [] Perm.no,AVal.bool false,AVal.str v1.1]),lcRet ([[AVal.sl (Ty.int IntKind.u8) (List.drop m.toNat l) Perm.no,AVal.int IntKind.i64 v1.2.2]]) ([]) ((0 : Nat)))))) =
      (some (.ret (.agg [.int .i64 (flatB (textW l)).1,.str (flatB (textW l)).2.1,.sl (Ty.str.pair Ty.str) (flatB (textW l)).2.2.1 .no,.bool (flatB (textW l)).2.2.2.1,.str (flatB (textW l)).2.2.2.2.1]),lcRet [[.sl (.int .u8) (flatB (textW l)).2.2.2.2.2.1 .no,.int .i64 (flatB (textW l)).2.2.2.2.2.2]] [] 0) : Option (Rr U0)) := by
      rintro _ rfl
      rw [Int.toNat_natCast,containsX_ok (okB_take hs _) (by decide) ⟨by decide,by decide⟩,Option.bind_some]
      unfold textW
      by_cases c : bIndexW (l.take (textN l)) [93,93,62] = -1
      · rw [if_neg (by rw [c]; decide),if_pos c,resX_ok (okB_take hs _),Option.bind_some]
        rfl
      · rw [if_pos (bne_iff_ne.2 c),if_neg c]
        rfl
     rw [show (60 : Int) = ((60 : Nat) : Int) from rfl,indexByte_W l 60 (by decide),show ((60 : Nat) : Int) = 60 from rfl]
     obtain ⟨q1,q2⟩ := bIndex_lt (l := l) (m := [60])
     by_cases c : bIndexW l [60] < 0
     · rw [if_pos (decide_eq_true c),if_pos (by omega),if_pos (by omega),if_pos (by omega),if_pos (by omega)]
       exact fin _ (by unfold textN; rw [if_pos c])
     · rw [if_neg (c := bIndexW l [60] = -1) (by omega)] at q2
       simp only [List.length_cons,List.length_nil] at q2
       rw [if_neg (by simpa using c),if_pos (by omega),if_pos (by omega),if_pos (by omega),if_pos (by omega)]
       exact fin _ (by unfold textN; rw [if_neg c]; omega)
   · cases h
 · cases g
theorem scan_is.ok : AllOk specs_scan_is := okS (cx := cx_scan_is) rfl scan_text.ok (by kernel_rfl) fun args cs n K r g => by
 unfold scan_is.spec at g
 dsimp only [lcSt] at g
 split at g
 · rename_i t l q
   obtain ⟨v,h,h2⟩ := bind2 g
   clear g
   refine okG h2 ?_
   clear h2
   refine ⟨0,?_⟩
   rw [scan_is.top]
   unfold isX at h
   split at h
   · rename_i hs
     obtain rfl := Option.some.inj h
     rw [preP_spec hs.1 (byteB_to t),Option.bind_some,toBytes_len]
   · cases h
 · cases g
theorem litX_ok {l : List Int} (h : okB l) : litX l 0 = some (flatB (litW l)) := by unfold litX; rw [if_pos ⟨h,rfl⟩]
theorem closeX_ok {l : List Int} (h : okB l) : closeX l 0 = some (flatB (closeW l)) := by unfold closeX; rw [if_pos ⟨h,rfl⟩]
theorem openX_ok {l : List Int} (h : okB l) : openX l 0 = some (flatB (openW l)) := by unfold openX; rw [if_pos ⟨h,rfl⟩]
theorem textX_ok {l : List Int} (h : okB l) : textX l 0 = some (flatB (textW l)) := by unfold textX; rw [if_pos ⟨h,rfl⟩]
theorem scan_token.ok : AllOk specs_scan_token := okS (cx := cx_scan_token) rfl scan_is.ok (by kernel_rfl) fun args cs n K r g => by
 unfold scan_token.spec at g
 dsimp only [lcSt] at g
 split at g
 · rename_i l q
   obtain ⟨v,h,h2⟩ := bind2 g
   clear g
   refine okG h2 ?_
   clear h2
   refine ⟨0,?_⟩
   rw [scan_token.top]
   unfold tokX at h
   split at h
   · rename_i hs
     obtain rfl := Option.some.inj h
     obtain ⟨hs,rfl⟩ := hs
     unfold tokW
     by_cases c0 : l.length = 0
     · rw [if_pos (by rw [beq_iff_eq]; omega),if_pos c0]
       rfl
     rw [if_neg (by rw [beq_iff_eq]; omega),if_neg c0,isX_ok hs _ [60,33,91,67,68,65,84,65,91] 9 rfl rfl,Option.bind_some]
     by_cases c1 : l.take 9 = [60,33,91,67,68,65,84,65,91]
     · rw [if_pos (decide_eq_true c1),if_pos c1,litX_ok hs,Option.bind_some]
     rw [if_neg (by rw [decide_eq_true_eq]; exact c1),if_neg c1,isX_ok hs _ [60,33,68,79,67,84,89,80,69] 9 rfl rfl,Option.bind_some]
     by_cases c2 : l.take 9 = [60,33,68,79,67,84,89,80,69]
     · rw [if_pos (decide_eq_true c2),if_pos c2]
       rfl
     rw [if_neg (by rw [decide_eq_true_eq]; exact c2),if_neg c2,isX_ok hs _ [60,47] 2 rfl rfl,Option.bind_some]
     by_cases c3 : l.take 2 = [60,47]
     · rw [if_pos (decide_eq_true c3),if_pos c3,closeX_ok hs,Option.bind_some]
     rw [if_neg (by rw [decide_eq_true_eq]; exact c3),if_neg c3,isX_ok hs _ [60] 1 rfl rfl,Option.bind_some]
     by_cases c4 : l.take 1 = [60]
     · rw [if_pos (decide_eq_true c4),if_pos c4,openX_ok hs,Option.bind_some]
     rw [if_neg (by rw [decide_eq_true_eq]; exact c4),if_neg c4,textX_ok hs,Option.bind_some]
   · cases h
 · cases g
theorem openGo_len : ∀ (d : Nat) (l : List Int) (xs : List (ByteArray × ByteArray)),(openGo d l xs).2.2.1.length ≤ l.length
 | 0,l,xs => Nat.le_refl _
 | d + 1,l,xs => by
  have h1 := off_len l
  have h2 := attrW_len (off l)
  rw [openGo]
  split
  · rw [List.length_drop]; omega
  split
  · rw [List.length_drop]; omega
  split
  · exact h1
  · dsimp only
    split
    · have := openGo_len d (attrW (off l)).2.2.1 (xs ++ [(ofBytes (attrW (off l)).1,ofBytes (attrW (off l)).2.1)])
      omega
    · dsimp only; omega
theorem ite_len {c : Prop} [Decidable c] (l : List Int) (n : Nat) : (if c then l.drop n else l).length ≤ l.length := by
 split
 · rw [List.length_drop]; omega
 · exact Nat.le_refl _
theorem openW_len (l : List Int) : (openW l).2.1.length ≤ l.length := by
 have h1 := ite_len (c := l.take 1 = [60]) l 1
 unfold openW
 dsimp only
 generalize (if l.take 1 = [60] then l.drop 1 else l) = u at h1
 have h2 := openGo_len (l.length + 1) (u.drop (Xm.fullL u)) []
 rw [List.length_drop] at h2
 split <;> dsimp only <;> omega
theorem closeW_len (l : List Int) : (closeW l).2.1.length ≤ l.length := by
 have h1 := ite_len (c := l.take 2 = [60,47]) l 2
 unfold closeW
 dsimp only
 generalize (if l.take 2 = [60,47] then l.drop 2 else l) = u at h1
 have h2 := off_len (u.drop (Xm.fullL u))
 rw [List.length_drop] at h2
 split
 · dsimp only; omega
 · split
   · dsimp only; rw [List.length_drop]; omega
   · dsimp only; omega
theorem litW_len (l : List Int) : (litW l).2.1.length ≤ l.length := by
 have h1 := ite_len (c := l.take 9 = [60,33,91,67,68,65,84,65,91]) l 9
 unfold litW
 dsimp only
 generalize (if l.take 9 = [60,33,91,67,68,65,84,65,91] then l.drop 9 else l) = u at h1
 split
 · dsimp only; rw [List.length_drop]; omega
 · exact Nat.zero_le _
theorem textW_len (l : List Int) : (textW l).2.1.length ≤ l.length := by
 unfold textW
 split <;> (dsimp only; rw [List.length_drop]; omega)
theorem tokW_len (l : List Int) : (tokW l).2.1.length ≤ l.length := by
 unfold tokW
 split
 · exact Nat.le_refl _
 split
 · exact litW_len l
 split
 · exact Nat.le_refl _
 split
 · exact closeW_len l
 split
 · exact openW_len l
 · exact textW_len l
theorem tokX_ok {l : List Int} (h : okB l) : tokX l 0 = some (flatB (tokW l)) := by unfold tokX; rw [if_pos ⟨h,rfl⟩]
theorem skipGo_in : ∀ (d : Nat) (b : List Int) (p : Int),0 ≤ p → p ≤ b.length → 0 ≤ (skipGo d b p).1 ∧ (skipGo d b p).1 ≤ b.length ∧ p ≤ (skipGo d b p).1
 | 0,b,p,h0,h1 => ⟨h0,h1,Int.le_refl _⟩
 | d + 1,b,p,h0,h1 => by
  have c := comm_pos (b.drop p.toNat)
  have i := inst_pos (b.drop p.toNat)
  rw [List.length_drop] at c i
  rcases skip_step (d := d) h0 h1 with ⟨_,e,_⟩ | ⟨_,_,e,_⟩ | ⟨_,_,e⟩ <;> rw [e]
  · split
    · exact ⟨h0,h1,Int.le_refl _⟩
    · have := skipGo_in d b (p + commW (b.drop p.toNat)) (by omega) (by omega)
      exact ⟨this.1,this.2.1,by omega⟩
  · split
    · exact ⟨h0,h1,Int.le_refl _⟩
    · have := skipGo_in d b (p + instW (b.drop p.toNat)) (by omega) (by omega)
      exact ⟨this.1,this.2.1,by omega⟩
  · exact ⟨h0,h1,Int.le_refl _⟩
theorem skipW_in {b : List Int} {p : Int} (h : (skipW b p).2 = 0) : 0 ≤ (skipW b p).1 ∧ (skipW b p).1 ≤ b.length ∧ p ≤ (skipW b p).1 := by
 unfold skipW at h ⊢
 by_cases c : p < 0 ∨ p > b.length
 · rw [if_pos c] at h; cases h
 · rw [if_neg c]
   exact skipGo_in _ _ _ (by omega) (by omega)
theorem xmllex_Next.ok : AllOk specs_xmllex_Next := okS (cx := cx_xmllex_Next) rfl scan_token.ok (by kernel_rfl) fun args cs n K r g => by
 unfold xmllex_Next.spec at g
 dsimp only [lcSt] at g
 split at g
 · rename_i b p
   obtain ⟨v,h,h2⟩ := bind2 g
   clear g
   refine okG h2 ?_
   clear h2
   refine ⟨0,?_⟩
   rw [xmllex_Next.top]
   unfold nextX at h
   split at h
   · rename_i hs
     obtain rfl := Option.some.inj h
     unfold skipX
     rw [if_pos hs,Option.bind_some]
     unfold nextW
     dsimp only
     by_cases c : (skipW b p).2 = 0
     · obtain ⟨k0,k1,_⟩ := skipW_in c
       have hlen := tokW_len (b.drop (skipW b p).1.toNat)
       rw [List.length_drop] at hlen
       rw [if_neg (c := ((skipW b p).2 != 0) = true) (by rw [bne_iff_ne]; exact fun q => q c),if_pos k0,if_pos k1,tokX_ok (okB_drop hs _),Option.bind_some,if_neg (c := (skipW b p).2 ≠ 0) (fun q => q c)]
       generalize tokW (b.drop (skipW b p).1.toNat) = t at hlen
       have hs2 := hs.2
       by_cases c2 : t.2.2 = 0
       · rw [if_neg (c := ((flatB t).2.2.2.2.2.2 != 0) = true) (by rw [bne_iff_ne]; exact fun q => q c2),if_neg (c := t.2.2 ≠ 0) (fun q => q c2)]
         have hw : IntKind.i64.wrap ((b.length : Int) - ((flatB t).2.2.2.2.2.1.length : Int)) = (b.length : Int) - t.2.1.length := wid _ (by show _ ≤ (b.length : Int) - (t.2.1.length : Int) ∧ (b.length : Int) - (t.2.1.length : Int) ≤ _; omega)
         rw [hw]
         rfl
       · rw [if_pos (c := ((flatB t).2.2.2.2.2.2 != 0) = true) (bne_iff_ne.2 c2),if_pos (c := t.2.2 ≠ 0) c2]
         rfl
     · rw [if_pos (bne_iff_ne.2 c),if_pos c]
       rfl
   · cases h
 · cases g
end Go.Proofs.YtccfmfifnbnlmaaDoor.Ev
end
section
/- What is known of each function: its word; and the contexts in which it is reckoned. -/
-- prev xmllex_Next
-- irreducible skipX nextX sameX awakeX lawX allX
set_option linter.unusedVariables false
namespace Go.Proofs.YtccfmfifnbnlmaaDoor.Ev
open Go
instance : DecidableEq TokT := inferInstanceAs (DecidableEq (Int × ByteArray × List (ByteArray × ByteArray) × Bool × ByteArray))
def awakeX : Option Bool := some true
def lawX (b : List Int) : Option Bool := if okB b then some true else none
noncomputable def cx_law_awake := cxOf specs_xmllex_Next
noncomputable def law_awake.spec : Spec := fun args st K => match args,st.box,st.nt with
 | [],[],0 => (awakeX).bind fun v => K (.ret (.bool v)) (lcRet [] [] 0)
 | _,_,_ => none
noncomputable def specs_law_awake : SpecL := (5,false,law_awake.spec) :: specs_xmllex_Next
noncomputable def cx_law_Goes := cxOf specs_law_awake
noncomputable def law_Goes.spec : Spec := fun args st K => match args,st.box,st.nt with
 | [.sl (.int .u8) b .no,.int .i64 p],[],0 => (lawX b).bind fun v => K (.ret (.bool v)) (lcRet [] [] 0)
 | _,_,_ => none
noncomputable def specs_law_Goes : SpecL := (3,false,law_Goes.spec) :: specs_law_awake
end Go.Proofs.YtccfmfifnbnlmaaDoor.Ev
end
section
/- What each function comes to, one step of it at a time: the kernel's own reckoning. -/
set_option linter.unusedVariables false
set_option maxRecDepth 100000
namespace Go.Proofs.YtccfmfifnbnlmaaDoor.Ev
open Go Go.RowKit
open Go.IntKind (i64 u8 i32 u64)
theorem law_awake.top (n : Nat) : callX false (fnF cx_law_awake noCalls n 5) [] (lcSt [] 0) out = ((nextX [(60 : Int),(97 : Int),(32 : Int),(98 : Int),(61 : Int),(39 : Int),(49 : Int),(39 : Int),(47 : Int),(62 : Int)] (0 : Int)).bind fun v0 => some (.ret (.bool (if (if (if (v0.2.2.2.2.2.2 == 0) = true then v0.2.2.2.2.2.1 == 10 else false) = true then v0.2.2.2.1 else false) = true then (↑v0.2.2.1.length : Int) == 1 else false)),lcRet [] [] 0)) := by kernel_rfl
theorem law_Goes.top (n : Nat) (b : List Int) (p : Int) : callX false (fnF cx_law_Goes noCalls n 3) ([.sl (.int .u8) b .no,.int .i64 p]) (lcSt [] 0) out = ((nextX b p).bind fun v0 => if (v0.2.2.2.2.2.2 != 0) = true then ((awakeX).bind fun v1 => some (.ret (.bool v1),lcRet [] [] 0)) else if (if (if (if decide (v0.2.2.2.2.2.1 ≥ p) = true then decide (v0.2.2.2.2.2.1 ≤ (↑b.length : Int)) else false) = true then if decide (v0.2.2.2.2.2.1 > p) = true then true else v0.1 == 0 else false) = true then if (v0.1 != 0) = true then true else v0.2.2.2.2.2.1 == (↑b.length : Int) else false) = true then ((awakeX).bind fun v2 => some (.ret (.bool (if true = true then v2 else false)),lcRet [] [] 0)) else some (.ret (.bool false),lcRet [] [] 0)) := by kernel_rfl
end Go.Proofs.YtccfmfifnbnlmaaDoor.Ev
end
section
/- The evaluator's trees are the functions: the laws. -/
set_option linter.unusedVariables false
set_option linter.unusedSimpArgs false
namespace Go.Proofs.YtccfmfifnbnlmaaDoor.Ev
open Go Go.RowKit Go.Proofs.YtccfmfifnbnlmaaDoorW.PrintWords
theorem nextX_ok {b : List Int} (h : okB b) (p : Int) : nextX b p = some (flatT (nextW b p)) := by unfold nextX; rw [if_pos h]
theorem index_head {x y : Int} {t : List Int} (hx : 0 ≤ x ∧ x < 256) (hy : 0 ≤ y ∧ y < 256) (ht : byteB t = true) : bIndexW (x :: t) [y] = if x = y then 0 else if bIndexW t [y] = -1 then -1 else bIndexW t [y] + 1 := by
 have hb : byteB (x :: t) = true := by unfold byteB at ht ⊢; rw [List.all_cons,ht,Bool.and_true,Bool.and_eq_true]; exact ⟨decide_eq_true hx.1,decide_eq_true hx.2⟩
 have hm : byteB [y] = true := by unfold byteB; rw [List.all_cons,List.all_nil,Bool.and_true,Bool.and_eq_true]; exact ⟨decide_eq_true hy.1,decide_eq_true hy.2⟩
 rw [bIndex_cons,pre_bytes hb hm]
 have e : ((x :: t).take [y].length = [y]) ↔ x = y := by
  rw [show [y].length = 1 from rfl,List.take_succ_cons,List.take_zero]
  exact ⟨fun h => (List.cons.inj h).1,fun h => by rw [h]⟩
 by_cases c : x = y
 · rw [if_pos (decide_eq_true (e.2 c)),if_pos c]
 · rw [if_neg (by rw [decide_eq_true_eq]; exact fun q => c (e.1 q)),if_neg c]
/-- What a sign-less list says of a search. -/
theorem index_zero {l : List Int} {y : Int} (hb : byteB l = true) (hy : 0 ≤ y ∧ y < 256) (h : bIndexW l [y] = 0) : l.take 1 = [y] := by
 cases l with
 | nil => rw [bIndex_nil (by simp)] at h; cases h
 | cons x t =>
  have hx := byteB_all hb x (List.mem_cons_self ..)
  have ht : byteB t = true := by unfold byteB at hb ⊢; rw [List.all_cons,Bool.and_eq_true] at hb; exact hb.2
  have hg := bIndex_ge t [y]
  rw [index_head hx hy ht] at h
  by_cases c : x = y
  · rw [c]; rfl
  · rw [if_neg c] at h
    split at h <;> omega
/-- A token that is none of an error takes bytes, unless there are none. -/
theorem tokW_less {l : List Int} (hb : okB l) (h : (tokW l).2.2 = 0) (h0 : l.length ≠ 0) : (tokW l).2.1.length < l.length ∧ (tokW l).1.1 ≠ 0 := by
 unfold tokW at h ⊢
 rw [if_neg h0] at h ⊢
 by_cases c1 : l.take 9 = [60,33,91,67,68,65,84,65,91]
 · rw [if_pos c1] at h ⊢
   unfold litW at h ⊢
   dsimp only at h ⊢
   rw [if_pos c1] at h ⊢
   have hl := take_len c1
   simp only [List.length_cons,List.length_nil] at hl
   split
   · dsimp only
     rw [List.length_drop,List.length_drop]
     exact ⟨by omega,by decide⟩
   · rename_i c
     rw [if_neg c] at h
     cases h
 rw [if_neg c1] at h ⊢
 by_cases c2 : l.take 9 = [60,33,68,79,67,84,89,80,69]
 · rw [if_pos c2] at h; cases h
 rw [if_neg c2] at h ⊢
 by_cases c3 : l.take 2 = [60,47]
 · rw [if_pos c3] at h ⊢
   unfold closeW at h ⊢
   dsimp only at h ⊢
   rw [if_pos c3] at h ⊢
   have hl := take_len c3
   simp only [List.length_cons,List.length_nil] at hl
   have h2 := off_len ((l.drop 2).drop (Xm.fullL (l.drop 2)))
   rw [List.length_drop,List.length_drop] at h2
   by_cases c : Xm.fullL (l.drop 2) = 0
   · rw [if_pos c] at h; cases h
   rw [if_neg c] at h ⊢
   split
   · dsimp only
     rw [List.length_drop]
     exact ⟨by omega,by decide⟩
   · rename_i c5
     rw [if_neg c5] at h; cases h
 rw [if_neg c3] at h ⊢
 by_cases c4 : l.take 1 = [60]
 · rw [if_pos c4] at h ⊢
   unfold openW at h ⊢
   dsimp only at h ⊢
   rw [if_pos c4] at h ⊢
   have hl := take_len c4
   simp only [List.length_cons,List.length_nil] at hl
   by_cases c : Xm.fullL (l.drop 1) = 0
   · rw [if_pos c] at h; cases h
   rw [if_neg c] at h ⊢
   have h2 := openGo_len (l.length + 1) ((l.drop 1).drop (Xm.fullL (l.drop 1))) []
   rw [List.length_drop,List.length_drop] at h2
   dsimp only
   exact ⟨by omega,by decide⟩
 rw [if_neg c4] at h ⊢
 have hn : 1 ≤ textN l := by
  obtain ⟨q1,q2⟩ := bIndex_lt (l := l) (m := [60])
  unfold textN
  split
  · omega
  · have : bIndexW l [60] ≠ 0 := fun q => c4 (index_zero hb.1 (by decide) q)
    omega
 unfold textW
 split <;> (dsimp only; rw [List.length_drop]; exact ⟨by omega,by decide⟩)
theorem tokW_nil : tokW [] = (noTok,[],0) := by unfold tokW; rw [if_pos (show ([] : List Int).length = 0 from rfl)]
/-- Where the next token is, and what it takes. -/
theorem nextW_goes {b : List Int} (hb : okB b) {p : Int} (h : (nextW b p).2.2 = 0) : p ≤ (nextW b p).2.1 ∧ (nextW b p).2.1 ≤ b.length ∧ 0 ≤ (nextW b p).2.1 ∧ ((nextW b p).1.1 ≠ 0 → p < (nextW b p).2.1) ∧ ((nextW b p).1.1 = 0 → (nextW b p).2.1 = b.length) := by
 unfold nextW at h ⊢
 dsimp only at h ⊢
 by_cases c : (skipW b p).2 = 0
 · rw [if_neg (fun q => q c)] at h ⊢
   obtain ⟨k0,k1,k2⟩ := skipW_in c
   by_cases c2 : (tokW (b.drop (skipW b p).1.toNat)).2.2 = 0
   · rw [if_neg (fun q => q c2)] at h ⊢
     dsimp only
     have hlen := tokW_len (b.drop (skipW b p).1.toNat)
     have hdl : (b.drop (skipW b p).1.toNat).length = b.length - (skipW b p).1.toNat := List.length_drop ..
     by_cases c3 : (b.drop (skipW b p).1.toNat).length = 0
     · rw [List.eq_nil_of_length_eq_zero c3,tokW_nil]
       dsimp only [noTok]
       rw [List.length_nil]
       refine ⟨by omega,by omega,by omega,fun q => absurd rfl q,fun _ => by omega⟩
     · obtain ⟨l1,l2⟩ := tokW_less (okB_drop hb _) c2 c3
       exact ⟨by omega,by omega,by omega,fun _ => by omega,fun q => absurd q l2⟩
   · rw [if_pos c2] at h
     exact absurd h c2
 · rw [if_pos c] at h
   exact absurd h c
theorem awake_next : nextX [60,97,32,98,61,39,49,39,47,62] 0 = some (1,⟨#[97]⟩,[(⟨#[98]⟩,⟨#[49]⟩)],true,⟨#[]⟩,10,0) := by kernel_rfl
theorem law_awake.ok : AllOk specs_law_awake := okS (cx := cx_law_awake) rfl xmllex_Next.ok (by kernel_rfl) fun args cs n K r g => by
 unfold law_awake.spec at g
 dsimp only [lcSt] at g
 split at g
 · obtain ⟨v,h,h2⟩ := bind2 g
   clear g
   refine okG h2 ?_
   clear h2
   refine ⟨0,?_⟩
   rw [law_awake.top,awake_next]
   obtain rfl := Option.some.inj h
   rfl
 · cases g
theorem goes_cond {n p L t : Int} (g1 : p ≤ n) (g2 : n ≤ L) (g4 : t ≠ 0 → p < n) (g5 : t = 0 → n = L) : (if (if (if decide (n ≥ p) = true then decide (n ≤ L) else false) = true then (if decide (n > p) = true then true else t == 0) else false) = true then (if (t != 0) = true then true else n == L) else false) = true := by
 rw [ite_and,ite_and,ite_and,ite_or,ite_or,decide_eq_true_eq,decide_eq_true_eq,decide_eq_true_eq,beq_iff_eq,beq_iff_eq,bne_iff_ne]
 refine ⟨⟨⟨g1,g2⟩,?_⟩,?_⟩
 · by_cases q : t = 0
   · exact .inr q
   · exact .inl (g4 q)
 · by_cases q : t = 0
   · exact .inr (g5 q)
   · exact .inl q
theorem law_Goes.ok : AllOk specs_law_Goes := okS (cx := cx_law_Goes) rfl law_awake.ok (by kernel_rfl) fun args cs n K r g => by
 unfold law_Goes.spec at g
 dsimp only [lcSt] at g
 split at g
 · rename_i b p
   obtain ⟨v,h,h2⟩ := bind2 g
   clear g
   refine okG h2 ?_
   clear h2
   refine ⟨0,?_⟩
   rw [law_Goes.top]
   unfold lawX at h
   split at h
   · rename_i hs
     obtain rfl := Option.some.inj h
     rw [nextX_ok hs,Option.bind_some]
     by_cases c : (nextW b p).2.2 = 0
     · obtain ⟨g1,g2,g3,g4,g5⟩ := nextW_goes hs c
       rw [if_neg (by show ¬ ((nextW b p).2.2 != 0) = true; rw [c]; decide)]
       rw [if_pos (goes_cond (n := (flatT (nextW b p)).2.2.2.2.2.1) (t := (flatT (nextW b p)).1) g1 g2 g4 g5)]
       rfl
     · rw [if_pos (by show ((nextW b p).2.2 != 0) = true; rw [bne_iff_ne]; exact c)]
       rfl
   · cases h
 · cases g
end Go.Proofs.YtccfmfifnbnlmaaDoor.Ev
end
section
/- The laws of the XML reader, as calls from any memory. -/
set_option linter.unusedVariables false
namespace Go.Proofs.YtccfmfifnbnlmaaDoor.Ev
open Go Go.RowKit Go.Proofs.YtccfmfifnbnlmaaDoorW.PrintWords
theorem law_of {f : FuncId} {spec : Spec} {args : List (AVal U0)} {st' : St U0} {w : World} (hs : CallOkL Tryd.prog C0 f spec) (h : spec args (lcSt [] 0) out = some (.ret (.bool true),st')) (hA : Assumed w) (cs : List Value) (ha : RelVs C0 (g0 w) args cs) :
 Calls Tryd.prog f cs.toArray w fun e w' => e = .returned (.bool true) ∧ RowKit.Below w.heap.size w w' :=
 (hs args [] 0 out _ h _ w (g0 w) w cs ha (srel0 hA 0)).mono fun e w' ⟨res,st',g',h1,h2,h3,h4,h5⟩ => by
  refine ⟨?_,below_of' h3⟩
  obtain ⟨rfl,_⟩ := Prod.mk.inj (Option.some.inj h1)
  cases h5 with
  | ret hv => cases hv; rfl
theorem sb_of {w : World} {A : Option Addr} {cap : Nat} {zs l : List Int}
 (h : (A = none ∧ l.length = 0 ∧ cap = 0 ∧ zs = []) ∨ ∃ x,A = some x ∧ l.length ≤ cap ∧ cap ≤ maxLen ∧ zs.length = cap ∧ (∀ i,i < zs.length → w.cell? (x.add i) = some (.int .u8 (zs.getD i 0))) ∧ ∀ n ∈ zs,(Lit.int .u8 n).wf = true)
 (hr : ReadsInt w .u8 A l.length l) (hc : l.length ≤ cap) : Sb w.heap.size w l A cap := by
 refine ⟨hc,fun e => ?_,fun h0 a e => ?_,fun h0 => ?_⟩
 · rcases h with ⟨_,_,h,_⟩ | ⟨x,h,_⟩
   · exact h
   · rw [h] at e; cases e
 · rcases h with ⟨h,_⟩ | ⟨x,h,_,_,hz,hcell,_⟩
   · rw [h] at e; cases e
   · obtain rfl : x = a := by rw [h] at e; exact Option.some.inj e
     have := World.cell?_spot (hcell 0 (by omega))
     simpa [Addr.add] using this
 · obtain ⟨ad,e,hcell⟩ := hr.2.2 h0
   have hs : ad.spot = none := by
    have := World.cell?_spot (hcell 0 h0)
    simpa [Addr.add] using this
   obtain ⟨blk,off,spot⟩ := ad
   cases hs
   refine ⟨blk,off,e,World.block_lt_of_cell? w _ (hcell 0 h0),fun i hi => ?_⟩
   have := hcell i hi
   unfold Addr.add at this
   split at this
   · rename_i h0
     have : i = 0 := by simpa using h0
     subst this
     assumption
   · exact this
theorem byteB_wf {l : List Int} (h : ∀ x ∈ l,(Lit.int .u8 x).wf = true) : byteB l = true := by
 unfold byteB
 rw [List.all_eq_true]
 intro x hx
 have q := h x hx
 rw [show (Lit.int .u8 x).wf = (decide ((0 : Int) ≤ x) && decide (x ≤ 255)) from rfl,Bool.and_eq_true,decide_eq_true_eq,decide_eq_true_eq] at q
 rw [Bool.and_eq_true,decide_eq_true_eq,decide_eq_true_eq]
 omega
theorem XmllexGoes_calls (l : List Int) (p : Int) {w : World} (hA : Assumed w) {A : Option Addr} {cap : Nat} {zs : List Int}
 (h : (A = none ∧ l.length = 0 ∧ cap = 0 ∧ zs = []) ∨ ∃ x,A = some x ∧ l.length ≤ cap ∧ cap ≤ maxLen ∧ zs.length = cap ∧ (∀ i,i < zs.length → w.cell? (x.add i) = some (.int .u8 (zs.getD i 0))) ∧ ∀ n ∈ zs,(Lit.int .u8 n).wf = true)
 (hr : ReadsInt w .u8 A l.length l) (hc : l.length ≤ cap) (hw : ∀ x ∈ l,(Lit.int .u8 x).wf = true) (hl : l.length ≤ 1048576) :
 Calls Tryd.prog 3 #[.slice A l.length cap,.int .i64 p] w fun e w' => e = .returned (.bool true) ∧ RowKit.Below w.heap.size w w' := by
 refine law_of (spec := law_Goes.spec) (args := [.sl (.int .u8) l .no,.int .i64 p]) (st' := lcRet [] [] 0) (law_Goes.ok _ (List.mem_cons_self ..)).2 ?_ hA [.slice A l.length cap,.int .i64 p] (.cons (sb_of h hr hc).rel (.cons (.int _ _) .nil))
 unfold law_Goes.spec
 dsimp only [lcSt]
 show Option.bind (lawX l) _ = _
 unfold lawX
 rw [if_pos (show okB l from ⟨byteB_wf hw,by omega⟩)]
 rfl
end Go.Proofs.YtccfmfifnbnlmaaDoor.Ev
end
