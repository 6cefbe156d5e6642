/- Several texts in one, in their order. -/
import Derived.Test.YtifgpigicgaadaaGreatDoorBLexerBlanks2
import Derived.Test.YtifgpigicgaadaaGreatDoorBLexerBlanks3
import Derived.Test.YtifgpigicgaadaaGreatDoorBLexerBlanks4
import Derived.Test.YtifgpigicgaadaaGreatDoorBLexerBlanks5
import Derived.Shelf.Strings.OnBuilder
import Derived.Test.YtifgpigicgaadaaGreatDoorProg
section
namespace Go.Proofs.YtifgpigicgaadaaGreatDoor.Q
open Go.RowKit Go.Proofs.YtifgpigicgaadaaGreatDoorH Go.Proofs.YtifgpigicgaadaaGreatDoorW.PrintWords Go.Proofs.YtifgpigicgaadaaGreatDoorW.PrintLast Go.Proofs.YtifgpigicgaadaaGreatDoorW.PrintMore
attribute [local go_sem] max2_int min2_int max_two min_two max_three min_three max_four min_four
set_option linter.unusedVariables false
set_option linter.unusedSimpArgs false
section
/-! ### lexer_Words: function 21 -/
def lexer_Words.l0 : Nat → ByteArray → List (S43) → ByteArray → Option ((List (S43)) × Int × Int)
 | 0,_,_,_ => none
 | k + 1,x0,x5,x6 => if x6.toList = ([] : List UInt8) then (if x5.length < 4398046511104 then (some ((x5 ++ [(⟨0,(⟨#[]⟩ : ByteArray),0⟩ : S43)]),0,0)) else (none)) else ((lexer_word.f k x6).bind fun bt378 => (if bt378.2.2.2 = 0 then (some (([] : List (S43)),wrap64 ((x0.size : Int) - (x6.size : Int)),20)) else (if x5.length < 4398046511104 then (if 0 ≤ bt378.2.2.2 then (if bt378.2.2.2 ≤ (x6.size : Int) then ((strings_TrimLeft.f (x6.extract (bt378.2.2.2 : Int).toNat x6.size) (⟨#[32,9,10,13]⟩ : ByteArray)).bind fun t386 => (lexer_Words.l0 k x0 (x5 ++ [(⟨bt378.1,bt378.2.1,bt378.2.2.1⟩ : S43)]) t386)) else (none)) else (none)) else (none))))
def lexer_Words.f (k : Nat) (a0 : ByteArray) : Option ((List (S43)) × Int × Int) := if (a0.size : Int) > 400 then (some (([] : List (S43)),0,4)) else ((strings_TrimLeft.f a0 (⟨#[32,9,10,13]⟩ : ByteArray)).bind fun t374 => (lexer_Words.l0 k a0 ([] : List (S43)) t374))
theorem lexer_Words.mono_l : ∀ k,(∀ y0 y1 y2,LeO (lexer_Words.l0 k y0 y1 y2) (lexer_Words.l0 (k + 1) y0 y1 y2))
 | 0 => fun _ _ _ r h => by simp [lexer_Words.l0] at h
 | k + 1 => by
  have ih0 := lexer_Words.mono_l k
  · intro y0 y1 y2
    unfold lexer_Words.l0
    repeat' first
    | (with_reducible exact ih0 _ _ _)
    | (with_reducible exact lexer_word.mono _ _)
    | (with_reducible exact LeO.refl _)
    | (with_reducible exact LeO.none _)
    | (with_reducible refine LeO.ite ?_ ?_)
    | (with_reducible refine LeO.bind ?_ (fun _ => ?_))
    | exact ih0 _ _ _
    | exact lexer_word.mono _ _
    | exact LeO.none _
    | refine LeO.ite ?_ ?_
    | refine LeO.bind ?_ (fun _ => ?_)
theorem lexer_Words.mono : ∀ a0 k,LeO (lexer_Words.f k a0) (lexer_Words.f (k + 1) a0) := by
 intro a0 k
 have ih0 := lexer_Words.mono_l k
 unfold lexer_Words.f
 repeat' first
  | (with_reducible exact ih0 _ _ _)
  | (with_reducible exact lexer_word.mono _ _)
  | (with_reducible exact LeO.refl _)
  | (with_reducible exact LeO.none _)
  | (with_reducible refine LeO.ite ?_ ?_)
  | (with_reducible refine LeO.bind ?_ (fun _ => ?_))
  | exact ih0 _ _ _
  | exact lexer_word.mono _ _
  | exact LeO.none _
  | refine LeO.ite ?_ ?_
  | refine LeO.bind ?_ (fun _ => ?_)
set_option maxHeartbeats 8000000 in
set_option maxRecDepth 100000 in
theorem lexer_Words.calls (k : Nat) (a0 : ByteArray) (r1 : List (S43)) (r2 : Int) (r3 : Int) (w : World) (hL_ : Laid w) (h : lexer_Words.f k a0 = some (r1,r2,r3)) :
 Calls Tryz.prog 21 #[.string a0] w fun e w' => ∃ v0_ : Value,e = .returned (.tuple #[v0_,.int .i64 r2,.int .i64 r3]) ∧ Kd.R k43 43 w' w.heap.size (fun _ => True) v0_ r1 ∧ Below w.heap.size w w' := by
 have hu43 := Tryz.underlying43
 have HB := Aside0.mk (Below.refl w.heap.size w)
 have HLd := Aside0.mk hL_
 clear hL_
 have H : (if (a0.size : Int) > 400 then (some (([] : List (S43)),0,4)) else ((strings_TrimLeft.f a0 (⟨#[32,9,10,13]⟩ : ByteArray)).bind fun t374 => (lexer_Words.l0 k a0 ([] : List (S43)) t374))) = some (r1,r2,r3) := h
 clear h
 by_cases c2 : (a0.size : Int) > 400
 · rw [if_pos c2] at H
   have c2b0 : decide (400 < (a0.size : Int)) = true := decide_eq_true c2
   have c2b1 : decide (400 < a0.size) = true := decide_eq_true (by omega)
   clear c2
   simp only [Option.some.injEq,Prod.mk.injEq] at H
   obtain ⟨rfl,rfl,rfl⟩ := H
   go_enter Tryz.func21,Tryz.ntmps21
   go_wp2
   go_ret3
   exact ⟨_,by first | rfl | (simp [errW_none,errW_some] <;> rfl) | (simp [*,errW_none,errW_some] <;> rfl),by first | exact Kd.R_nil _ _ _ _ _ | exact Kd.N_nil _ _ _ _ _ | exact Kd.V_nil _ _ _ _ _ | exact Kd.Q_nil _ _ _ _ _ | exact Kd.S_nil _ _ _ _ _,by repeat (first | (with_reducible first | exact HB.out | apply below_alloc | apply pw_below_drewN | apply below_drew1 | apply bytes_below1) | exact HB.out)⟩
 · rw [if_neg c2] at H
   have c2b0 : decide (400 < (a0.size : Int)) = false := decide_eq_false c2
   have c2b1 : decide (400 < a0.size) = false := decide_eq_false (by omega)
   clear c2
   replace H := Option.bind_eq_some_iff.mp H
   obtain ⟨t374,A30,H⟩ := H
   replace H : (lexer_Words.l0 k a0 ([] : List (S43)) t374) = some (r1,r2,r3) := H
   have A3 := Aside0.mk A30
   clear A30
   have H' := Aside0.mk H
   clear H
   go_enter Tryz.func21,Tryz.ntmps21
   go_wp2_with (first | ((with_reducible refine gate_callee (f := 40) rfl ?_); refine goesL_ (some 13) rfl rfl Tryz.func40 (by kernel_rfl) rfl #[.string a0,.string (⟨#[32,9,10,13]⟩ : ByteArray)] rfl (by (try simp only [List.map_toArray,List.map_cons,List.map_nil]); first | done | rfl | (simp only [List.length_drop,List.length_take]; rfl)) ?_; (with_reducible refine (strings_TrimLeft.calls a0 (⟨#[32,9,10,13]⟩ : ByteArray) t374 _ A3.out).mono ?_); rintro e w4 ⟨rfl,hb⟩; refine ⟨_,rfl,?_⟩; have n0_ := Aside0.mk (below_step (by repeat (first | (with_reducible first | exact HB.out | apply below_alloc | apply pw_below_drewN | apply below_drew1 | apply bytes_below1) | exact HB.out)) hb); clear HB; have HB := n0_; clear n0_; (try clear hb); (try clear hb2); (try clear hk); (try clear hi)))
   go_loopg [5,6] k (fun kq v5 v6 w' => ∃ (x5_1 : List (S43)) (x6_1 : ByteArray),v6 = .string x6_1 ∧ Aside0 (lexer_Words.l0 kq a0 x5_1 x6_1 = some (r1,r2,r3)) ∧ Aside0 (kq ≤ k) ∧ Aside0 (Kd.R k43 43 w' w.heap.size (fun _ => True) v5 x5_1) ∧ Aside0 (Below w.heap.size w w'))
   case atStart => exact ⟨(([] : List (S43))),(t374),(by first | rfl | (simp; done) | (simp [*]; done)),H',⟨Nat.le_refl _⟩,⟨by first | exact Kd.R_nil _ _ _ _ _ | exact Kd.N_nil _ _ _ _ _ | exact Kd.V_nil _ _ _ _ _ | exact Kd.Q_nil _ _ _ _ _ | exact Kd.S_nil _ _ _ _ _⟩,⟨by repeat (first | (with_reducible first | exact HB.out | apply below_alloc | apply pw_below_drewN | apply below_drew1 | apply bytes_below1) | exact HB.out)⟩⟩
   case round =>
    clear H'
    try clear c2
    try clear c2b0
    try clear c2b1
    try clear p2
    try clear c4
    obtain ⟨x5_1,x6_1,rfl,HA,HK1,HO_5,HB⟩ := hrel
    cases gk with
    | zero => exact absurd HA.out (by simp [lexer_Words.l0])
    | succ k1 =>
     have H := HA.out
     clear HA
     simp only [lexer_Words.l0] at H
     by_cases c5 : x6_1.toList = ([] : List UInt8)
     · rw [if_pos c5] at H
       have c5b0 : (x6_1.toList == ([] : List UInt8)) = true := beq_iff_eq.mpr c5
       have c5b1 : (x6_1.toList != ([] : List UInt8)) = false := bne_eq_false_iff_eq.mpr c5
       clear c5
       by_cases c6 : x5_1.length < 4398046511104
       · rw [if_pos c6] at H
         have LMc6 := Aside0.mk c6
         clear c6
         obtain ⟨y375,hy375⟩ : ∃ y_ : List (S43),y_ = (x5_1 ++ [(⟨0,(⟨#[]⟩ : ByteArray),0⟩ : S43)]) := ⟨_,rfl⟩
         replace H : (some (y375,0,0)) = some (r1,r2,r3) := by first | (rw [hy375]; with_reducible exact H) | (have H2_ := (Option.bind_some _ _).symm.trans H; rw [hy375]; with_reducible exact H2_) | (have H2_ := (Option.bind_some _ _).symm.trans H; with_reducible exact H2_) | with_reducible exact H | (rw [hy375]; exact H) | exact H
         have Ny375 := Aside0.mk hy375
         clear hy375
         simp only [Option.some.injEq,Prod.mk.injEq] at H
         obtain ⟨rfl,rfl,rfl⟩ := H
         go_wp2_with (first | ((with_reducible refine gate_builtin (b := .append) (xs := #[.tmp 37,.tmp 39]) rfl ?_); at_builtin; refine Kd.R_append k43 (w0 := w) w.heap.size rfl (.tmp 37) (.tmp 39) 35 43 (.agg #[(.int .i64 0),(.string ⟨#[]⟩),(.int .i64 0)]) 32 rfl Tryz.underlying35 info43 rfl (by decide) (by omega) u5 x5_1 (⟨0,(⟨#[]⟩ : ByteArray),0⟩ : S43) [.int .i64 0,.string (⟨#[]⟩ : ByteArray),.int .i64 0] (fun _ => True) (fun _ => False) rfl rfl ?aP (fun _ hk => hk.elim) ?aF ?aO ?aB ?aS ?aL ?_; (case aP => exact k43_mkM _ _ _ (⟨0,(⟨#[]⟩ : ByteArray),0⟩ : S43)); (case aB => exact (by repeat (first | (with_reducible first | exact HB.out | apply below_alloc | apply pw_below_drewN | apply below_drew1 | apply bytes_below1) | exact HB.out))); (case aF => exact (fun _ _ => trivial)); (case aO => exact (by (with_reducible repeat (first | apply Kd.R_alloc | apply R_bytes | apply Kd.R_drewN | apply Kd.R_drew)); exact HO_5.out)); (case aS => exact (below_size (by repeat (first | (with_reducible first | exact HB.out | apply below_alloc | apply pw_below_drewN | apply below_drew1 | apply bytes_below1) | exact HB.out)))); (case aL => have := LMc6.out; omega); intro v376 w7 ho hb hg hat; rw [← Ny375.out] at ho; have n0_ := Aside0.mk (hb); have n1_ := Aside0.mk (ho); clear HB; clear HO_5; have HB := n0_; have HO377 := n1_; clear n0_ n1_; clear ho hb hg hat))
         go_ret3
         exact ⟨_,by first | rfl | (simp [errW_none,errW_some] <;> rfl) | (simp [*,errW_none,errW_some] <;> rfl),by (with_reducible repeat (first | apply Kd.R_alloc | apply R_bytes | apply Kd.R_drewN | apply Kd.R_drew)); exact HO377.out,by repeat (first | (with_reducible first | exact HB.out | apply below_alloc | apply pw_below_drewN | apply below_drew1 | apply bytes_below1) | exact HB.out)⟩
       · rw [if_neg c6] at H
         exact absurd H (by simp)
     · rw [if_neg c5] at H
       have c5b0 : (x6_1.toList == ([] : List UInt8)) = false := beq_eq_false_iff_ne.mpr c5
       have c5b1 : (x6_1.toList != ([] : List UInt8)) = true := bne_iff_ne.mpr c5
       replace H := Option.bind_eq_some_iff.mp H
       obtain ⟨⟨t378,t379,t380,t381⟩,A80,H⟩ := H
       replace H : (if t381 = 0 then (some (([] : List (S43)),wrap64 ((a0.size : Int) - (x6_1.size : Int)),20)) else (if x5_1.length < 4398046511104 then (if 0 ≤ t381 then (if t381 ≤ (x6_1.size : Int) then ((strings_TrimLeft.f (x6_1.extract (t381 : Int).toNat x6_1.size) (⟨#[32,9,10,13]⟩ : ByteArray)).bind fun t386 => (lexer_Words.l0 k1 a0 (x5_1 ++ [(⟨t378,t379,t380⟩ : S43)]) t386)) else (none)) else (none)) else (none))) = some (r1,r2,r3) := H
       have A8 := Aside0.mk A80
       clear A80
       by_cases c9 : t381 = 0
       · rw [if_pos c9] at H
         have c9b0 : (t381 == 0) = true := beq_iff_eq.mpr c9
         have c9b1 : (t381 != 0) = false := bne_eq_false_iff_eq.mpr c9
         clear c9
         simp only [Option.some.injEq,Prod.mk.injEq] at H
         obtain ⟨rfl,rfl,rfl⟩ := H
         go_wp2_with (first | ((with_reducible refine gate_callee (f := 41) rfl ?_); refine goesL_ (some 20) rfl rfl Tryz.func41 (by kernel_rfl) rfl #[.string x6_1] rfl (by (try simp only [List.map_toArray,List.map_cons,List.map_nil]); first | done | rfl | (simp only [List.length_drop,List.length_take]; rfl)) ?_; (with_reducible refine (lexer_word.calls k1 x6_1 t378 t379 t380 t381 _ ?side1 A8.out).mono ?_); (case side1 => exact Laid_below HLd.out (by repeat (first | (with_reducible first | exact HB.out | apply below_alloc | apply pw_below_drewN | apply below_drew1 | apply bytes_below1) | exact HB.out))); rintro e w10 ⟨rfl,hb⟩; refine ⟨_,rfl,?_⟩; have n0_ := Aside0.mk (Kd.R_below (by (with_reducible repeat (first | apply Kd.R_alloc | apply R_bytes | apply Kd.R_drewN | apply Kd.R_drew)); exact HO_5.out) hb); have n1_ := Aside0.mk (below_step (by repeat (first | (with_reducible first | exact HB.out | apply below_alloc | apply pw_below_drewN | apply below_drew1 | apply bytes_below1) | exact HB.out)) hb); clear HO_5; clear HB; have HO_5 := n0_; have HB := n1_; clear n0_ n1_; (try clear hb); (try clear hb2); (try clear hk); (try clear hi)) | ((with_reducible refine gate_dst (N := 7) rfl ?_); refine box_event ?hg (N := 7) ?hd (cs := #[.int .i64 0,.string (⟨#[]⟩ : ByteArray),.int .i64 0]) (t := 43) ?hr ?_; (case hd => rfl); (case hg => rfl); (case hr => first | (go_simp; done) | (go_simp; rfl)); intro gb382 hg w11 hbox hb; have n0_ := Aside0.mk (Kd.R_below (Kd.R_elderB (by (with_reducible repeat (first | apply Kd.R_alloc | apply R_bytes | apply Kd.R_drewN | apply Kd.R_drew)); exact HO_5.out) gb382 (Nat.le_of_eq hg.symm)) hb); have n1_ := Aside0.mk (below_step (by repeat (first | (with_reducible first | exact HB.out | apply below_alloc | apply pw_below_drewN | apply below_drew1 | apply bytes_below1) | exact HB.out)) hb); have n2_ := Aside0.mk (hbox); have n3_ := Aside0.mk ((by rw [hg]; exact (below_size (by repeat (first | (with_reducible first | exact HB.out | apply below_alloc | apply pw_below_drewN | apply below_drew1 | apply bytes_below1) | exact HB.out))) : w.heap.size ≤ gb382)); have n4_ := Aside0.mk ((by rw [hg]; exact (below_size (by repeat (first | (with_reducible first | exact HB.out | apply below_alloc | apply pw_below_drewN | apply below_drew1 | apply bytes_below1) | exact HB.out))) : w.heap.size ≤ gb382)); clear HO_5; clear HB; have HO_5 := n0_; have HB := n1_; have BK382 := n2_; have GW382 := n3_; have GE382 := n4_; clear n0_ n1_ n2_ n3_ n4_; clear hb hbox hg; have hcz12_0 : w11.cell? ⟨gb382,0,none⟩ = some (.int .i64 0) := (blk_cell BK382.out 0).trans rfl; have hcz12_1 : w11.cell? ⟨gb382,1,none⟩ = some (.string (⟨#[]⟩ : ByteArray)) := (blk_cell BK382.out 1).trans rfl; have hcz12_2 : w11.cell? ⟨gb382,2,none⟩ = some (.int .i64 0) := (blk_cell BK382.out 2).trans rfl; have hfz12_0 := blk_frozen BK382.out 0; have hfz12_1 := blk_frozen BK382.out 1; have hfz12_2 := blk_frozen BK382.out 2))
         go_ret3
         exact ⟨_,by first | rfl | (simp [errW_none,errW_some] <;> rfl) | (simp [*,errW_none,errW_some] <;> rfl),by first | exact Kd.R_nil _ _ _ _ _ | exact Kd.N_nil _ _ _ _ _ | exact Kd.V_nil _ _ _ _ _ | exact Kd.Q_nil _ _ _ _ _ | exact Kd.S_nil _ _ _ _ _,by repeat (first | (with_reducible first | exact HB.out | apply below_alloc | apply pw_below_drewN | apply below_drew1 | apply bytes_below1 | refine below_set ?_ GE382.out) | exact HB.out)⟩
       · rw [if_neg c9] at H
         have c9b0 : (t381 == 0) = false := beq_eq_false_iff_ne.mpr c9
         have c9b1 : (t381 != 0) = true := bne_iff_ne.mpr c9
         by_cases c13 : x5_1.length < 4398046511104
         · rw [if_pos c13] at H
           have LMc13 := Aside0.mk c13
           clear c13
           obtain ⟨y383,hy383⟩ : ∃ y_ : List (S43),y_ = (x5_1 ++ [(⟨t378,t379,t380⟩ : S43)]) := ⟨_,rfl⟩
           replace H : (if 0 ≤ t381 then (if t381 ≤ (x6_1.size : Int) then ((strings_TrimLeft.f (x6_1.extract (t381 : Int).toNat x6_1.size) (⟨#[32,9,10,13]⟩ : ByteArray)).bind fun t386 => (lexer_Words.l0 k1 a0 y383 t386)) else (none)) else (none)) = some (r1,r2,r3) := by first | (rw [hy383]; with_reducible exact H) | (have H2_ := (Option.bind_some _ _).symm.trans H; rw [hy383]; with_reducible exact H2_) | (have H2_ := (Option.bind_some _ _).symm.trans H; with_reducible exact H2_) | with_reducible exact H | (rw [hy383]; exact H) | exact H
           have Ny383 := Aside0.mk hy383
           clear hy383
           by_cases c14 : 0 ≤ t381
           · rw [if_pos c14] at H
             have c14b0 := eq_true c14
             have c14b1 : decide (0 ≤ t381) = true := decide_eq_true c14
             clear c14
             by_cases c15 : t381 ≤ (x6_1.size : Int)
             · rw [if_pos c15] at H
               have c15b0 := eq_true c15
               have c15b1 : decide (t381 ≤ (x6_1.size : Int)) = true := decide_eq_true c15
               clear c15
               replace H := Option.bind_eq_some_iff.mp H
               obtain ⟨t386,A160,H⟩ := H
               replace H : (lexer_Words.l0 k1 a0 y383 t386) = some (r1,r2,r3) := H
               have A16 := Aside0.mk A160
               clear A160
               have H' := Aside0.mk H
               clear H
               go_wp2_with (first | ((with_reducible refine gate_callee (f := 41) rfl ?_); refine goesL_ (some 20) rfl rfl Tryz.func41 (by kernel_rfl) rfl #[.string x6_1] rfl (by (try simp only [List.map_toArray,List.map_cons,List.map_nil]); first | done | rfl | (simp only [List.length_drop,List.length_take]; rfl)) ?_; (with_reducible refine (lexer_word.calls k1 x6_1 t378 t379 t380 t381 _ ?side1 A8.out).mono ?_); (case side1 => exact Laid_below HLd.out (by repeat (first | (with_reducible first | exact HB.out | apply below_alloc | apply pw_below_drewN | apply below_drew1 | apply bytes_below1) | exact HB.out))); rintro e w17 ⟨rfl,hb⟩; refine ⟨_,rfl,?_⟩; have n0_ := Aside0.mk (Kd.R_below (by (with_reducible repeat (first | apply Kd.R_alloc | apply R_bytes | apply Kd.R_drewN | apply Kd.R_drew)); exact HO_5.out) hb); have n1_ := Aside0.mk (below_step (by repeat (first | (with_reducible first | exact HB.out | apply below_alloc | apply pw_below_drewN | apply below_drew1 | apply bytes_below1) | exact HB.out)) hb); clear HO_5; clear HB; have HO_5 := n0_; have HB := n1_; clear n0_ n1_; (try clear hb); (try clear hb2); (try clear hk); (try clear hi)) | ((with_reducible refine gate_dst (N := 7) rfl ?_); refine box_event ?hg (N := 7) ?hd (cs := #[.int .i64 0,.string (⟨#[]⟩ : ByteArray),.int .i64 0]) (t := 43) ?hr ?_; (case hd => rfl); (case hg => rfl); (case hr => first | (go_simp; done) | (go_simp; rfl)); intro gb382 hg w18 hbox hb; have n0_ := Aside0.mk (Kd.R_below (Kd.R_elderB (by (with_reducible repeat (first | apply Kd.R_alloc | apply R_bytes | apply Kd.R_drewN | apply Kd.R_drew)); exact HO_5.out) gb382 (Nat.le_of_eq hg.symm)) hb); have n1_ := Aside0.mk (below_step (by repeat (first | (with_reducible first | exact HB.out | apply below_alloc | apply pw_below_drewN | apply below_drew1 | apply bytes_below1) | exact HB.out)) hb); have n2_ := Aside0.mk (hbox); have n3_ := Aside0.mk ((by rw [hg]; exact (below_size (by repeat (first | (with_reducible first | exact HB.out | apply below_alloc | apply pw_below_drewN | apply below_drew1 | apply bytes_below1) | exact HB.out))) : w.heap.size ≤ gb382)); have n4_ := Aside0.mk ((by rw [hg]; exact (below_size (by repeat (first | (with_reducible first | exact HB.out | apply below_alloc | apply pw_below_drewN | apply below_drew1 | apply bytes_below1) | exact HB.out))) : w.heap.size ≤ gb382)); clear HO_5; clear HB; have HO_5 := n0_; have HB := n1_; have BK382 := n2_; have GW382 := n3_; have GE382 := n4_; clear n0_ n1_ n2_ n3_ n4_; clear hb hbox hg; have hcz19_0 : w18.cell? ⟨gb382,0,none⟩ = some (.int .i64 0) := (blk_cell BK382.out 0).trans rfl; have hcz19_1 : w18.cell? ⟨gb382,1,none⟩ = some (.string (⟨#[]⟩ : ByteArray)) := (blk_cell BK382.out 1).trans rfl; have hcz19_2 : w18.cell? ⟨gb382,2,none⟩ = some (.int .i64 0) := (blk_cell BK382.out 2).trans rfl; have hfz19_0 := blk_frozen BK382.out 0; have hfz19_1 := blk_frozen BK382.out 1; have hfz19_2 := blk_frozen BK382.out 2) | ((with_reducible refine gate_builtin (b := .append) (xs := #[.tmp 30,.tmp 32]) rfl ?_); at_builtin; refine Kd.R_append k43 (w0 := w) w.heap.size rfl (.tmp 30) (.tmp 32) 35 43 (.agg #[(.int .i64 0),(.string ⟨#[]⟩),(.int .i64 0)]) 32 rfl Tryz.underlying35 info43 rfl (by decide) (by omega) u5 x5_1 (⟨t378,t379,t380⟩ : S43) [.int .i64 t378,.string t379,.int .i64 t380] (fun k_ => k_ ≠ gb382) (fun _ => False) rfl (by first | (go_simp; done) | (go_simp; rfl)) ?aP (fun _ hk => hk.elim) ?aF ?aO ?aB ?aS ?aL ?_; (case aP => exact k43_mkM _ _ _ (⟨t378,t379,t380⟩ : S43)); (case aB => exact (by repeat (first | (with_reducible first | exact HB.out | apply below_alloc | apply pw_below_drewN | apply below_drew1 | apply bytes_below1 | refine below_set ?_ GE382.out) | exact HB.out))); (case aF => exact (fun k_ hk => Kd.freshB (g := gb382) (o := .cells #[.int .i64 t378,.string t379,.int .i64 t380] 43 (0,0)) (by (with_reducible repeat (first | refine blk_bytes ?_ _ _ | refine blk_drewN ?_ _ | refine blk_drew ?_ | refine blk_alloc ?_ _)); refine blk_put (cs := #[.int .i64 t378,.string t379,.int .i64 0]) ?_ 2 _ rfl; (with_reducible repeat (first | refine blk_bytes ?_ _ _ | refine blk_drewN ?_ _ | refine blk_drew ?_ | refine blk_alloc ?_ _)); refine blk_put (cs := #[.int .i64 t378,.string (⟨#[]⟩ : ByteArray),.int .i64 0]) ?_ 1 _ rfl; (with_reducible repeat (first | refine blk_bytes ?_ _ _ | refine blk_drewN ?_ _ | refine blk_drew ?_ | refine blk_alloc ?_ _)); refine blk_put (cs := #[.int .i64 0,.string (⟨#[]⟩ : ByteArray),.int .i64 0]) ?_ 0 _ rfl; (with_reducible repeat (first | refine blk_bytes ?_ _ _ | refine blk_drewN ?_ _ | refine blk_drew ?_ | refine blk_alloc ?_ _)); exact BK382.out) k_ hk)); (case aO => exact (by (with_reducible repeat (first | apply Kd.R_alloc | apply R_bytes | apply Kd.R_drewN | apply Kd.R_drew)); exact Kd.R_mono (Kd.R_far (p := ⟨gb382,2,none⟩) (Kd.R_far (p := ⟨gb382,1,none⟩) (Kd.R_far (p := ⟨gb382,0,none⟩) (Kd.R_mono HO_5.out (fun k_ hk => (⟨hk,hk.2⟩ : _ ∧ k_ ≠ gb382))) (fun _ hk => hk.2) (.int .i64 t378)) (fun _ hk => hk.2) (.string t379)) (fun _ hk => hk.2) (.int .i64 t380)) (fun _ hk => hk.1.2))); (case aS => exact (below_size (by repeat (first | (with_reducible first | exact HB.out | apply below_alloc | apply pw_below_drewN | apply below_drew1 | apply bytes_below1 | refine below_set ?_ GE382.out) | exact HB.out)))); (case aL => have := LMc13.out; omega); intro v384 w20 ho hb hg hat; rw [← Ny383.out] at ho; have n0_ := Aside0.mk (blk_grown (g := gb382) (o := .cells #[.int .i64 t378,.string t379,.int .i64 t380] 43 (0,0)) (by (with_reducible repeat (first | refine blk_bytes ?_ _ _ | refine blk_drewN ?_ _ | refine blk_drew ?_ | refine blk_alloc ?_ _)); refine blk_put (cs := #[.int .i64 t378,.string t379,.int .i64 0]) ?_ 2 _ rfl; (with_reducible repeat (first | refine blk_bytes ?_ _ _ | refine blk_drewN ?_ _ | refine blk_drew ?_ | refine blk_alloc ?_ _)); refine blk_put (cs := #[.int .i64 t378,.string (⟨#[]⟩ : ByteArray),.int .i64 0]) ?_ 1 _ rfl; (with_reducible repeat (first | refine blk_bytes ?_ _ _ | refine blk_drewN ?_ _ | refine blk_drew ?_ | refine blk_alloc ?_ _)); refine blk_put (cs := #[.int .i64 0,.string (⟨#[]⟩ : ByteArray),.int .i64 0]) ?_ 0 _ rfl; (with_reducible repeat (first | refine blk_bytes ?_ _ _ | refine blk_drewN ?_ _ | refine blk_drew ?_ | refine blk_alloc ?_ _)); exact BK382.out) hg (Kd.R_away HO_5.out (fun _ hk => hk.2))); have n1_ := Aside0.mk (hb); have n2_ := Aside0.mk (ho); clear BK382; clear HB; clear HO_5; have BK382 := n0_; have HB := n1_; have HO385 := n2_; clear n0_ n1_ n2_; clear ho hb hg hat) | ((with_reducible refine gate_callee (f := 40) rfl ?_); refine goesL_ (some 17) rfl rfl Tryz.func40 (by kernel_rfl) rfl #[.string (x6_1.extract (t381 : Int).toNat x6_1.size),.string (⟨#[32,9,10,13]⟩ : ByteArray)] rfl (by (try simp only [List.map_toArray,List.map_cons,List.map_nil]); first | done | rfl | (simp only [List.length_drop,List.length_take]; rfl)) ?_; (with_reducible refine (strings_TrimLeft.calls (x6_1.extract (t381 : Int).toNat x6_1.size) (⟨#[32,9,10,13]⟩ : ByteArray) t386 _ A16.out).mono ?_); rintro e w21 ⟨rfl,hb⟩; refine ⟨_,rfl,?_⟩; have n0_ := Aside0.mk (Kd.R_below (by (with_reducible repeat (first | apply Kd.R_alloc | apply R_bytes | apply Kd.R_drewN | apply Kd.R_drew)); exact HO385.out) hb); have n1_ := Aside0.mk (blk_below (g := gb382) (o := .cells #[.int .i64 t378,.string t379,.int .i64 t380] 43 (0,0)) (by (with_reducible repeat (first | refine blk_bytes ?_ _ _ | refine blk_drewN ?_ _ | refine blk_drew ?_ | refine blk_alloc ?_ _)); exact BK382.out) hb); have n2_ := Aside0.mk (below_step (by repeat (first | (with_reducible first | exact HB.out | apply below_alloc | apply pw_below_drewN | apply below_drew1 | apply bytes_below1 | refine below_set ?_ GE382.out) | exact HB.out)) hb); clear HO385; clear BK382; clear HB; have HO385 := n0_; have BK382 := n1_; have HB := n2_; clear n0_ n1_ n2_; (try clear hb); (try clear hb2); (try clear hk); (try clear hi)))
               go_roundg k1
               case measure => have := HK1.out; omega
               case rel => exact ⟨(y383),(t386),(by first | rfl | (simp; done) | (simp [*]; done)),H',⟨by have := HK1.out; omega⟩,⟨by (with_reducible repeat (first | apply Kd.R_alloc | apply R_bytes | apply Kd.R_drewN | apply Kd.R_drew)); exact Kd.R_mono HO385.out (fun _ hk => trivial)⟩,⟨by repeat (first | (with_reducible first | exact HB.out | apply below_alloc | apply pw_below_drewN | apply below_drew1 | apply bytes_below1 | refine below_set ?_ GE382.out) | exact HB.out)⟩⟩
             · rw [if_neg c15] at H
               exact absurd H (by simp)
           · rw [if_neg c14] at H
             exact absurd H (by simp)
         · rw [if_neg c13] at H
           exact absurd H (by simp)
end
section
/-! ### dossierref01_Space: function 42 -/
def dossierref01_Space.f (a0 : Int) : Option (Bool) := if a0 = 9 then (some true) else (if a0 = 10 then (some true) else (if a0 = 13 then (some true) else (some (a0 == 32))))
end
section
/-! ### dossierref08_Words: function 22 -/
def dossierref08_Words.l0 : Nat → ByteArray → List (S43) → Int → Option ((List (S43)) × Int × Int)
 | 0,_,_,_ => none
 | k + 1,x0,x5,x6 => if x6 < (x0.size : Int) then (if 0 ≤ x6 then ((dossierref01_Space.f (wrap64 (bt x0 x6))).bind fun t427 => (if t427 = true then (dossierref08_Words.l0 k x0 x5 (wrap64 (x6 + 1))) else (if x6 ≤ (x0.size : Int) then ((dossierref08_word.f k (x0.extract (x6 : Int).toNat x0.size)).bind fun bt428 => (if bt428.2.2.2.2 = true then (if x5.length < 4398046511104 then (dossierref08_Words.l0 k x0 (x5 ++ [(⟨bt428.1,bt428.2.1,bt428.2.2.1⟩ : S43)]) (wrap64 (x6 + bt428.2.2.2.1))) else (none)) else (some (([] : List (S43)),x6,20)))) else (none)))) else (none)) else (if x5.length < 4398046511104 then (some ((x5 ++ [(⟨0,(⟨#[]⟩ : ByteArray),0⟩ : S43)]),0,0)) else (none))
def dossierref08_Words.f (k : Nat) (a0 : ByteArray) : Option ((List (S43)) × Int × Int) := if (a0.size : Int) > 400 then (some (([] : List (S43)),0,4)) else (dossierref08_Words.l0 k a0 ([] : List (S43)) 0)
end
section
/-! ### dossierlaw08_awake: function 23 -/
def dossierlaw08_awake.f (k : Nat)  : Option (Bool) := (lexer_Words.f k (⟨#[97,60,61,49]⟩ : ByteArray)).bind fun bt437 => (if bt437.2.2 = 0 then (if (bt437.1.length : Int) = 4 then (if 1 < (bt437.1.length : Int) then (some (((rd_T43 bt437.1 1).f1).toList == ([60,61] : List UInt8))) else (none)) else (some false)) else (some false))
theorem dossierlaw08_awake.mono : ∀ k,LeO (dossierlaw08_awake.f k ) (dossierlaw08_awake.f (k + 1) ) := by
 intro  k
 unfold dossierlaw08_awake.f
 repeat' first
  | (with_reducible exact lexer_Words.mono _ _)
  | (with_reducible exact LeO.refl _)
  | (with_reducible exact LeO.none _)
  | (with_reducible refine LeO.ite ?_ ?_)
  | (with_reducible refine LeO.bind ?_ (fun _ => ?_))
  | exact lexer_Words.mono _ _
  | exact LeO.none _
  | refine LeO.ite ?_ ?_
  | refine LeO.bind ?_ (fun _ => ?_)
set_option maxHeartbeats 8000000 in
set_option maxRecDepth 100000 in
theorem dossierlaw08_awake.calls (k : Nat)  (r : Bool) (w : World) (hL_ : Laid w) (h : dossierlaw08_awake.f k  = some r) :
 Calls Tryz.prog 23 #[] w fun e w' => e = .returned (.bool r) ∧ Below w.heap.size w w' := by
 have HB := Aside0.mk (Below.refl w.heap.size w)
 have HLd := Aside0.mk hL_
 clear hL_
 have H : ((lexer_Words.f k (⟨#[97,60,61,49]⟩ : ByteArray)).bind fun bt437 => (if bt437.2.2 = 0 then (if (bt437.1.length : Int) = 4 then (if 1 < (bt437.1.length : Int) then (some (((rd_T43 bt437.1 1).f1).toList == ([60,61] : List UInt8))) else (none)) else (some false)) else (some false))) = some r := h
 clear h
 replace H := Option.bind_eq_some_iff.mp H
 obtain ⟨⟨t437,t438,t439⟩,A10,H⟩ := H
 replace H : (if t439 = 0 then (if (t437.length : Int) = 4 then (if 1 < (t437.length : Int) then (some (((rd_T43 t437 1).f1).toList == ([60,61] : List UInt8))) else (none)) else (some false)) else (some false)) = some r := H
 have A1 := Aside0.mk A10
 clear A10
 by_cases c2 : t439 = 0
 · rw [if_pos c2] at H
   have c2b0 : (t439 == 0) = true := beq_iff_eq.mpr c2
   have c2b1 : (t439 != 0) = false := bne_eq_false_iff_eq.mpr c2
   clear c2
   by_cases c3 : (t437.length : Int) = 4
   · rw [if_pos c3] at H
     have c3b0 : ((t437.length : Int) == 4) = true := beq_iff_eq.mpr c3
     have c3b1 : ((t437.length : Int) != 4) = false := bne_eq_false_iff_eq.mpr c3
     clear c3
     by_cases c4 : 1 < (t437.length : Int)
     · rw [if_pos c4] at H
       have c4b0 : decide (1 < (t437.length : Int)) = true := decide_eq_true c4
       have c4b1 : decide (1 < t437.length) = true := decide_eq_true (by omega)
       clear c4
       obtain rfl := Option.some.inj H
       go_enter Tryz.func23,Tryz.ntmps23
       go_wp2_with (first | ((with_reducible refine gate_callee (f := 21) rfl ?_); refine goesL_ (some 5) rfl rfl Tryz.func21 (by kernel_rfl) rfl #[.string (⟨#[97,60,61,49]⟩ : ByteArray)] rfl (by (try simp only [List.map_toArray,List.map_cons,List.map_nil]); first | done | rfl | (simp only [List.length_drop,List.length_take]; rfl)) ?_; (with_reducible refine (lexer_Words.calls k (⟨#[97,60,61,49]⟩ : ByteArray) t437 t438 t439 _ ?side1 A1.out).mono ?_); (case side1 => exact Laid_below HLd.out (by repeat (first | (with_reducible first | exact HB.out | apply below_alloc | apply pw_below_drewN | apply below_drew1 | apply bytes_below1) | exact HB.out))); rintro e w5 ⟨v440,rfl,ho0,hb⟩; refine ⟨_,rfl,?_⟩; have n0_ := Aside0.mk (Kd.R_lower ho0 (below_size (by repeat (first | (with_reducible first | exact HB.out | apply below_alloc | apply pw_below_drewN | apply below_drew1 | apply bytes_below1) | exact HB.out)))); have n1_ := Aside0.mk (below_step (by repeat (first | (with_reducible first | exact HB.out | apply below_alloc | apply pw_below_drewN | apply below_drew1 | apply bytes_below1) | exact HB.out)) hb); clear HB; have HO441 := n0_; have HB := n1_; clear n0_ n1_; (try clear hb); (try clear hb2); (try clear hk); (try clear hi); (try clear ho0); obtain ⟨Ao6,co6,eo6⟩ := Kd.R_slice HO441.out; subst eo6; have p442 : 0 ≤ (1 : Int) := (by omega); have q442 : 1 < (t437.length : Int) := of_decide_eq_true (by first | (with_reducible assumption) | assumption); obtain ⟨ad442,e442,hx442_0,hx442_1,hx442_2⟩ := at_T43 (Kd.R_reads' HO441.out).2.2 1 p442 q442; cases e442; (try simp only [show (1 : Int).toNat = 1 from rfl,Nat.reduceMul,Nat.reduceEqDiff,Go.Addr.add,↓reduceIte] at hx442_0); (try simp only [show (1 : Int).toNat = 1 from rfl,Nat.reduceMul,Nat.reduceEqDiff,Go.Addr.add,↓reduceIte] at hx442_1); (try simp only [show (1 : Int).toNat = 1 from rfl,Nat.reduceMul,Nat.reduceEqDiff,Go.Addr.add,↓reduceIte] at hx442_2); have qi442 : (1 < t437.length) = True := eq_true (by omega); (try rw [show ((1 : Int)).toNat = 1 from rfl] at hx442_0); (try rw [show 1 * 3 = 3 from rfl] at hx442_0); (try rw [show ((1 : Int)).toNat = 1 from rfl] at hx442_1); (try rw [show 1 * 3 = 3 from rfl] at hx442_1); (try rw [show ((1 : Int)).toNat = 1 from rfl] at hx442_2); (try rw [show 1 * 3 = 3 from rfl] at hx442_2); replace p442 := eq_true p442; replace q442 := eq_true q442))
       go_ret
       exact ⟨by first | rfl | (simp [errW_none,errW_some] <;> rfl) | (simp [*,errW_none,errW_some] <;> rfl),by repeat (first | (with_reducible first | exact HB.out | apply below_alloc | apply pw_below_drewN | apply below_drew1 | apply bytes_below1) | exact HB.out)⟩
     · rw [if_neg c4] at H
       exact absurd H (by simp)
   · rw [if_neg c3] at H
     have c3b0 : ((t437.length : Int) == 4) = false := beq_eq_false_iff_ne.mpr c3
     have c3b1 : ((t437.length : Int) != 4) = true := bne_iff_ne.mpr c3
     obtain rfl := Option.some.inj H
     go_enter Tryz.func23,Tryz.ntmps23
     go_wp2_with (first | ((with_reducible refine gate_callee (f := 21) rfl ?_); refine goesL_ (some 5) rfl rfl Tryz.func21 (by kernel_rfl) rfl #[.string (⟨#[97,60,61,49]⟩ : ByteArray)] rfl (by (try simp only [List.map_toArray,List.map_cons,List.map_nil]); first | done | rfl | (simp only [List.length_drop,List.length_take]; rfl)) ?_; (with_reducible refine (lexer_Words.calls k (⟨#[97,60,61,49]⟩ : ByteArray) t437 t438 t439 _ ?side1 A1.out).mono ?_); (case side1 => exact Laid_below HLd.out (by repeat (first | (with_reducible first | exact HB.out | apply below_alloc | apply pw_below_drewN | apply below_drew1 | apply bytes_below1) | exact HB.out))); rintro e w7 ⟨v440,rfl,ho0,hb⟩; refine ⟨_,rfl,?_⟩; have n0_ := Aside0.mk (Kd.R_lower ho0 (below_size (by repeat (first | (with_reducible first | exact HB.out | apply below_alloc | apply pw_below_drewN | apply below_drew1 | apply bytes_below1) | exact HB.out)))); have n1_ := Aside0.mk (below_step (by repeat (first | (with_reducible first | exact HB.out | apply below_alloc | apply pw_below_drewN | apply below_drew1 | apply bytes_below1) | exact HB.out)) hb); clear HB; have HO441 := n0_; have HB := n1_; clear n0_ n1_; (try clear hb); (try clear hb2); (try clear hk); (try clear hi); (try clear ho0); obtain ⟨Ao8,co8,eo8⟩ := Kd.R_slice HO441.out; subst eo8))
     go_ret
     exact ⟨by first | rfl | (simp [errW_none,errW_some] <;> rfl) | (simp [*,errW_none,errW_some] <;> rfl),by repeat (first | (with_reducible first | exact HB.out | apply below_alloc | apply pw_below_drewN | apply below_drew1 | apply bytes_below1) | exact HB.out)⟩
 · rw [if_neg c2] at H
   have c2b0 : (t439 == 0) = false := beq_eq_false_iff_ne.mpr c2
   have c2b1 : (t439 != 0) = true := bne_iff_ne.mpr c2
   obtain rfl := Option.some.inj H
   go_enter Tryz.func23,Tryz.ntmps23
   go_wp2_with (first | ((with_reducible refine gate_callee (f := 21) rfl ?_); refine goesL_ (some 5) rfl rfl Tryz.func21 (by kernel_rfl) rfl #[.string (⟨#[97,60,61,49]⟩ : ByteArray)] rfl (by (try simp only [List.map_toArray,List.map_cons,List.map_nil]); first | done | rfl | (simp only [List.length_drop,List.length_take]; rfl)) ?_; (with_reducible refine (lexer_Words.calls k (⟨#[97,60,61,49]⟩ : ByteArray) t437 t438 t439 _ ?side1 A1.out).mono ?_); (case side1 => exact Laid_below HLd.out (by repeat (first | (with_reducible first | exact HB.out | apply below_alloc | apply pw_below_drewN | apply below_drew1 | apply bytes_below1) | exact HB.out))); rintro e w9 ⟨v440,rfl,ho0,hb⟩; refine ⟨_,rfl,?_⟩; have n0_ := Aside0.mk (Kd.R_lower ho0 (below_size (by repeat (first | (with_reducible first | exact HB.out | apply below_alloc | apply pw_below_drewN | apply below_drew1 | apply bytes_below1) | exact HB.out)))); have n1_ := Aside0.mk (below_step (by repeat (first | (with_reducible first | exact HB.out | apply below_alloc | apply pw_below_drewN | apply below_drew1 | apply bytes_below1) | exact HB.out)) hb); clear HB; have HO441 := n0_; have HB := n1_; clear n0_ n1_; (try clear hb); (try clear hb2); (try clear hk); (try clear hi); (try clear ho0)))
   go_ret
   exact ⟨by first | rfl | (simp [errW_none,errW_some] <;> rfl) | (simp [*,errW_none,errW_some] <;> rfl),by repeat (first | (with_reducible first | exact HB.out | apply below_alloc | apply pw_below_drewN | apply below_drew1 | apply bytes_below1) | exact HB.out)⟩
end
section
theorem eqA43 (d : Nat) (w : World) (x0 y0 : Int) (x1 y1 : ByteArray) (x2 y2 : Int) :
 (Op.equalIn (d + 2) 43 (.agg #[.int .i64 x0,.string x1,.int .i64 x2]) (.agg #[.int .i64 y0,.string y1,.int .i64 y2])).run Tryz.prog w = .ok (x0 == y0 && (x1.toList == y1.toList && (x2 == y2))) w := by
 refine eqA_of Tryz.underlying43 (by kernel_rfl) ?_
 refine eqf_cons (by rfl) (by go_simp; rfl) (by go_simp; rfl) (by go_simp) ?_
 refine eqf_cons (by rfl) (by go_simp; rfl) (by go_simp; rfl) (by go_simp) ?_
 exact eqf_last (by rfl) (by go_simp; rfl) (by go_simp; rfl) (by go_simp)
end
section
attribute [local go_sem high] eqA43
/-! ### dossierref08_Same: function 25 -/
def dossierref08_Same.l0 : Nat → List (S43) → List (S43) → Int → Int → Option (Bool)
 | 0,_,_,_,_ => none
 | k + 1,x0,x1,x12,x13 => if x13 < x12 then (if 0 ≤ x13 then (if x13 < (x0.length : Int) then (if x13 < (x1.length : Int) then (if (!(((rd_T43 x0 x13).f0) == ((rd_T43 x1 x13).f0)) || (!((((rd_T43 x0 x13).f1).toList) == (((rd_T43 x1 x13).f1).toList)) || (!(((rd_T43 x0 x13).f2) == ((rd_T43 x1 x13).f2))))) = true then (some false) else (dossierref08_Same.l0 k x0 x1 x12 (wrap64 (x13 + 1)))) else (none)) else (none)) else (none)) else (some true)
def dossierref08_Same.f (k : Nat) (l0 : List (S43)) (l1 : List (S43)) : Option (Bool) := if (l0.length : Int) = (l1.length : Int) then (dossierref08_Same.l0 k l0 l1 (l0.length : Int) 0) else (some false)
set_option maxHeartbeats 8000000 in
set_option maxRecDepth 100000 in
theorem dossierref08_Same.calls (k : Nat) (A0 : Option Addr) (c0 : Nat) (l0 : List (S43)) (A1 : Option Addr) (c1 : Nat) (l1 : List (S43)) (r : Bool) (w : World) (hr0 : Kd.C k43 w A0 l0.length l0) (hc0 : l0.length ≤ c0) (hr1 : Kd.C k43 w A1 l1.length l1) (hc1 : l1.length ≤ c1) (h : dossierref08_Same.f k l0 l1 = some r) :
 Calls Tryz.prog 25 #[.slice A0 l0.length c0,.slice A1 l1.length c1] w fun e w' => e = .returned (.bool r) ∧ Drawn0 w w' := by
 have hu43 := Tryz.underlying43
 have HR0 := Aside0.mk hr0
 have HC0 := Aside0.mk hc0
 clear hr0 hc0
 have HR1 := Aside0.mk hr1
 have HC1 := Aside0.mk hc1
 clear hr1 hc1
 have H : (if (l0.length : Int) = (l1.length : Int) then (dossierref08_Same.l0 k l0 l1 (l0.length : Int) 0) else (some false)) = some r := h
 clear h
 by_cases c3 : (l0.length : Int) = (l1.length : Int)
 · rw [if_pos c3] at H
   have c3b0 : ((l0.length : Int) == (l1.length : Int)) = true := beq_iff_eq.mpr c3
   have c3b1 : ((l0.length : Int) != (l1.length : Int)) = false := bne_eq_false_iff_eq.mpr c3
   have c3b2 : (l0.length == l1.length) = true := by first | simpa using c3 | (simp at c3 ⊢; omega)
   clear c3
   have H' := Aside0.mk H
   clear H
   go_enter Tryz.func25,Tryz.ntmps25
   go_wp2
   repeat (go_quiet (fail); try go_wp2)
   go_loopg [13] k (fun kq v13 w' => ∃ (x13_1 : Int),v13 = .int .i64 x13_1 ∧ Aside0 (dossierref08_Same.l0 kq l0 l1 (l0.length : Int) x13_1 = some r) ∧ Aside0 (kq ≤ k) ∧ Drawn0 w w')
   case atStart => exact ⟨(0),(by first | rfl | (simp; done) | (simp [*]; done)),H',⟨Nat.le_refl _⟩,by repeat (first | exact Drawn0.refl _ | apply Drawn0.step)⟩
   case round =>
    clear H'
    try clear c1
    try clear c2
    try clear p2
    try clear c3
    try clear c3b0
    try clear c3b1
    try clear c3b2
    obtain ⟨x13_1,rfl,HA,HK1,⟨m1,rfl⟩⟩ := hrel
    cases gk with
    | zero => exact absurd HA.out (by simp [dossierref08_Same.l0])
    | succ k1 =>
     have H := HA.out
     clear HA
     simp only [dossierref08_Same.l0] at H
     by_cases c4 : x13_1 < (l0.length : Int)
     · rw [if_pos c4] at H
       have c4b0 : decide (x13_1 < (l0.length : Int)) = true := decide_eq_true c4
       clear c4
       by_cases c5 : 0 ≤ x13_1
       · rw [if_pos c5] at H
         have c5b0 : decide (0 ≤ x13_1) = true := decide_eq_true c5
         clear c5
         by_cases c6 : x13_1 < (l0.length : Int)
         · rw [if_pos c6] at H
           have c6b0 : decide (x13_1 < (l0.length : Int)) = true := decide_eq_true c6
           clear c6
           by_cases c7 : x13_1 < (l1.length : Int)
           · rw [if_pos c7] at H
             have c7b0 : decide (x13_1 < (l1.length : Int)) = true := decide_eq_true c7
             clear c7
             by_cases c8 : (!(((rd_T43 l0 x13_1).f0) == ((rd_T43 l1 x13_1).f0)) || (!((((rd_T43 l0 x13_1).f1).toList) == (((rd_T43 l1 x13_1).f1).toList)) || (!(((rd_T43 l0 x13_1).f2) == ((rd_T43 l1 x13_1).f2))))) = true
             · rw [if_pos c8] at H
               have c8b0 : (!(((rd_T43 l0 x13_1).f0) == ((rd_T43 l1 x13_1).f0)) || (!((((rd_T43 l0 x13_1).f1).toList) == (((rd_T43 l1 x13_1).f1).toList)) || (!(((rd_T43 l0 x13_1).f2) == ((rd_T43 l1 x13_1).f2))))) = true := c8
               clear c8
               obtain rfl := Option.some.inj H
               have p461 : 0 ≤ (x13_1 : Int) := of_decide_eq_true (by first | (with_reducible assumption) | assumption)
               have q461 : x13_1 < (l0.length : Int) := of_decide_eq_true (by first | (with_reducible assumption) | assumption)
               obtain ⟨ad461,e461,hx461_0,hx461_1,hx461_2⟩ := at_T43 HR0.out x13_1 p461 q461
               cases e461
               replace p461 := eq_true p461
               replace q461 := eq_true q461
               have p462 : 0 ≤ (x13_1 : Int) := of_decide_eq_true (by first | (with_reducible assumption) | assumption)
               have q462 : x13_1 < (l1.length : Int) := of_decide_eq_true (by first | (with_reducible assumption) | assumption)
               obtain ⟨ad462,e462,hx462_0,hx462_1,hx462_2⟩ := at_T43 HR1.out x13_1 p462 q462
               cases e462
               replace p462 := eq_true p462
               replace q462 := eq_true q462
               go_wp2
               repeat (go_quiet (fail); try go_wp2)
               go_ret
               exact ⟨by first | rfl | (simp; done) | (simp [*]; done),by repeat (first | exact Drawn0.refl _ | apply Drawn0.step)⟩
             · rw [if_neg c8] at H
               have c8b0 : (!(((rd_T43 l0 x13_1).f0) == ((rd_T43 l1 x13_1).f0)) || (!((((rd_T43 l0 x13_1).f1).toList) == (((rd_T43 l1 x13_1).f1).toList)) || (!(((rd_T43 l0 x13_1).f2) == ((rd_T43 l1 x13_1).f2))))) = false := by simpa using c8
               clear c8
               have H' := Aside0.mk H
               clear H
               have p461 : 0 ≤ (x13_1 : Int) := of_decide_eq_true (by first | (with_reducible assumption) | assumption)
               have q461 : x13_1 < (l0.length : Int) := of_decide_eq_true (by first | (with_reducible assumption) | assumption)
               obtain ⟨ad461,e461,hx461_0,hx461_1,hx461_2⟩ := at_T43 HR0.out x13_1 p461 q461
               cases e461
               replace p461 := eq_true p461
               replace q461 := eq_true q461
               have p462 : 0 ≤ (x13_1 : Int) := of_decide_eq_true (by first | (with_reducible assumption) | assumption)
               have q462 : x13_1 < (l1.length : Int) := of_decide_eq_true (by first | (with_reducible assumption) | assumption)
               obtain ⟨ad462,e462,hx462_0,hx462_1,hx462_2⟩ := at_T43 HR1.out x13_1 p462 q462
               cases e462
               replace p462 := eq_true p462
               replace q462 := eq_true q462
               go_wp2
               repeat (go_quiet (fail); try go_wp2)
               go_roundg k1
               case measure => have := HK1.out; omega
               case rel => exact ⟨(wrap64 (x13_1 + 1)),(by first | rfl | (simp; done) | (simp [*]; done)),H',⟨by have := HK1.out; omega⟩,by repeat (first | exact Drawn0.refl _ | apply Drawn0.step)⟩
           · rw [if_neg c7] at H
             exact absurd H (by simp)
         · rw [if_neg c6] at H
           exact absurd H (by simp)
       · rw [if_neg c5] at H
         exact absurd H (by simp)
     · rw [if_neg c4] at H
       have c4b0 : decide (x13_1 < (l0.length : Int)) = false := decide_eq_false c4
       clear c4
       obtain rfl := Option.some.inj H
       go_wp2
       repeat (go_quiet (fail); try go_wp2)
       go_ret
       exact ⟨by first | rfl | (simp; done) | (simp [*]; done),by repeat (first | exact Drawn0.refl _ | apply Drawn0.step)⟩
 · rw [if_neg c3] at H
   have c3b0 : ((l0.length : Int) == (l1.length : Int)) = false := beq_eq_false_iff_ne.mpr c3
   have c3b1 : ((l0.length : Int) != (l1.length : Int)) = true := bne_iff_ne.mpr c3
   have c3b2 : (l0.length == l1.length) = false := by first | simpa using c3 | (simp at c3 ⊢; omega)
   obtain rfl := Option.some.inj H
   go_enter Tryz.func25,Tryz.ntmps25
   go_wp2
   repeat (go_quiet (fail); try go_wp2)
   go_ret
   exact ⟨by first | rfl | (simp; done) | (simp [*]; done),by repeat (first | exact Drawn0.refl _ | apply Drawn0.step)⟩
end
end Go.Proofs.YtifgpigicgaadaaGreatDoor.Q
end
section
/- The words of a text: what the program and the reference read. -/
set_option linter.unusedSimpArgs false
set_option linter.unusedVariables false
namespace Go.Proofs.YtifgpigicgaadaaGreatDoor.Words
open Go.RowKit Go.Proofs.YtifgpigicgaadaaGreatDoor.Q Go.Proofs.YtifgpigicgaadaaGreatDoorW.PrintWords Go.Proofs.YtifgpigicgaadaaGreatDoorW.PrintLast Go.Proofs.YtifgpigicgaadaaGreatDoorH Go.Proofs.YtifgpigicgaadaaGreatDoor.Chars Go.Proofs.YtifgpigicgaadaaGreatDoor.Values Go.Proofs.YtifgpigicgaadaaGreatDoor.Bytes Go.Proofs.YtifgpigicgaadaaGreatDoor.Num Go.Proofs.YtifgpigicgaadaaGreatDoor.Lex Go.Proofs.YtifgpigicgaadaaGreatDoor.Quoted

/-! ## Signs -/
def TWO : List (List Int) := [[60, 61], [62, 61], [33, 61]]
def ONE : List Int := [40, 41, 46, 44, 43, 45, 42, 47, 37, 60, 62, 61]
def signV (l : List Int) : Nat := if TWO.contains (l.take 2) = true then 2 else if ONE.contains (l.getD 0 0) = true then 1 else 0
theorem ext0 (s : ByteArray) (n : Nat) : bytesOf (s.extract 0 n) = (bytesOf s).take n := by rw [b_extract, List.drop_zero, Nat.sub_zero]
theorem ext00 (s : ByteArray) : s.extract 0 0 = ⟨#[]⟩ := by apply b_inj; rw [ext0]; rfl
theorem ext_take (s : ByteArray) (n : Nat) : s.extract 0 n = strOfNums ((bytesOf s).take n) := by
  apply b_inj; rw [ext0, b_str ((bytes_of s).take n)]
theorem one_iff (a : Int) : ONE.contains a = true ↔ a = 40 ∨ a = 41 ∨ a = 46 ∨ a = 44 ∨ a = 43 ∨ a = 45 ∨ a = 42 ∨ a = 47 ∨ a = 37 ∨ a = 60 ∨ a = 62 ∨ a = 61 := by simp [ONE]
theorem sign_one (k : Nat) (s : ByteArray) (a : Int) (t : List Int) (h : bytesOf s = a :: t) : lexer_sign.l0 (k + 2) s 1 = some (s.extract 0 (if ONE.contains a = true then 1 else 0)) := by
  have hb : bytesOf (s.extract 0 (1 : Int).toNat) = [a] := by rw [ext0, h]; rfl
  have hz : s.size = t.length + 1 := by rw [b_size, h]; rfl
  have e0 : lexer_sign.l0 (k + 1) s (wrap64 (1 - 1)) = some ⟨#[]⟩ := by
    rw [show wrap64 (1 - 1) = 0 from by unfold wrap64; omega, lexer_sign.l0, if_neg (by omega)]
  rw [show k + 2 = (k + 1) + 1 from rfl, lexer_sign.l0, if_pos (by omega), if_pos (by omega), if_pos (by omega), e0]
  simp only [toList_iff, hb, List.map_cons, List.map_nil]
  simp only [List.cons.injEq, and_true, and_false, if_false, reduceCtorEq]
  by_cases hc : ONE.contains a = true
  · rcases (one_iff a).1 hc with rfl | rfl | rfl | rfl | rfl | rfl | rfl | rfl | rfl | rfl | rfl | rfl <;> rfl
  · have n : ∀ x : Int, ONE.contains x = true → ¬ a = x := fun x hx he => hc (by rw [he]; exact hx)
    rw [if_neg hc, ext00]
    exact (if_neg (n 40 rfl)).trans <| (if_neg (n 41 rfl)).trans <| (if_neg (n 46 rfl)).trans <| (if_neg (n 44 rfl)).trans <| (if_neg (n 43 rfl)).trans <| (if_neg (n 45 rfl)).trans <| (if_neg (n 42 rfl)).trans <| (if_neg (n 47 rfl)).trans <| (if_neg (n 37 rfl)).trans <| (if_neg (n 60 rfl)).trans <| (if_neg (n 62 rfl)).trans <| (if_neg (n 61 rfl))
theorem signV_one (a : Int) : signV [a] = if ONE.contains a = true then 1 else 0 := by
  unfold signV
  have : ¬ TWO.contains ([a].take 2) = true := by simp [TWO]
  rw [if_neg this]; rfl
theorem sign_spec (k : Nat) (s : ByteArray) (h : bytesOf s ≠ []) : lexer_sign.f (k + 3) s = some (s.extract 0 (signV (bytesOf s))) := by
  match hl : bytesOf s, h with
  | [a], _ =>
    have hz : s.size = 1 := by rw [b_size, hl]; rfl
    unfold lexer_sign.f
    rw [hz, show mn 2 ((1 : Nat) : Int) = 1 from rfl, show k + 3 = (k + 1) + 2 from rfl, sign_one _ s a [] hl, signV_one]
  | a :: b :: t, _ =>
    have hz : s.size = t.length + 2 := by rw [b_size, hl]; rfl
    have hm : mn 2 (s.size : Int) = 2 := by unfold mn; split <;> omega
    unfold lexer_sign.f
    have hb : bytesOf (s.extract 0 (2 : Int).toNat) = [a, b] := by rw [ext0, hl]; rfl
    rw [hm, show k + 3 = (k + 2) + 1 from rfl, lexer_sign.l0, if_pos (by omega), if_pos (by omega), if_pos (by omega)]
    simp only [toList_iff, hb, List.map_cons, List.map_nil]
    have e : wrap64 (2 - 1) = 1 := by unfold wrap64; omega
    rw [e, sign_one k s a (b :: t) hl]
    simp only [List.cons.injEq, and_true, and_false, if_false, reduceCtorEq]
    unfold signV
    simp only [List.take_succ_cons, List.take_zero, List.getD_cons_zero]
    by_cases h1 : TWO.contains [a, b] = true
    · rw [if_pos h1]
      have : (a = 60 ∧ b = 61) ∨ (a = 62 ∧ b = 61) ∨ (a = 33 ∧ b = 61) := by simpa [TWO] using h1
      rcases this with ⟨rfl, rfl⟩ | ⟨rfl, rfl⟩ | ⟨rfl, rfl⟩ <;> rfl
    · rw [if_neg h1]
      have : ¬ ((a = 60 ∧ b = 61) ∨ (a = 62 ∧ b = 61) ∨ (a = 33 ∧ b = 61)) := fun x => h1 (by simpa [TWO] using x)
      rw [if_neg (fun x => this (Or.inl (by simpa using x))), if_neg (fun x => this (Or.inr (Or.inl (by simpa using x)))), if_neg (fun x => this (Or.inr (Or.inr (by simpa using x))))]
/-! ## A word -/
def nameP (x : Int) : Bool := letterV x || digitV x
theorem take_while (p : Int → Bool) : ∀ l : List Int, l.take (l.takeWhile p).length = l.takeWhile p
  | [] => rfl
  | x :: t => by
    by_cases h : p x = true
    · rw [List.takeWhile_cons_of_pos h, List.length_cons, List.take_succ_cons, take_while p t]
    · rw [List.takeWhile_cons_of_neg h]; rfl
theorem while_len (p : Int → Bool) (l : List Int) : (l.takeWhile p).length ≤ l.length := by
  have := congrArg List.length (take_while p l)
  rw [List.length_take] at this; omega
theorem ext_while (s : ByteArray) (p : Int → Bool) : s.extract 0 ((bytesOf s).takeWhile p).length = strOfNums ((bytesOf s).takeWhile p) := by
  rw [ext_take, take_while]
theorem while_digits (l : List Int) : Digits (l.takeWhile digitV) := by
  induction l with
  | nil => intro x hx; exact absurd hx (by simp)
  | cons a t ih =>
    intro x hx
    rw [List.takeWhile_cons] at hx
    split at hx
    · rename_i ha
      rcases List.mem_cons.1 hx with rfl | hx
      · unfold digitV at ha; simp at ha; exact ha
      · exact ih x hx
    · exact absurd hx (by simp)
open Classical in
noncomputable def textV (r : Option (List Int × Nat)) : Option (S43 × Nat) :=
  match r with
  | none => none
  | some r => if 256 < r.1.length ∨ ¬ Lex.Good r.1 then none else some (⟨3, strOfNums r.1, 0⟩, r.2 + 1)
/-- The word that bytes begin with. -/
noncomputable def wordV (l : List Int) : Option (S43 × Nat) :=
  if letterV (l.getD 0 0) = true then some (⟨1, strOfNums (l.takeWhile nameP), 0⟩, (l.takeWhile nameP).length)
  else if digitV (l.getD 0 0) = true then (if (numV (l.takeWhile digitV)).2 = 0 then some (⟨2, ⟨#[]⟩, (numV (l.takeWhile digitV)).1⟩, (l.takeWhile digitV).length) else none)
  else if l.getD 0 0 = 34 then textV (scan (l.drop 1))
  else if signV l = 0 then none else some (⟨4, strOfNums (l.take (signV l)), 0⟩, signV l)
theorem signV_le (l : List Int) (h : l ≠ []) : signV l ≤ l.length := by
  unfold signV
  split
  · rename_i h2
    match l, h with
    | [a], _ => simp [TWO] at h2
    | a :: b :: t, _ => simp
  · have : 0 < l.length := List.length_pos_iff.2 h
    split <;> omega
theorem wordV_len (l : List Int) (hl : Bytes l) (h : l ≠ []) (w : S43) (n : Nat) (hw : wordV l = some (w, n)) : 1 ≤ n ∧ n ≤ l.length := by
  obtain ⟨a, t, rfl⟩ : ∃ a t, l = a :: t := List.exists_cons_of_ne_nil h
  unfold wordV at hw
  rw [List.getD_cons_zero] at hw
  by_cases h1 : letterV a = true
  · rw [if_pos h1] at hw
    have hp : nameP a = true := by unfold nameP; rw [h1]; rfl
    have := while_len nameP (a :: t)
    cases hw
    rw [List.takeWhile_cons_of_pos hp] at this ⊢
    simp at this ⊢
    omega
  · rw [if_neg h1] at hw
    by_cases h2 : digitV a = true
    · rw [if_pos h2] at hw
      split at hw
      · have := while_len digitV (a :: t)
        cases hw
        rw [List.takeWhile_cons_of_pos h2] at this ⊢
        simp at this ⊢
        omega
      · cases hw
    · rw [if_neg h2] at hw
      by_cases h3 : a = 34
      · rw [if_pos h3, List.drop_succ_cons, List.drop_zero] at hw
        cases hs : scan t with
        | none => rw [hs] at hw; cases hw
        | some r =>
          obtain ⟨o, m⟩ := r
          have := scan_bytes _ t rfl (fun x hx => hl x (by simp [hx])) o m hs
          rw [hs] at hw
          unfold textV at hw
          simp only at hw
          split at hw
          · cases hw
          · cases hw
            simp; omega
      · rw [if_neg h3] at hw
        have := signV_le (a :: t) h
        split at hw
        · cases hw
        · cases hw; omega
def Says (v : Option (S43 × Nat)) (r : Int × ByteArray × Int × Int) : Prop :=
  (∀ w n, v = some (w, n) → r = (w.f0, w.f1, w.f2, (n : Int))) ∧ (v = none → r.2.2.2 = 0)
def Tells (v : Option (S43 × Nat)) (r : Int × ByteArray × Int × Int × Bool) : Prop :=
  (∀ w n, v = some (w, n) → r = (w.f0, w.f1, w.f2, (n : Int), true)) ∧ (v = none → r.2.2.2.2 = false)
theorem word_spec (s : ByteArray) (a : Int) (t : List Int) (h : bytesOf s = a :: t) (hs : (bytesOf s).length ≤ 1000) (k : Nat) (hk : 3000 ≤ k) : ∃ r, lexer_word.f k s = some r ∧ Says (wordV (bytesOf s)) r := by
  have hz : s.size = t.length + 1 := by rw [b_size, h]; rfl
  have hb : bt s 0 = a := by rw [bt_get, h]; rfl
  have ha : 0 ≤ a ∧ a < 256 := bytes_of s a (by rw [h]; simp)
  have hS := sets_at a ha
  have g0 : (bytesOf s).getD 0 0 = a := by rw [h]; rfl
  unfold LET DIG at hS
  unfold lexer_word.f wordV
  rw [if_pos (by omega), hb, g0, hS.1, Option.bind_some]
  by_cases h1 : letterV a = true
  · rw [if_pos h1, if_pos h1]
    have hr := run_spec s LETDIG nameP (fun x hx => (sets_at x hx).2.1) (by omega) k (by omega)
    unfold LETDIG at hr
    rw [hr, Option.bind_some, ext_while]
    refine ⟨_, rfl, fun w n hw => ?_, fun hw => (by cases hw)⟩
    cases hw
    rw [str_size]
  · rw [if_neg h1, if_neg h1, hS.2.2.1, Option.bind_some]
    by_cases h2 : digitV a = true
    · rw [if_pos h2, if_pos h2]
      have hr := run_spec s DIG digitV (fun x hx => (sets_at x hx).2.2.1) (by omega) k (by omega)
      unfold DIG at hr
      have hd := while_digits (bytesOf s)
      have hn0 : (bytesOf s).takeWhile digitV ≠ [] := by rw [h, List.takeWhile_cons_of_pos h2]; simp
      have hle := while_len digitV (bytesOf s)
      have hbs : bytesOf (strOfNums ((bytesOf s).takeWhile digitV)) = (bytesOf s).takeWhile digitV := b_str (by rw [← take_while]; exact (bytes_of s).take _)
      have hN := number_spec (strOfNums ((bytesOf s).takeWhile digitV)) (by rw [hbs]; exact hd) (by rw [hbs]; exact hn0) (by rw [hbs]; omega) k (by rw [hbs]; omega)
      rw [hbs] at hN
      rw [hr, Option.bind_some, ext_while, hN, Option.bind_some]
      by_cases h3 : (numV ((bytesOf s).takeWhile digitV)).2 = 0
      · rw [if_pos h3, if_pos h3]
        refine ⟨_, rfl, fun w n hw => ?_, fun hw => (by cases hw)⟩
        cases hw
        rw [str_size]
      · rw [if_neg h3, if_neg h3]
        exact ⟨_, rfl, fun w n hw => (by cases hw), fun _ => rfl⟩
    · rw [if_neg h2, if_neg h2]
      by_cases h3 : a = 34
      · rw [if_pos h3, if_pos h3]
        have hq := quoted_at s hs ((bytesOf s).length - 1) 1 (k - ((bytesOf s).length - 1) - 400) [] (by rw [h]; simp; omega) (fun x hx => absurd hx (by simp)) (by simp)
        rw [show k - ((bytesOf s).length - 1) - 400 + ((bytesOf s).length - 1) + 400 = k from by omega] at hq
        unfold lexer_quoted.f
        rw [show ((1 : Nat) : Int) = 1 from rfl] at hq
        rw [hq, Option.bind_some]
        cases hsc : scan ((bytesOf s).drop 1) with
        | none => exact ⟨_, rfl, fun w n hw => (by cases hw), fun _ => rfl⟩
        | some r =>
          obtain ⟨o, m⟩ := r
          unfold textV quoP quoE
          simp only [List.nil_append]
          by_cases h4 : 256 < o.length ∨ ¬ Lex.Good o
          · rw [if_pos h4, if_pos h4]
            exact ⟨_, rfl, fun w n hw => (by cases hw), fun _ => rfl⟩
          · rw [if_neg h4, if_neg h4]
            refine ⟨_, rfl, fun w n hw => ?_, fun hw => (by cases hw)⟩
            cases hw
            simp only [Nat.add_comm]
      · rw [if_neg h3, if_neg h3]
        have hg := sign_spec (k - 3) s (by rw [h]; simp)
        rw [show k - 3 + 3 = k from by omega] at hg
        rw [hg, Option.bind_some]
        by_cases h4 : signV (bytesOf s) = 0
        · rw [if_pos h4, h4, ext00]
          exact ⟨_, rfl, fun w n hw => (by cases hw), fun _ => rfl⟩
        · rw [if_neg h4, ext_take]
          have hle := signV_le (bytesOf s) (by rw [h]; simp)
          refine ⟨_, rfl, fun w n hw => ?_, fun hw => (by cases hw)⟩
          cases hw
          rw [str_size, List.length_take, Nat.min_eq_left hle]
/-! ## All words -/
def blankV (x : Int) : Bool := decide (x = 32) || decide (x = 9) || decide (x = 10) || decide (x = 13)
theorem trim_spec (s : ByteArray) : ∃ r, strings_TrimLeft.f s ⟨#[32, 9, 10, 13]⟩ = some r ∧ bytesOf r = (bytesOf s).dropWhile blankV := by
  unfold strings_TrimLeft.f
  rw [if_pos ⟨by decide, by decide⟩]
  refine ⟨_, rfl, ?_⟩
  unfold bytesOf
  simp only
  generalize s.data.toList = l
  unfold Lib.trimLeftS
  induction l with
  | nil => rfl
  | cons b t ih =>
    have hb : ([32, 9, 10, 13] : List UInt8).contains b = blankV (b.toNat : Int) := by
      unfold blankV
      rw [Bool.eq_iff_iff]
      simp [← UInt8.toNat_inj]
      omega
    have hb' : (⟨#[32, 9, 10, 13]⟩ : ByteArray).data.toList.contains b = blankV (b.toNat : Int) := hb
    rw [List.dropWhile_cons, List.map_cons, List.dropWhile_cons, hb']
    by_cases hc : blankV (b.toNat : Int) = true
    · rw [if_pos hc, if_pos hc]; exact ih
    · rw [if_neg hc, if_neg hc]; rfl
theorem same_at (l : List S43) (hl : l.length ≤ 1000) : ∀ d i k : Nat, i + d = l.length → dossierref08_Same.l0 (k + d + 1) l l (l.length : Int) (i : Int) = some true := by
  intro d
  induction d with
  | zero => intro i k hi; rw [dossierref08_Same.l0, if_neg (by omega)]
  | succ d ih =>
    intro i k hi
    have e2 : wrap64 ((i : Int) + 1) = ((i + 1 : Nat) : Int) := by rw [w64' _ (by omega) (by omega)]; omega
    rw [show k + (d + 1) + 1 = (k + d + 1) + 1 from by omega, dossierref08_Same.l0, if_pos (by omega), if_pos (by omega), if_pos (by omega), if_pos (by omega), if_neg (by simp), e2]
    exact ih (i + 1) k (by omega)
theorem same_spec (l : List S43) (hl : l.length ≤ 1000) (k : Nat) (hk : 1001 ≤ k) : dossierref08_Same.f k l l = some true := by
  unfold dossierref08_Same.f
  rw [if_pos rfl]
  have := same_at l hl l.length 0 (k - l.length - 1) (Nat.zero_add _)
  rw [show k - l.length - 1 + l.length + 1 = k from by omega] at this
  exact this
theorem mono_le {α : Type} (f : Nat → Option α) (h : ∀ k, LeO (f k) (f (k + 1))) {k k' : Nat} (hk : k ≤ k') {r : α} (e : f k = some r) : f k' = some r := by
  obtain ⟨d, rfl⟩ : ∃ d, k' = k + d := ⟨k' - k, by omega⟩
  clear hk
  induction d with
  | zero => exact e
  | succ d ih => exact h _ r ih
theorem awake_small : dossierlaw08_awake.f 60 = some true := by kernel_rfl
theorem awake_spec (k : Nat) (hk : 60 ≤ k) : dossierlaw08_awake.f k = some true := mono_le _ dossierlaw08_awake.mono hk awake_small
end Go.Proofs.YtifgpigicgaadaaGreatDoor.Words
end
section
namespace Go.Proofs.YtifgpigicgaadaaGreatDoor.Q
open Go.RowKit Go.Proofs.YtifgpigicgaadaaGreatDoorH Go.Proofs.YtifgpigicgaadaaGreatDoorW.PrintWords Go.Proofs.YtifgpigicgaadaaGreatDoorW.PrintLast Go.Proofs.YtifgpigicgaadaaGreatDoorW.PrintMore
attribute [local go_sem] max2_int min2_int max_two min_two max_three min_three max_four min_four
set_option linter.unusedVariables false
set_option linter.unusedSimpArgs false
section
/-! ### value_Print: function 18 -/
def value_Print.f (a0_0 : Int) (a0_1 : Int) (a0_2 : Bool) (a0_3 : ByteArray) : Option ByteArray :=
 if a0_0 = 1 then (if -9223372036854775808 ≤ a0_1 ∧ a0_1 ≤ 9223372036854775807 then some (strOfNums (Go.Proofs.YtifgpigicgaadaaGreatDoor.Hand.textOf a0_1)) else none)
 else if a0_0 = 2 then some (if a0_2 = true then ⟨#[116,114,117,101]⟩ else ⟨#[102,97,108,115,101]⟩)
 else if a0_0 = 3 then (if a0_3.size ≤ 140737488351232 then some (Go.Proofs.YtifgpigicgaadaaGreatDoor.Hand.quoteV a0_3) else none) else some ⟨#[]⟩
theorem value_Print.calls (a0_0 : Int) (a0_1 : Int) (a0_2 : Bool) (a0_3 : ByteArray) (r : ByteArray) (w : World) (h : value_Print.f a0_0 a0_1 a0_2 a0_3 = some r) :
 Calls Tryz.prog 18 #[.agg #[.int .i64 a0_0,.int .i64 a0_1,.bool a0_2,.string a0_3]] w fun e w' => e = .returned (.string r) ∧ Below w.heap.size w w' := by
 unfold value_Print.f at h
 by_cases h1 : a0_0 = 1
 · subst h1
   rw [if_pos rfl] at h
   split at h
   · rename_i hr
     obtain rfl := Option.some.inj h
     exact Go.Proofs.YtifgpigicgaadaaGreatDoor.Hand.print_int w a0_1 a0_2 a0_3 hr
   · cases h
 · rw [if_neg h1] at h
   by_cases h2 : a0_0 = 2
   · subst h2
     rw [if_pos rfl] at h
     obtain rfl := Option.some.inj h
     exact Go.Proofs.YtifgpigicgaadaaGreatDoor.Hand.print_bool w a0_1 a0_2 a0_3
   · rw [if_neg h2] at h
     by_cases h3 : a0_0 = 3
     · subst h3
       rw [if_pos rfl] at h
       split at h
       · rename_i hr
         obtain rfl := Option.some.inj h
         exact Go.Proofs.YtifgpigicgaadaaGreatDoor.Hand.print_text w a0_1 a0_2 a0_3 hr
       · cases h
     · rw [if_neg h3] at h
       obtain rfl := Option.some.inj h
       exact Go.Proofs.YtifgpigicgaadaaGreatDoor.Hand.print_none w a0_0 a0_1 a0_2 a0_3 h1 h2 h3
end
section
/-! ### chars_Text: function 34 -/
def chars_Text.f (a0 : Int) : Option ByteArray := if -9223372036854775808 ≤ a0 ∧ a0 ≤ 9223372036854775807 then some (strOfNums (Go.Proofs.YtifgpigicgaadaaGreatDoor.Hand.textOf a0)) else none
theorem chars_Text.calls (a0 : Int) (r : ByteArray) (w : World) (h : chars_Text.f a0 = some r) :
 Calls Tryz.prog 34 #[.int .i64 a0] w fun e w' => e = .returned (.string r) ∧ Below w.heap.size w w' := by
 unfold chars_Text.f at h
 split at h
 · rename_i hr
   obtain rfl := Option.some.inj h
   exact Go.Proofs.YtifgpigicgaadaaGreatDoor.Hand.text_calls w a0 hr
 · cases h
end
section
/-! ### value_Text: function 10 -/
def value_Text.f (a0 : ByteArray) : Option (Int × Int × Bool × ByteArray) := some (3,0,false,a0)
set_option maxHeartbeats 8000000 in
set_option maxRecDepth 100000 in
theorem value_Text.calls (a0 : ByteArray) (r1 : Int) (r2 : Int) (r3 : Bool) (r4 : ByteArray) (w : World) (h : value_Text.f a0 = some (r1,r2,r3,r4)) :
 Calls Tryz.prog 10 #[.string a0] w fun e w' => e = .returned (.agg #[.int .i64 r1,.int .i64 r2,.bool r3,.string r4]) ∧ Below w.heap.size w w' := by
 have hu23 := Tryz.underlying23
 have HB := Aside0.mk (Below.refl w.heap.size w)
 have H : (some (3,0,false,a0)) = some (r1,r2,r3,r4) := h
 clear h
 simp only [Option.some.injEq,Prod.mk.injEq] at H
 obtain ⟨rfl,rfl,rfl,rfl⟩ := H
 go_enter Tryz.func10,Tryz.ntmps10
 go_wp2_with (first | ((with_reducible refine gate_dst (N := 2) rfl ?_); refine box_event ?hg (N := 2) ?hd (cs := #[.int .i64 0,.int .i64 0,.bool false,.string (⟨#[]⟩ : ByteArray)]) (t := 23) ?hr ?_; (case hd => rfl); (case hg => rfl); (case hr => first | (go_simp; done) | (go_simp; rfl)); intro gb105 hg w2 hbox hb; have n0_ := Aside0.mk (below_step (by repeat (first | (with_reducible first | exact HB.out | apply below_alloc | apply pw_below_drewN | apply below_drew1 | apply bytes_below1) | exact HB.out)) hb); have n1_ := Aside0.mk (hbox); have n2_ := Aside0.mk ((by rw [hg]; exact (below_size (by repeat (first | (with_reducible first | exact HB.out | apply below_alloc | apply pw_below_drewN | apply below_drew1 | apply bytes_below1) | exact HB.out))) : w.heap.size ≤ gb105)); have n3_ := Aside0.mk ((by rw [hg]; exact (below_size (by repeat (first | (with_reducible first | exact HB.out | apply below_alloc | apply pw_below_drewN | apply below_drew1 | apply bytes_below1) | exact HB.out))) : w.heap.size ≤ gb105)); clear HB; have HB := n0_; have BK105 := n1_; have GW105 := n2_; have GE105 := n3_; clear n0_ n1_ n2_ n3_; clear hb hbox hg; have hcz3_0 : w2.cell? ⟨gb105,0,none⟩ = some (.int .i64 0) := (blk_cell BK105.out 0).trans rfl; have hcz3_1 : w2.cell? ⟨gb105,1,none⟩ = some (.int .i64 0) := (blk_cell BK105.out 1).trans rfl; have hcz3_2 : w2.cell? ⟨gb105,2,none⟩ = some (.bool false) := (blk_cell BK105.out 2).trans rfl; have hcz3_3 : w2.cell? ⟨gb105,3,none⟩ = some (.string (⟨#[]⟩ : ByteArray)) := (blk_cell BK105.out 3).trans rfl; have hfz3_0 := blk_frozen BK105.out 0; have hfz3_1 := blk_frozen BK105.out 1; have hfz3_2 := blk_frozen BK105.out 2; have hfz3_3 := blk_frozen BK105.out 3))
 refine bodyPost_ret (results_cell_row rfl _ _ gb105 23 #[.int .i64 3,.int .i64 0,.bool false,.string a0] (0,0) _ rfl (by (with_reducible repeat (first | refine blk_bytes ?_ _ _ | refine blk_drewN ?_ _ | refine blk_drew ?_ | refine blk_alloc ?_ _)); refine blk_put (cs := #[.int .i64 3,.int .i64 0,.bool false,.string (⟨#[]⟩ : ByteArray)]) ?_ 3 _ rfl; (with_reducible repeat (first | refine blk_bytes ?_ _ _ | refine blk_drewN ?_ _ | refine blk_drew ?_ | refine blk_alloc ?_ _)); refine blk_put (cs := #[.int .i64 3,.int .i64 0,.bool false,.string (⟨#[]⟩ : ByteArray)]) ?_ 2 _ rfl; (with_reducible repeat (first | refine blk_bytes ?_ _ _ | refine blk_drewN ?_ _ | refine blk_drew ?_ | refine blk_alloc ?_ _)); refine blk_put (cs := #[.int .i64 3,.int .i64 0,.bool false,.string (⟨#[]⟩ : ByteArray)]) ?_ 1 _ rfl; (with_reducible repeat (first | refine blk_bytes ?_ _ _ | refine blk_drewN ?_ _ | refine blk_drew ?_ | refine blk_alloc ?_ _)); refine blk_put (cs := #[.int .i64 0,.int .i64 0,.bool false,.string (⟨#[]⟩ : ByteArray)]) ?_ 0 _ rfl; (with_reducible repeat (first | refine blk_bytes ?_ _ _ | refine blk_drewN ?_ _ | refine blk_drew ?_ | refine blk_alloc ?_ _)); exact BK105.out) Tryz.underlying23 rfl (by kernel_rfl)) rfl ?_
 exact ⟨by first | rfl | (simp [errW_none,errW_some] <;> rfl) | (simp [*,errW_none,errW_some] <;> rfl),by repeat (first | (with_reducible first | exact HB.out | apply below_alloc | apply pw_below_drewN | apply below_drew1 | apply bytes_below1 | refine below_set ?_ GE105.out) | exact HB.out)⟩
end
end Go.Proofs.YtifgpigicgaadaaGreatDoor.Q
end
section
/- What the program's library functions are, against the shelf's own bodies: a table of numbers and one theorem for each, by the kernel's comparison. Written by the kit's lay-plain.mjs for this seat. -/
namespace Go.Proofs
open Go.Shelf
def Tryz.layJoin_ren : Go.Shelf.Ren := ⟨fun | 156 => 44 | 165 => 69 | 166 => 70 | 169 => 71 | 240 => 89 | 241 => 90 | 276 => 105 | 277 => 106 | n => n, fun | 31 => 61 | 9 => 9 | 3 => 3 | 4 => 4 | 0 => 0 | 20 => 20 | 72 => 104 | 76 => 108 | 70 => 102 | 37 => 24 | 75 => 107 | 127 => 131 | 164 => 151 | 5 => 5 | 80 => 110 | n => n, fun | n => n⟩
theorem Tryz.layJoin : Go.Proofs.Lays.n156 Tryz.prog Tryz.layJoin_ren := {
  mixed := by kernel_rfl
  f156 := Tryz.func44.trans (congrArg some (by kernel_rfl))
  f165 := Tryz.func69.trans (congrArg some (by kernel_rfl))
  f166 := Tryz.func70.trans (congrArg some (by kernel_rfl))
  f169 := Tryz.func71.trans (congrArg some (by kernel_rfl))
  f240 := Tryz.func89.trans (congrArg some (by kernel_rfl))
  f241 := Tryz.func90.trans (congrArg some (by kernel_rfl))
  f276 := Tryz.func105.trans (congrArg some (by kernel_rfl))
  f277 := Tryz.func106.trans (congrArg some (by kernel_rfl))
  t0 := Tryz.underlying0
  a0 := Tryz.isAgg0
  z0 := Tryz.sizeOf0
  v0 := Tryz.zeroValue0
  t3 := Tryz.underlying3
  a3 := Tryz.isAgg3
  z3 := Tryz.sizeOf3
  v3 := Tryz.zeroValue3
  t4 := Tryz.underlying4
  a4 := Tryz.isAgg4
  z4 := Tryz.sizeOf4
  v4 := Tryz.zeroValue4
  t9 := Tryz.underlying9
  a9 := Tryz.isAgg9
  z9 := Tryz.sizeOf9
  v9 := Tryz.zeroValue9
  t20 := Tryz.underlying20
  a20 := Tryz.isAgg20
  z20 := Tryz.sizeOf20
  v20 := Tryz.zeroValue20
  t31 := Tryz.underlying61
  a31 := Tryz.isAgg61
  z31 := Tryz.sizeOf61
  v31 := Tryz.zeroValue61
  t37 := Tryz.underlying24
  a37 := Tryz.isAgg24
  z37 := Tryz.sizeOf24
  v37 := Tryz.zeroValue24
  t70 := Tryz.underlying102
  a70 := Tryz.isAgg102
  z70 := Tryz.sizeOf102
  v70 := Tryz.zeroValue102
  t72 := Tryz.underlying104
  a72 := Tryz.isAgg104
  z72 := Tryz.sizeOf104
  v72 := Tryz.zeroValue104
  t75 := Tryz.underlying107
  a75 := Tryz.isAgg107
  z75 := Tryz.sizeOf107
  v75 := Tryz.zeroValue107
  t76 := Tryz.underlying108
  a76 := Tryz.isAgg108
  z76 := Tryz.sizeOf108
  v76 := Tryz.zeroValue108
  t127 := Tryz.underlying131
  a127 := Tryz.isAgg131
  z127 := Tryz.sizeOf131
  v127 := Tryz.zeroValue131
  t164 := Tryz.underlying151
  a164 := Tryz.isAgg151
  z164 := Tryz.sizeOf151
  v164 := Tryz.zeroValue151 }
end Go.Proofs
end
section
namespace Go.Proofs.YtifgpigicgaadaaGreatDoor.Q
open Go.RowKit Go.Proofs.YtifgpigicgaadaaGreatDoorH Go.Proofs.YtifgpigicgaadaaGreatDoorW.PrintWords Go.Proofs.YtifgpigicgaadaaGreatDoorW.PrintLast Go.Proofs.YtifgpigicgaadaaGreatDoorW.PrintMore
attribute [local go_sem] max2_int min2_int max_two min_two max_three min_three max_four min_four
set_option linter.unusedVariables false
set_option linter.unusedSimpArgs false
section
/-! ### strings_Join: function 44 -/
theorem strings_Join.extra : Builder.Extra Tryz.prog Tryz.layJoin_ren where
 sizeBuilder := by kernel_rfl
 liesBuilder := by kernel_rfl
 t5 := Tryz.underlying5
 a5 := Tryz.isAgg5
 z5 := Tryz.sizeOf5
 v5 := Tryz.zeroValue5
 infoByte := by kernel_rfl
 cellsByte := by kernel_rfl
 sizeByte := by kernel_rfl
 neB5 := by decide
/-- Of texts that are not too many, and not too long together (nothing at others). -/
def strings_Join.f (l0 : List ByteArray) (a1 : ByteArray) : Option ByteArray := if l0.length ≤ 140737488355328 ∧ (Lib.join (l0.map (·.data.toList)) a1.data.toList).length ≤ 140737488355328 then some ⟨(Lib.join (l0.map (·.data.toList)) a1.data.toList).toArray⟩ else none
theorem strings_Join.calls (A0 : Option Addr) (c0 : Nat) (l0 : List ByteArray) (a1 : ByteArray) (r : ByteArray) (w : World) (hr0 : Kd.C Kd.string w A0 l0.length l0) (hc0 : l0.length ≤ c0) (h : strings_Join.f l0 a1 = some r) :
 Calls Tryz.prog 44 #[.slice A0 l0.length c0,.string a1] w fun e w' => e = .returned (.string r) ∧ Below w.heap.size w w' := by
 unfold strings_Join.f at h
 by_cases hk : l0.length ≤ 140737488355328 ∧ (Lib.join (l0.map (·.data.toList)) a1.data.toList).length ≤ 140737488355328
 · rw [if_pos hk] at h
   obtain rfl := Option.some.inj h
   by_cases h0 : l0.length = 0
   · obtain rfl := List.length_eq_zero_iff.1 h0
     refine (Any.strings_Join_none Tryz.layJoin strings_Join.extra A0 c0 a1 w).mono fun e w' hw => ?_
     exact ⟨hw.1,hw.2 ▸ Below.refl _ _⟩
   · obtain ⟨ad,rfl,hc⟩ := Kd.at_string hr0 0 (by omega) (by omega)
     have hsp := World.cell?_spot hc
     obtain ⟨bk,o,spot⟩ := ad
     obtain rfl : spot = none := by simpa [Addr.add] using hsp
     refine Any.strings_Join Tryz.layJoin strings_Join.extra bk o c0 l0 a1 w (fun j x hx => ?_) ?_ hk.1 hc0 hk.2
     · have hj := (List.getElem?_eq_some_iff.1 hx).1
       obtain ⟨ad2,e2,h2⟩ := Kd.at_string hr0 (j : Int) (by omega) (by omega)
       obtain rfl := Option.some.inj e2
       rw [Addr.add_lit,Int.toNat_natCast] at h2
       rw [h2]
       unfold rdOf
       rw [Int.toNat_natCast,List.getD_eq_getElem?_getD,hx]
       rfl
     · have := World.block_lt_of_cell? w _ hc
       simpa [Addr.add] using this
 · rw [if_neg hk] at h; cases h
end
section
/-! ### lexer_Spell: function 24 -/
mutual
def lexer_Spell.l0 : Nat → List ByteArray → List (S43) → Int → Int → Option (ByteArray)
 | 0,_,_,_,_ => none
 | k + 1,x3,x6,x7,x8 => if x8 < x7 then (if 0 ≤ x8 then (if x8 < (x6.length : Int) then (if ((rd_T43 x6 x8).f0) = 1 then (lexer_Spell.j1 k x3 x6 x7 x8 ((rd_T43 x6 x8).f0) (((rd_T43 x6 x8).f0) == 1) ((rd_T43 x6 x8).f0) ((rd_T43 x6 x8).f1) ((rd_T43 x6 x8).f2)) else (lexer_Spell.j1 k x3 x6 x7 x8 ((rd_T43 x6 x8).f0) (((rd_T43 x6 x8).f0) == 4) ((rd_T43 x6 x8).f0) ((rd_T43 x6 x8).f1) ((rd_T43 x6 x8).f2))) else (none)) else (none)) else ((strings_Join.f x3 (⟨#[32]⟩ : ByteArray)).bind fun t443 => (some t443))
def lexer_Spell.j1 : Nat → List ByteArray → List (S43) → Int → Int → Int → Bool → Int → ByteArray → Int → Option (ByteArray)
 | 0,_,_,_,_,_,_,_,_,_ => none
 | k + 1,x3,x6,x7,x8,x13,x14,x446000,x446001,x446002 => if x14 = true then (if x3.length < 8796093022208 then (lexer_Spell.l0 k (x3 ++ [x446001]) x6 x7 (wrap64 (x8 + 1))) else (none)) else (if x13 = 2 then ((chars_Text.f x446002).bind fun t449 => (if x3.length < 8796093022208 then (lexer_Spell.l0 k (x3 ++ [t449]) x6 x7 (wrap64 (x8 + 1))) else (none))) else (if x13 = 3 then ((value_Text.f x446001).bind fun bt453 => ((value_Print.f bt453.1 bt453.2.1 bt453.2.2.1 bt453.2.2.2).bind fun t457 => (if x3.length < 8796093022208 then (lexer_Spell.l0 k (x3 ++ [t457]) x6 x7 (wrap64 (x8 + 1))) else (none)))) else (lexer_Spell.l0 k x3 x6 x7 (wrap64 (x8 + 1)))))
end
def lexer_Spell.f (k : Nat) (l0 : List (S43)) : Option (ByteArray) := lexer_Spell.l0 k ([] : List ByteArray) l0 (l0.length : Int) 0
set_option maxHeartbeats 8000000 in
set_option maxRecDepth 100000 in
theorem lexer_Spell.calls (k : Nat) (A0 : Option Addr) (c0 : Nat) (l0 : List (S43)) (r : ByteArray) (w : World) (hr0 : Kd.C k43 w A0 l0.length l0) (hc0 : l0.length ≤ c0) (h : lexer_Spell.f k l0 = some r) :
 Calls Tryz.prog 24 #[.slice A0 l0.length c0] w fun e w' => e = .returned (.string r) ∧ Below w.heap.size w w' := by
 have hu43 := Tryz.underlying43
 have HR0 := Aside0.mk hr0
 have HC0 := Aside0.mk hc0
 clear hr0 hc0
 have HB := Aside0.mk (Below.refl w.heap.size w)
 have H : (lexer_Spell.l0 k ([] : List ByteArray) l0 (l0.length : Int) 0) = some r := h
 clear h
 have H' := Aside0.mk H
 clear H
 go_enter Tryz.func24,Tryz.ntmps24
 go_wp2
 go_loopg [3,8] k (fun kq v3 v8 w' => ∃ (x3_1 : List ByteArray) (x8_1 : Int),v8 = .int .i64 x8_1 ∧ Aside0 (lexer_Spell.l0 kq x3_1 l0 (l0.length : Int) x8_1 = some r) ∧ Aside0 (kq ≤ k) ∧ Aside0 (Kd.R Kd.string 9 w' w.heap.size (fun _ => True) v3 x3_1) ∧ Aside0 (Below w.heap.size w w'))
 case atStart => exact ⟨(([] : List ByteArray)),(0),(by first | rfl | (simp; done) | (simp [*]; done)),H',⟨Nat.le_refl _⟩,⟨by first | exact Kd.R_nil _ _ _ _ _ | exact Kd.N_nil _ _ _ _ _ | exact Kd.V_nil _ _ _ _ _ | exact Kd.Q_nil _ _ _ _ _ | exact Kd.S_nil _ _ _ _ _⟩,⟨by repeat (first | (with_reducible first | exact HB.out | apply below_alloc | apply pw_below_drewN | apply below_drew1 | apply bytes_below1) | exact HB.out)⟩⟩
 case round =>
  clear H'
  obtain ⟨x3_1,x8_1,rfl,HA,HK1,HO_3,HB⟩ := hrel
  cases gk with
  | zero => exact absurd HA.out (by simp [lexer_Spell.l0])
  | succ k1 =>
   have H := HA.out
   clear HA
   simp only [lexer_Spell.l0] at H
   by_cases c2 : x8_1 < (l0.length : Int)
   · rw [if_pos c2] at H
     have c2b0 : decide (x8_1 < (l0.length : Int)) = true := decide_eq_true c2
     clear c2
     by_cases c3 : 0 ≤ x8_1
     · rw [if_pos c3] at H
       have c3b0 : decide (0 ≤ x8_1) = true := decide_eq_true c3
       clear c3
       by_cases c4 : x8_1 < (l0.length : Int)
       · rw [if_pos c4] at H
         have c4b0 : decide (x8_1 < (l0.length : Int)) = true := decide_eq_true c4
         clear c4
         have HC5 := Aside0.mk H
         clear H
         have p444 : 0 ≤ (x8_1 : Int) := of_decide_eq_true (by first | (with_reducible assumption) | assumption)
         have q444 : x8_1 < (l0.length : Int) := of_decide_eq_true (by first | (with_reducible assumption) | assumption)
         obtain ⟨ad444,e444,hx444_0,hx444_1,hx444_2⟩ := at_T43 HR0.out x8_1 p444 q444
         cases e444
         replace hx444_0 := (HB.out.cell (World.block_lt_of_cell? w _ hx444_0)).trans hx444_0
         replace hx444_1 := (HB.out.cell (World.block_lt_of_cell? w _ hx444_1)).trans hx444_1
         replace hx444_2 := (HB.out.cell (World.block_lt_of_cell? w _ hx444_2)).trans hx444_2
         replace p444 := eq_true p444
         replace q444 := eq_true q444
         go_upto_if 14 with (first | ((with_reducible refine gate_dst (N := 5) rfl ?_); refine box_event ?hg (N := 5) ?hd (cs := #[.int .i64 0,.string (⟨#[]⟩ : ByteArray),.int .i64 0]) (t := 43) ?hr ?_; (case hd => rfl); (case hg => rfl); (case hr => first | (go_simp; done) | (go_simp; rfl)); intro gb445 hg w6 hbox hb; have n0_ := Aside0.mk (Kd.R_below (by (with_reducible repeat (first | apply Kd.R_alloc | apply R_bytes | apply Kd.R_drewN | apply Kd.R_drew)); exact HO_3.out) hb); have n1_ := Aside0.mk (below_step (by repeat (first | (with_reducible first | exact HB.out | apply below_alloc | apply pw_below_drewN | apply below_drew1 | apply bytes_below1) | exact HB.out)) hb); have n2_ := Aside0.mk (hbox); have n3_ := Aside0.mk ((by rw [hg]; exact (below_size (by repeat (first | (with_reducible first | exact HB.out | apply below_alloc | apply pw_below_drewN | apply below_drew1 | apply bytes_below1) | exact HB.out))) : w.heap.size ≤ gb445)); have n4_ := Aside0.mk ((by rw [hg]; exact (below_size (by repeat (first | (with_reducible first | exact HB.out | apply below_alloc | apply pw_below_drewN | apply below_drew1 | apply bytes_below1) | exact HB.out))) : w.heap.size ≤ gb445)); clear HO_3; clear HB; have HO_3 := n0_; have HB := n1_; have BK445 := n2_; have GW445 := n3_; have GE445 := n4_; clear n0_ n1_ n2_ n3_ n4_; clear hb hbox hg; have hcz7_0 : w6.cell? ⟨gb445,0,none⟩ = some (.int .i64 0) := (blk_cell BK445.out 0).trans rfl; have hcz7_1 : w6.cell? ⟨gb445,1,none⟩ = some (.string (⟨#[]⟩ : ByteArray)) := (blk_cell BK445.out 1).trans rfl; have hcz7_2 : w6.cell? ⟨gb445,2,none⟩ = some (.int .i64 0) := (blk_cell BK445.out 2).trans rfl; have hfz7_0 := blk_frozen BK445.out 0; have hfz7_1 := blk_frozen BK445.out 1; have hfz7_2 := blk_frozen BK445.out 2))
         (try simp only [Act.put,List.setIfInBounds_toArray,List.set_cons_zero,List.set_cons_succ])
         go_cut [14] (fun v14 wc => ∃ (kq : Nat) (x14_4 : Bool),v14 = .bool x14_4 ∧ Aside0 (lexer_Spell.j1 kq x3_1 l0 (l0.length : Int) x8_1 ((rd_T43 l0 x8_1).f0) x14_4 ((rd_T43 l0 x8_1).f0) ((rd_T43 l0 x8_1).f1) ((rd_T43 l0 x8_1).f2) = some r) ∧ Aside0 (kq ≤ k1) ∧ Aside0 (Kd.R Kd.string 9 wc w.heap.size (fun _ => True) u3 x3_1) ∧ Aside0 (wc.heap[gb445]? = some (.cells #[.int .i64 ((rd_T43 l0 x8_1).f0),.string ((rd_T43 l0 x8_1).f1),.int .i64 ((rd_T43 l0 x8_1).f2)] 43 (0,0))) ∧ Aside0 (Below w.heap.size w wc))
         case first =>
          have H := HC5.out
          clear HC5
          by_cases c8 : ((rd_T43 l0 x8_1).f0) = 1
          · rw [if_pos c8] at H
            have c8b0 : (((rd_T43 l0 x8_1).f0) == 1) = true := beq_iff_eq.mpr c8
            have c8b1 : (((rd_T43 l0 x8_1).f0) != 1) = false := bne_eq_false_iff_eq.mpr c8
            clear c8
            (first | rw [c8b0] | (simp only [i64_w,i32_w]; rw [c8b0]) | skip)
            have H' := Aside0.mk H
            clear H
            go_wp2
            go_meet
            case rel => exact ⟨_,((((rd_T43 l0 x8_1).f0) == 1)),(by first | rfl | (simp; done) | (simp [*]; done)),H',⟨by have := HK1.out; first | omega | exact Nat.le_refl _⟩,⟨by (with_reducible repeat (first | apply Kd.R_alloc | apply R_bytes | apply Kd.R_drewN | apply Kd.R_drew)); exact Kd.R_mono (Kd.R_far (p := ⟨gb445,2,none⟩) (Kd.R_far (p := ⟨gb445,1,none⟩) (Kd.R_far (p := ⟨gb445,0,none⟩) (Kd.R_types HO_3.out BK445.out (by decide)) (fun _ hk => hk.2) (.int .i64 ((rd_T43 l0 x8_1).f0))) (fun _ hk => hk.2) (.string ((rd_T43 l0 x8_1).f1))) (fun _ hk => hk.2) (.int .i64 ((rd_T43 l0 x8_1).f2))) (fun _ hk => trivial)⟩,⟨by (with_reducible repeat (first | refine blk_bytes ?_ _ _ | refine blk_drewN ?_ _ | refine blk_drew ?_ | refine blk_alloc ?_ _)); refine blk_put (cs := #[.int .i64 ((rd_T43 l0 x8_1).f0),.string ((rd_T43 l0 x8_1).f1),.int .i64 0]) ?_ 2 _ rfl; (with_reducible repeat (first | refine blk_bytes ?_ _ _ | refine blk_drewN ?_ _ | refine blk_drew ?_ | refine blk_alloc ?_ _)); refine blk_put (cs := #[.int .i64 ((rd_T43 l0 x8_1).f0),.string (⟨#[]⟩ : ByteArray),.int .i64 0]) ?_ 1 _ rfl; (with_reducible repeat (first | refine blk_bytes ?_ _ _ | refine blk_drewN ?_ _ | refine blk_drew ?_ | refine blk_alloc ?_ _)); refine blk_put (cs := #[.int .i64 0,.string (⟨#[]⟩ : ByteArray),.int .i64 0]) ?_ 0 _ rfl; (with_reducible repeat (first | refine blk_bytes ?_ _ _ | refine blk_drewN ?_ _ | refine blk_drew ?_ | refine blk_alloc ?_ _)); exact BK445.out⟩,⟨by repeat (first | (with_reducible first | exact HB.out | apply below_alloc | apply pw_below_drewN | apply below_drew1 | apply bytes_below1 | refine below_set ?_ GE445.out) | exact HB.out)⟩⟩
          · rw [if_neg c8] at H
            have c8b0 : (((rd_T43 l0 x8_1).f0) == 1) = false := beq_eq_false_iff_ne.mpr c8
            have c8b1 : (((rd_T43 l0 x8_1).f0) != 1) = true := bne_iff_ne.mpr c8
            (first | rw [c8b0] | (simp only [i64_w,i32_w]; rw [c8b0]) | skip)
            have H' := Aside0.mk H
            clear H
            go_wp2
            go_meet
            case rel => exact ⟨_,((((rd_T43 l0 x8_1).f0) == 4)),(by first | rfl | (simp; done) | (simp [*]; done)),H',⟨by have := HK1.out; first | omega | exact Nat.le_refl _⟩,⟨by (with_reducible repeat (first | apply Kd.R_alloc | apply R_bytes | apply Kd.R_drewN | apply Kd.R_drew)); exact Kd.R_mono (Kd.R_far (p := ⟨gb445,2,none⟩) (Kd.R_far (p := ⟨gb445,1,none⟩) (Kd.R_far (p := ⟨gb445,0,none⟩) (Kd.R_types HO_3.out BK445.out (by decide)) (fun _ hk => hk.2) (.int .i64 ((rd_T43 l0 x8_1).f0))) (fun _ hk => hk.2) (.string ((rd_T43 l0 x8_1).f1))) (fun _ hk => hk.2) (.int .i64 ((rd_T43 l0 x8_1).f2))) (fun _ hk => trivial)⟩,⟨by (with_reducible repeat (first | refine blk_bytes ?_ _ _ | refine blk_drewN ?_ _ | refine blk_drew ?_ | refine blk_alloc ?_ _)); refine blk_put (cs := #[.int .i64 ((rd_T43 l0 x8_1).f0),.string ((rd_T43 l0 x8_1).f1),.int .i64 0]) ?_ 2 _ rfl; (with_reducible repeat (first | refine blk_bytes ?_ _ _ | refine blk_drewN ?_ _ | refine blk_drew ?_ | refine blk_alloc ?_ _)); refine blk_put (cs := #[.int .i64 ((rd_T43 l0 x8_1).f0),.string (⟨#[]⟩ : ByteArray),.int .i64 0]) ?_ 1 _ rfl; (with_reducible repeat (first | refine blk_bytes ?_ _ _ | refine blk_drewN ?_ _ | refine blk_drew ?_ | refine blk_alloc ?_ _)); refine blk_put (cs := #[.int .i64 0,.string (⟨#[]⟩ : ByteArray),.int .i64 0]) ?_ 0 _ rfl; (with_reducible repeat (first | refine blk_bytes ?_ _ _ | refine blk_drewN ?_ _ | refine blk_drew ?_ | refine blk_alloc ?_ _)); exact BK445.out⟩,⟨by repeat (first | (with_reducible first | exact HB.out | apply below_alloc | apply pw_below_drewN | apply below_drew1 | apply bytes_below1 | refine below_set ?_ GE445.out) | exact HB.out)⟩⟩
         case rest =>
          clear HC5
          try clear c2
          try clear c2b0
          try clear p2
          try clear c3
          try clear c3b0
          try clear c4
          try clear c4b0
          try clear p4
          try clear q4
          try clear hx4
          try clear c8
          try clear c8b0
          try clear c8b1
          try clear hcz7_0
          try clear hcz7_1
          try clear hcz7_2
          try clear hfz7_0
          try clear hfz7_1
          try clear hfz7_2
          try clear hx444_0
          try clear hx444_1
          try clear hx444_2
          try clear p444
          try clear q444
          obtain ⟨kq,x14_4,rfl,HA,HJ4,HO_3,BK445,HB⟩ := hcut
          cases kq with
          | zero => exact absurd HA.out (by simp [lexer_Spell.j1])
          | succ kj4 =>
           have H := HA.out
           clear HA
           simp only [lexer_Spell.j1] at H
           by_cases c9 : x14_4 = true
           · subst c9
             have H1 : (if x3_1.length < 8796093022208 then (lexer_Spell.l0 kj4 (x3_1 ++ [((rd_T43 l0 x8_1).f1)]) l0 (l0.length : Int) (wrap64 (x8_1 + 1))) else (none)) = some r := by rw [if_pos rfl] at H; exact H
             clear H
             have H := H1
             clear H1
             by_cases c10 : x3_1.length < 8796093022208
             · rw [if_pos c10] at H
               have LMc10 := Aside0.mk c10
               clear c10
               obtain ⟨y446,hy446⟩ : ∃ y_ : List ByteArray,y_ = (x3_1 ++ [((rd_T43 l0 x8_1).f1)]) := ⟨_,rfl⟩
               replace H : (lexer_Spell.l0 kj4 y446 l0 (l0.length : Int) (wrap64 (x8_1 + 1))) = some r := by first | (rw [hy446]; with_reducible exact H) | (have H2_ := (Option.bind_some _ _).symm.trans H; rw [hy446]; with_reducible exact H2_) | (have H2_ := (Option.bind_some _ _).symm.trans H; with_reducible exact H2_) | with_reducible exact H | (rw [hy446]; exact H) | exact H
               have Ny446 := Aside0.mk hy446
               clear hy446
               have H' := Aside0.mk H
               clear H
               have hcz11_0 : wc.cell? ⟨gb445,0,none⟩ = some (.int .i64 ((rd_T43 l0 x8_1).f0)) := (blk_cell BK445.out 0).trans rfl
               have hcz11_1 : wc.cell? ⟨gb445,1,none⟩ = some (.string ((rd_T43 l0 x8_1).f1)) := (blk_cell BK445.out 1).trans rfl
               have hcz11_2 : wc.cell? ⟨gb445,2,none⟩ = some (.int .i64 ((rd_T43 l0 x8_1).f2)) := (blk_cell BK445.out 2).trans rfl
               have hfz11_0 := blk_frozen BK445.out 0
               have hfz11_1 := blk_frozen BK445.out 1
               have hfz11_2 := blk_frozen BK445.out 2
               go_wp2_with (first | ((with_reducible refine gate_builtin (b := .append) (xs := #[.tmp 17,.tmp 20]) rfl ?_); at_builtin; refine Kd.R_append Kd.string (w0 := w) w.heap.size rfl (.tmp 17) (.tmp 20) 61 9 (.string ⟨#[]⟩) 16 rfl Tryz.underlying61 info9 rfl (by decide) (by omega) u3 x3_1 ((rd_T43 l0 x8_1).f1) [.string ((rd_T43 l0 x8_1).f1)] (fun _ => True) (fun _ => False) rfl rfl ?aP (fun _ hk => hk.elim) ?aF ?aO ?aB ?aS ?aL ?_; (case aP => exact rfl); (case aB => exact (by repeat (first | (with_reducible first | exact HB.out | apply below_alloc | apply pw_below_drewN | apply below_drew1 | apply bytes_below1 | refine below_set ?_ GE445.out) | exact HB.out))); (case aF => exact (fun _ _ => trivial)); (case aO => exact (by (with_reducible repeat (first | apply Kd.R_alloc | apply R_bytes | apply Kd.R_drewN | apply Kd.R_drew)); exact HO_3.out)); (case aS => exact (below_size (by repeat (first | (with_reducible first | exact HB.out | apply below_alloc | apply pw_below_drewN | apply below_drew1 | apply bytes_below1 | refine below_set ?_ GE445.out) | exact HB.out)))); (case aL => have := LMc10.out; omega); intro v447 w12 ho hb hg hat; rw [← Ny446.out] at ho; have n0_ := Aside0.mk (blk_grown (g := gb445) (o := .cells #[.int .i64 ((rd_T43 l0 x8_1).f0),.string ((rd_T43 l0 x8_1).f1),.int .i64 ((rd_T43 l0 x8_1).f2)] 43 (0,0)) (by (with_reducible repeat (first | refine blk_bytes ?_ _ _ | refine blk_drewN ?_ _ | refine blk_drew ?_ | refine blk_alloc ?_ _)); exact BK445.out) hg (Kd.R_ne HO_3.out BK445.out (by decide))); have n1_ := Aside0.mk (hb); have n2_ := Aside0.mk (ho); clear BK445; clear HB; clear HO_3; have BK445 := n0_; have HB := n1_; have HO448 := n2_; clear n0_ n1_ n2_; clear ho hb hg hat))
               go_roundg kj4
               case measure => have := HK1.out; have := HJ4.out; omega
               case rel => exact ⟨(y446),(wrap64 (x8_1 + 1)),(by first | rfl | (simp; done) | (simp [*]; done)),H',⟨by have := HK1.out; have := HJ4.out; omega⟩,⟨by (with_reducible repeat (first | apply Kd.R_alloc | apply R_bytes | apply Kd.R_drewN | apply Kd.R_drew)); exact HO448.out⟩,⟨by repeat (first | (with_reducible first | exact HB.out | apply below_alloc | apply pw_below_drewN | apply below_drew1 | apply bytes_below1 | refine below_set ?_ GE445.out) | exact HB.out)⟩⟩
             · rw [if_neg c10] at H
               exact absurd H (by simp)
           · replace c9 := Bool.eq_false_iff.mpr c9
             subst c9
             have H1 : (if ((rd_T43 l0 x8_1).f0) = 2 then ((chars_Text.f ((rd_T43 l0 x8_1).f2)).bind fun t449 => (if x3_1.length < 8796093022208 then (lexer_Spell.l0 kj4 (x3_1 ++ [t449]) l0 (l0.length : Int) (wrap64 (x8_1 + 1))) else (none))) else (if ((rd_T43 l0 x8_1).f0) = 3 then ((value_Text.f ((rd_T43 l0 x8_1).f1)).bind fun bt453 => ((value_Print.f bt453.1 bt453.2.1 bt453.2.2.1 bt453.2.2.2).bind fun t457 => (if x3_1.length < 8796093022208 then (lexer_Spell.l0 kj4 (x3_1 ++ [t457]) l0 (l0.length : Int) (wrap64 (x8_1 + 1))) else (none)))) else (lexer_Spell.l0 kj4 x3_1 l0 (l0.length : Int) (wrap64 (x8_1 + 1))))) = some r := by rw [if_neg (show ¬ (false = true) by decide)] at H; exact H
             clear H
             have H := H1
             clear H1
             by_cases c13 : ((rd_T43 l0 x8_1).f0) = 2
             · rw [if_pos c13] at H
               have c13b0 : (((rd_T43 l0 x8_1).f0) == 2) = true := beq_iff_eq.mpr c13
               have c13b1 : (((rd_T43 l0 x8_1).f0) != 2) = false := bne_eq_false_iff_eq.mpr c13
               clear c13
               replace H := Option.bind_eq_some_iff.mp H
               obtain ⟨t449,A140,H⟩ := H
               replace H : (if x3_1.length < 8796093022208 then (lexer_Spell.l0 kj4 (x3_1 ++ [t449]) l0 (l0.length : Int) (wrap64 (x8_1 + 1))) else (none)) = some r := H
               have A14 := Aside0.mk A140
               clear A140
               by_cases c15 : x3_1.length < 8796093022208
               · rw [if_pos c15] at H
                 have LMc15 := Aside0.mk c15
                 clear c15
                 obtain ⟨y450,hy450⟩ : ∃ y_ : List ByteArray,y_ = (x3_1 ++ [t449]) := ⟨_,rfl⟩
                 replace H : (lexer_Spell.l0 kj4 y450 l0 (l0.length : Int) (wrap64 (x8_1 + 1))) = some r := by first | (rw [hy450]; with_reducible exact H) | (have H2_ := (Option.bind_some _ _).symm.trans H; rw [hy450]; with_reducible exact H2_) | (have H2_ := (Option.bind_some _ _).symm.trans H; with_reducible exact H2_) | with_reducible exact H | (rw [hy450]; exact H) | exact H
                 have Ny450 := Aside0.mk hy450
                 clear hy450
                 have H' := Aside0.mk H
                 clear H
                 have hcz16_0 : wc.cell? ⟨gb445,0,none⟩ = some (.int .i64 ((rd_T43 l0 x8_1).f0)) := (blk_cell BK445.out 0).trans rfl
                 have hcz16_1 : wc.cell? ⟨gb445,1,none⟩ = some (.string ((rd_T43 l0 x8_1).f1)) := (blk_cell BK445.out 1).trans rfl
                 have hcz16_2 : wc.cell? ⟨gb445,2,none⟩ = some (.int .i64 ((rd_T43 l0 x8_1).f2)) := (blk_cell BK445.out 2).trans rfl
                 have hfz16_0 := blk_frozen BK445.out 0
                 have hfz16_1 := blk_frozen BK445.out 1
                 have hfz16_2 := blk_frozen BK445.out 2
                 go_wp2_with (first | ((with_reducible refine gate_callee (f := 34) rfl ?_); refine goesL_ (some 27) rfl rfl Tryz.func34 (by kernel_rfl) rfl #[.int .i64 ((rd_T43 l0 x8_1).f2)] rfl (by (try simp only [List.map_toArray,List.map_cons,List.map_nil]); first | done | rfl | (simp only [List.length_drop,List.length_take]; rfl)) ?_; (with_reducible refine (chars_Text.calls ((rd_T43 l0 x8_1).f2) t449 _ A14.out).mono ?_); rintro e w17 ⟨rfl,hb⟩; refine ⟨_,rfl,?_⟩; have n0_ := Aside0.mk (Kd.R_below (by (with_reducible repeat (first | apply Kd.R_alloc | apply R_bytes | apply Kd.R_drewN | apply Kd.R_drew)); exact HO_3.out) hb); have n1_ := Aside0.mk (blk_below (g := gb445) (o := .cells #[.int .i64 ((rd_T43 l0 x8_1).f0),.string ((rd_T43 l0 x8_1).f1),.int .i64 ((rd_T43 l0 x8_1).f2)] 43 (0,0)) (by (with_reducible repeat (first | refine blk_bytes ?_ _ _ | refine blk_drewN ?_ _ | refine blk_drew ?_ | refine blk_alloc ?_ _)); exact BK445.out) hb); have n2_ := Aside0.mk (below_step (by repeat (first | (with_reducible first | exact HB.out | apply below_alloc | apply pw_below_drewN | apply below_drew1 | apply bytes_below1 | refine below_set ?_ GE445.out) | exact HB.out)) hb); clear HO_3; clear BK445; clear HB; have HO_3 := n0_; have BK445 := n1_; have HB := n2_; clear n0_ n1_ n2_; (try clear hb); (try clear hb2); (try clear hk); (try clear hi)) | ((with_reducible refine gate_builtin (b := .append) (xs := #[.tmp 24,.tmp 28]) rfl ?_); at_builtin; refine Kd.R_append Kd.string (w0 := w) w.heap.size rfl (.tmp 24) (.tmp 28) 61 9 (.string ⟨#[]⟩) 16 rfl Tryz.underlying61 info9 rfl (by decide) (by omega) u3 x3_1 t449 [.string t449] (fun _ => True) (fun _ => False) rfl rfl ?aP (fun _ hk => hk.elim) ?aF ?aO ?aB ?aS ?aL ?_; (case aP => exact rfl); (case aB => exact (by repeat (first | (with_reducible first | exact HB.out | apply below_alloc | apply pw_below_drewN | apply below_drew1 | apply bytes_below1 | refine below_set ?_ GE445.out) | exact HB.out))); (case aF => exact (fun _ _ => trivial)); (case aO => exact (by (with_reducible repeat (first | apply Kd.R_alloc | apply R_bytes | apply Kd.R_drewN | apply Kd.R_drew)); exact HO_3.out)); (case aS => exact (below_size (by repeat (first | (with_reducible first | exact HB.out | apply below_alloc | apply pw_below_drewN | apply below_drew1 | apply bytes_below1 | refine below_set ?_ GE445.out) | exact HB.out)))); (case aL => have := LMc15.out; omega); intro v451 w18 ho hb hg hat; rw [← Ny450.out] at ho; have n0_ := Aside0.mk (blk_grown (g := gb445) (o := .cells #[.int .i64 ((rd_T43 l0 x8_1).f0),.string ((rd_T43 l0 x8_1).f1),.int .i64 ((rd_T43 l0 x8_1).f2)] 43 (0,0)) (by (with_reducible repeat (first | refine blk_bytes ?_ _ _ | refine blk_drewN ?_ _ | refine blk_drew ?_ | refine blk_alloc ?_ _)); exact BK445.out) hg (Kd.R_ne HO_3.out BK445.out (by decide))); have n1_ := Aside0.mk (hb); have n2_ := Aside0.mk (ho); clear BK445; clear HB; clear HO_3; have BK445 := n0_; have HB := n1_; have HO452 := n2_; clear n0_ n1_ n2_; clear ho hb hg hat))
                 go_roundg kj4
                 case measure => have := HK1.out; have := HJ4.out; omega
                 case rel => exact ⟨(y450),(wrap64 (x8_1 + 1)),(by first | rfl | (simp; done) | (simp [*]; done)),H',⟨by have := HK1.out; have := HJ4.out; omega⟩,⟨by (with_reducible repeat (first | apply Kd.R_alloc | apply R_bytes | apply Kd.R_drewN | apply Kd.R_drew)); exact HO452.out⟩,⟨by repeat (first | (with_reducible first | exact HB.out | apply below_alloc | apply pw_below_drewN | apply below_drew1 | apply bytes_below1 | refine below_set ?_ GE445.out) | exact HB.out)⟩⟩
               · rw [if_neg c15] at H
                 exact absurd H (by simp)
             · rw [if_neg c13] at H
               have c13b0 : (((rd_T43 l0 x8_1).f0) == 2) = false := beq_eq_false_iff_ne.mpr c13
               have c13b1 : (((rd_T43 l0 x8_1).f0) != 2) = true := bne_iff_ne.mpr c13
               by_cases c19 : ((rd_T43 l0 x8_1).f0) = 3
               · rw [if_pos c19] at H
                 have c19b0 : (((rd_T43 l0 x8_1).f0) == 3) = true := beq_iff_eq.mpr c19
                 have c19b1 : (((rd_T43 l0 x8_1).f0) != 3) = false := bne_eq_false_iff_eq.mpr c19
                 clear c19
                 replace H := Option.bind_eq_some_iff.mp H
                 obtain ⟨⟨t453,t454,t455,t456⟩,A200,H⟩ := H
                 replace H : ((value_Print.f t453 t454 t455 t456).bind fun t457 => (if x3_1.length < 8796093022208 then (lexer_Spell.l0 kj4 (x3_1 ++ [t457]) l0 (l0.length : Int) (wrap64 (x8_1 + 1))) else (none))) = some r := H
                 have A20 := Aside0.mk A200
                 clear A200
                 replace H := Option.bind_eq_some_iff.mp H
                 obtain ⟨t457,A210,H⟩ := H
                 replace H : (if x3_1.length < 8796093022208 then (lexer_Spell.l0 kj4 (x3_1 ++ [t457]) l0 (l0.length : Int) (wrap64 (x8_1 + 1))) else (none)) = some r := H
                 have A21 := Aside0.mk A210
                 clear A210
                 by_cases c22 : x3_1.length < 8796093022208
                 · rw [if_pos c22] at H
                   have LMc22 := Aside0.mk c22
                   clear c22
                   obtain ⟨y458,hy458⟩ : ∃ y_ : List ByteArray,y_ = (x3_1 ++ [t457]) := ⟨_,rfl⟩
                   replace H : (lexer_Spell.l0 kj4 y458 l0 (l0.length : Int) (wrap64 (x8_1 + 1))) = some r := by first | (rw [hy458]; with_reducible exact H) | (have H2_ := (Option.bind_some _ _).symm.trans H; rw [hy458]; with_reducible exact H2_) | (have H2_ := (Option.bind_some _ _).symm.trans H; with_reducible exact H2_) | with_reducible exact H | (rw [hy458]; exact H) | exact H
                   have Ny458 := Aside0.mk hy458
                   clear hy458
                   have H' := Aside0.mk H
                   clear H
                   have hcz23_0 : wc.cell? ⟨gb445,0,none⟩ = some (.int .i64 ((rd_T43 l0 x8_1).f0)) := (blk_cell BK445.out 0).trans rfl
                   have hcz23_1 : wc.cell? ⟨gb445,1,none⟩ = some (.string ((rd_T43 l0 x8_1).f1)) := (blk_cell BK445.out 1).trans rfl
                   have hcz23_2 : wc.cell? ⟨gb445,2,none⟩ = some (.int .i64 ((rd_T43 l0 x8_1).f2)) := (blk_cell BK445.out 2).trans rfl
                   have hfz23_0 := blk_frozen BK445.out 0
                   have hfz23_1 := blk_frozen BK445.out 1
                   have hfz23_2 := blk_frozen BK445.out 2
                   go_wp2_with (first | ((with_reducible refine gate_callee (f := 10) rfl ?_); refine goesL_ (some 35) rfl rfl Tryz.func10 (by kernel_rfl) rfl #[.string ((rd_T43 l0 x8_1).f1)] rfl (by (try simp only [List.map_toArray,List.map_cons,List.map_nil]); first | done | rfl | (simp only [List.length_drop,List.length_take]; rfl)) ?_; (with_reducible refine (value_Text.calls ((rd_T43 l0 x8_1).f1) t453 t454 t455 t456 _ A20.out).mono ?_); rintro e w24 ⟨rfl,hb⟩; refine ⟨_,rfl,?_⟩; have n0_ := Aside0.mk (Kd.R_below (by (with_reducible repeat (first | apply Kd.R_alloc | apply R_bytes | apply Kd.R_drewN | apply Kd.R_drew)); exact HO_3.out) hb); have n1_ := Aside0.mk (blk_below (g := gb445) (o := .cells #[.int .i64 ((rd_T43 l0 x8_1).f0),.string ((rd_T43 l0 x8_1).f1),.int .i64 ((rd_T43 l0 x8_1).f2)] 43 (0,0)) (by (with_reducible repeat (first | refine blk_bytes ?_ _ _ | refine blk_drewN ?_ _ | refine blk_drew ?_ | refine blk_alloc ?_ _)); exact BK445.out) hb); have n2_ := Aside0.mk (below_step (by repeat (first | (with_reducible first | exact HB.out | apply below_alloc | apply pw_below_drewN | apply below_drew1 | apply bytes_below1 | refine below_set ?_ GE445.out) | exact HB.out)) hb); clear HO_3; clear BK445; clear HB; have HO_3 := n0_; have BK445 := n1_; have HB := n2_; clear n0_ n1_ n2_; (try clear hb); (try clear hb2); (try clear hk); (try clear hi)) | ((with_reducible refine gate_callee (f := 18) rfl ?_); refine goesL_ (some 36) rfl rfl Tryz.func18 (by kernel_rfl) rfl #[.agg #[.int .i64 t453,.int .i64 t454,.bool t455,.string t456]] rfl (by (try simp only [List.map_toArray,List.map_cons,List.map_nil]); first | done | rfl | (simp only [List.length_drop,List.length_take]; rfl)) ?_; (with_reducible refine (value_Print.calls t453 t454 t455 t456 t457 _ A21.out).mono ?_); rintro e w25 ⟨rfl,hb⟩; refine ⟨_,rfl,?_⟩; have n0_ := Aside0.mk (Kd.R_below (by (with_reducible repeat (first | apply Kd.R_alloc | apply R_bytes | apply Kd.R_drewN | apply Kd.R_drew)); exact HO_3.out) hb); have n1_ := Aside0.mk (blk_below (g := gb445) (o := .cells #[.int .i64 ((rd_T43 l0 x8_1).f0),.string ((rd_T43 l0 x8_1).f1),.int .i64 ((rd_T43 l0 x8_1).f2)] 43 (0,0)) (by (with_reducible repeat (first | refine blk_bytes ?_ _ _ | refine blk_drewN ?_ _ | refine blk_drew ?_ | refine blk_alloc ?_ _)); exact BK445.out) hb); have n2_ := Aside0.mk (below_step (by repeat (first | (with_reducible first | exact HB.out | apply below_alloc | apply pw_below_drewN | apply below_drew1 | apply bytes_below1 | refine below_set ?_ GE445.out) | exact HB.out)) hb); clear HO_3; clear BK445; clear HB; have HO_3 := n0_; have BK445 := n1_; have HB := n2_; clear n0_ n1_ n2_; (try clear hb); (try clear hb2); (try clear hk); (try clear hi)) | ((with_reducible refine gate_builtin (b := .append) (xs := #[.tmp 32,.tmp 37]) rfl ?_); at_builtin; refine Kd.R_append Kd.string (w0 := w) w.heap.size rfl (.tmp 32) (.tmp 37) 61 9 (.string ⟨#[]⟩) 16 rfl Tryz.underlying61 info9 rfl (by decide) (by omega) u3 x3_1 t457 [.string t457] (fun _ => True) (fun _ => False) rfl rfl ?aP (fun _ hk => hk.elim) ?aF ?aO ?aB ?aS ?aL ?_; (case aP => exact rfl); (case aB => exact (by repeat (first | (with_reducible first | exact HB.out | apply below_alloc | apply pw_below_drewN | apply below_drew1 | apply bytes_below1 | refine below_set ?_ GE445.out) | exact HB.out))); (case aF => exact (fun _ _ => trivial)); (case aO => exact (by (with_reducible repeat (first | apply Kd.R_alloc | apply R_bytes | apply Kd.R_drewN | apply Kd.R_drew)); exact HO_3.out)); (case aS => exact (below_size (by repeat (first | (with_reducible first | exact HB.out | apply below_alloc | apply pw_below_drewN | apply below_drew1 | apply bytes_below1 | refine below_set ?_ GE445.out) | exact HB.out)))); (case aL => have := LMc22.out; omega); intro v459 w26 ho hb hg hat; rw [← Ny458.out] at ho; have n0_ := Aside0.mk (blk_grown (g := gb445) (o := .cells #[.int .i64 ((rd_T43 l0 x8_1).f0),.string ((rd_T43 l0 x8_1).f1),.int .i64 ((rd_T43 l0 x8_1).f2)] 43 (0,0)) (by (with_reducible repeat (first | refine blk_bytes ?_ _ _ | refine blk_drewN ?_ _ | refine blk_drew ?_ | refine blk_alloc ?_ _)); exact BK445.out) hg (Kd.R_ne HO_3.out BK445.out (by decide))); have n1_ := Aside0.mk (hb); have n2_ := Aside0.mk (ho); clear BK445; clear HB; clear HO_3; have BK445 := n0_; have HB := n1_; have HO460 := n2_; clear n0_ n1_ n2_; clear ho hb hg hat))
                   go_roundg kj4
                   case measure => have := HK1.out; have := HJ4.out; omega
                   case rel => exact ⟨(y458),(wrap64 (x8_1 + 1)),(by first | rfl | (simp; done) | (simp [*]; done)),H',⟨by have := HK1.out; have := HJ4.out; omega⟩,⟨by (with_reducible repeat (first | apply Kd.R_alloc | apply R_bytes | apply Kd.R_drewN | apply Kd.R_drew)); exact HO460.out⟩,⟨by repeat (first | (with_reducible first | exact HB.out | apply below_alloc | apply pw_below_drewN | apply below_drew1 | apply bytes_below1 | refine below_set ?_ GE445.out) | exact HB.out)⟩⟩
                 · rw [if_neg c22] at H
                   exact absurd H (by simp)
               · rw [if_neg c19] at H
                 have c19b0 : (((rd_T43 l0 x8_1).f0) == 3) = false := beq_eq_false_iff_ne.mpr c19
                 have c19b1 : (((rd_T43 l0 x8_1).f0) != 3) = true := bne_iff_ne.mpr c19
                 have H' := Aside0.mk H
                 clear H
                 go_wp2
                 go_roundg kj4
                 case measure => have := HK1.out; have := HJ4.out; omega
                 case rel => exact ⟨(x3_1),(wrap64 (x8_1 + 1)),(by first | rfl | (simp; done) | (simp [*]; done)),H',⟨by have := HK1.out; have := HJ4.out; omega⟩,⟨by (with_reducible repeat (first | apply Kd.R_alloc | apply R_bytes | apply Kd.R_drewN | apply Kd.R_drew)); exact HO_3.out⟩,⟨by repeat (first | (with_reducible first | exact HB.out | apply below_alloc | apply pw_below_drewN | apply below_drew1 | apply bytes_below1 | refine below_set ?_ GE445.out) | exact HB.out)⟩⟩
       · rw [if_neg c4] at H
         exact absurd H (by simp)
     · rw [if_neg c3] at H
       exact absurd H (by simp)
   · rw [if_neg c2] at H
     have c2b0 : decide (x8_1 < (l0.length : Int)) = false := decide_eq_false c2
     clear c2
     replace H := Option.bind_eq_some_iff.mp H
     obtain ⟨t443,A270,H⟩ := H
     replace H : (some t443) = some r := H
     have A27 := Aside0.mk A270
     clear A270
     obtain rfl := Option.some.inj H
     obtain ⟨Ao28,co28,eo28⟩ := Kd.R_slice HO_3.out
     subst eo28
     go_wp2_with (first | ((with_reducible refine gate_callee (f := 44) rfl ?_); refine goesL_ (some 41) rfl rfl Tryz.func44 (by kernel_rfl) rfl #[.slice Ao28 x3_1.length co28,.string (⟨#[32]⟩ : ByteArray)] rfl (by (try simp only [List.map_toArray,List.map_cons,List.map_nil]); first | done | rfl | (simp only [List.length_drop,List.length_take]; rfl)) ?_; (with_reducible refine (strings_Join.calls _ _ x3_1 (⟨#[32]⟩ : ByteArray) t443 _ ?side1 ?side2 A27.out).mono ?_); (case side1 => repeat (first | exact (Kd.R_reads' HO_3.out).2.2 | (with_reducible refine Kd.C_alloc ?_ _) | (with_reducible refine C_bytes ?_ _ _) | (with_reducible refine Kd.C_drewN ?_ _) | (with_reducible refine Kd.C_drew ?_))); (case side2 => exact (Kd.R_reads' HO_3.out).2.1); rintro e w29 ⟨rfl,hb⟩; refine ⟨_,rfl,?_⟩; have n0_ := Aside0.mk (Kd.R_below (by (with_reducible repeat (first | apply Kd.R_alloc | apply R_bytes | apply Kd.R_drewN | apply Kd.R_drew)); exact HO_3.out) hb); have n1_ := Aside0.mk (below_step (by repeat (first | (with_reducible first | exact HB.out | apply below_alloc | apply pw_below_drewN | apply below_drew1 | apply bytes_below1) | exact HB.out)) hb); clear HO_3; clear HB; have HO_3 := n0_; have HB := n1_; clear n0_ n1_; (try clear hb); (try clear hb2); (try clear hk); (try clear hi)))
     go_ret
     exact ⟨by first | rfl | (simp [errW_none,errW_some] <;> rfl) | (simp [*,errW_none,errW_some] <;> rfl),by repeat (first | (with_reducible first | exact HB.out | apply below_alloc | apply pw_below_drewN | apply below_drew1 | apply bytes_below1) | exact HB.out)⟩
end
end Go.Proofs.YtifgpigicgaadaaGreatDoor.Q
end
