/- Several texts in one, in their order. -/
import Derived.Test.YtifgpigicgaadaaGreatDoorBLexerBack2
import Derived.Test.YtifgpigicgaadaaGreatDoorBLexerBack4
import Derived.Test.YtifgpigicgaadaaGreatDoorBLexerBack5
section
namespace Go.Proofs.YtifgpigicgaadaaGreatDoor.Q
open Go.RowKit Go.Proofs.YtifgpigicgaadaaGreatDoorH Go.Proofs.YtifgpigicgaadaaGreatDoorW.PrintWords Go.Proofs.YtifgpigicgaadaaGreatDoorW.PrintLast Go.Proofs.YtifgpigicgaadaaGreatDoorW.PrintMore
attribute [local go_sem] max2_int min2_int max_two min_two max_three min_three max_four min_four
set_option linter.unusedVariables false
set_option linter.unusedSimpArgs false
section
/-! ### dossierref08_word: function 43 -/
def dossierref08_word.l0 : Nat → ByteArray → Int → Option (Int × ByteArray × Int × Int × Bool)
 | 0,_,_ => none
 | k + 1,x0,x5 => if x5 < (x0.size : Int) then (if 0 ≤ x5 then ((dossierref08_letter.f (bt x0 x5)).bind fun t422 => (if t422 = true then (dossierref08_word.l0 k x0 (wrap64 (x5 + 1))) else ((dossierref08_digit.f (bt x0 x5)).bind fun t423 => (if t423 = true then (dossierref08_word.l0 k x0 (wrap64 (x5 + 1))) else (if x5 ≤ (x0.size : Int) then (some (1,x0.extract 0 (x5 : Int).toNat,0,x5,true)) else (none)))))) else (none)) else (if 0 ≤ x5 then (if x5 ≤ (x0.size : Int) then (some (1,x0.extract 0 (x5 : Int).toNat,0,x5,true)) else (none)) else (none))
def dossierref08_word.f (k : Nat) (a0 : ByteArray) : Option (Int × ByteArray × Int × Int × Bool) := if 0 < (a0.size : Int) then ((dossierref08_digit.f (bt a0 0)).bind fun t405 => (if t405 = true then ((dossierref08_integer.f k a0).bind fun bt406 => (some (bt406.1,bt406.2.1,bt406.2.2.1,bt406.2.2.2.1,bt406.2.2.2.2))) else (if (bt a0 0) = 34 then ((dossierref08_text.f k a0).bind fun bt411 => (some (bt411.1,bt411.2.1,bt411.2.2.1,bt411.2.2.2.1,bt411.2.2.2.2))) else ((dossierref08_letter.f (bt a0 0)).bind fun t416 => (if t416 = true then (dossierref08_word.l0 k a0 1) else ((dossierref08_sign.f k a0).bind fun bt417 => (some (bt417.1,bt417.2.1,bt417.2.2.1,bt417.2.2.2.1,bt417.2.2.2.2)))))))) else (none)
set_option maxHeartbeats 8000000 in
set_option maxRecDepth 100000 in
theorem dossierref08_word.calls (k : Nat) (a0 : ByteArray) (r1 : Int) (r2 : ByteArray) (r3 : Int) (r4 : Int) (r5 : Bool) (w : World) (h : dossierref08_word.f k a0 = some (r1,r2,r3,r4,r5)) :
 Calls Tryz.prog 43 #[.string a0] w fun e w' => e = .returned (.tuple #[.agg #[.int .i64 r1,.string r2,.int .i64 r3],.int .i64 r4,.bool r5]) ∧ Below w.heap.size w w' := by
 have hu43 := Tryz.underlying43
 have HB := Aside0.mk (Below.refl w.heap.size w)
 have H : (if 0 < (a0.size : Int) then ((dossierref08_digit.f (bt a0 0)).bind fun t405 => (if t405 = true then ((dossierref08_integer.f k a0).bind fun bt406 => (some (bt406.1,bt406.2.1,bt406.2.2.1,bt406.2.2.2.1,bt406.2.2.2.2))) else (if (bt a0 0) = 34 then ((dossierref08_text.f k a0).bind fun bt411 => (some (bt411.1,bt411.2.1,bt411.2.2.1,bt411.2.2.2.1,bt411.2.2.2.2))) else ((dossierref08_letter.f (bt a0 0)).bind fun t416 => (if t416 = true then (dossierref08_word.l0 k a0 1) else ((dossierref08_sign.f k a0).bind fun bt417 => (some (bt417.1,bt417.2.1,bt417.2.2.1,bt417.2.2.2.1,bt417.2.2.2.2)))))))) else (none)) = some (r1,r2,r3,r4,r5) := h
 clear h
 by_cases c2 : 0 < (a0.size : Int)
 · rw [if_pos c2] at H
   have c2b0 : decide (0 < (a0.size : Int)) = true := decide_eq_true c2
   have c2b1 : decide (0 < a0.size) = true := decide_eq_true (by omega)
   clear c2
   replace H := Option.bind_eq_some_iff.mp H
   obtain ⟨t405,A40,H⟩ := H
   replace H : (if t405 = true then ((dossierref08_integer.f k a0).bind fun bt406 => (some (bt406.1,bt406.2.1,bt406.2.2.1,bt406.2.2.2.1,bt406.2.2.2.2))) else (if (bt a0 0) = 34 then ((dossierref08_text.f k a0).bind fun bt411 => (some (bt411.1,bt411.2.1,bt411.2.2.1,bt411.2.2.2.1,bt411.2.2.2.2))) else ((dossierref08_letter.f (bt a0 0)).bind fun t416 => (if t416 = true then (dossierref08_word.l0 k a0 1) else ((dossierref08_sign.f k a0).bind fun bt417 => (some (bt417.1,bt417.2.1,bt417.2.2.1,bt417.2.2.2.1,bt417.2.2.2.2))))))) = some (r1,r2,r3,r4,r5) := H
   have A4 := Aside0.mk A40
   clear A40
   by_cases c5 : t405 = true
   · subst c5
     have H1 : ((dossierref08_integer.f k a0).bind fun bt406 => (some (bt406.1,bt406.2.1,bt406.2.2.1,bt406.2.2.2.1,bt406.2.2.2.2))) = some (r1,r2,r3,r4,r5) := by rw [if_pos rfl] at H; exact H
     clear H
     have H := H1
     clear H1
     replace H := Option.bind_eq_some_iff.mp H
     obtain ⟨⟨t406,t407,t408,t409,t410⟩,A60,H⟩ := H
     replace H : (some (t406,t407,t408,t409,t410)) = some (r1,r2,r3,r4,r5) := H
     have A6 := Aside0.mk A60
     clear A60
     simp only [Option.some.injEq,Prod.mk.injEq] at H
     obtain ⟨rfl,rfl,rfl,rfl,rfl⟩ := H
     go_enter Tryz.func43,Tryz.ntmps43
     go_wp2_with (first | ((with_reducible refine gate_dst (N := 2) rfl ?_); refine box_event ?hg (N := 2) ?hd (cs := #[.int .i64 0,.string (⟨#[]⟩ : ByteArray),.int .i64 0]) (t := 43) ?hr ?_; (case hd => rfl); (case hg => rfl); (case hr => first | (go_simp; done) | (go_simp; rfl)); intro gb404 hg w7 hbox hb; have n0_ := Aside0.mk (below_step (by repeat (first | (with_reducible first | exact HB.out | apply below_alloc | apply pw_below_drewN | apply below_drew1 | apply bytes_below1) | exact HB.out)) hb); have n1_ := Aside0.mk (hbox); have n2_ := Aside0.mk ((by rw [hg]; exact (below_size (by repeat (first | (with_reducible first | exact HB.out | apply below_alloc | apply pw_below_drewN | apply below_drew1 | apply bytes_below1) | exact HB.out))) : w.heap.size ≤ gb404)); have n3_ := Aside0.mk ((by rw [hg]; exact (below_size (by repeat (first | (with_reducible first | exact HB.out | apply below_alloc | apply pw_below_drewN | apply below_drew1 | apply bytes_below1) | exact HB.out))) : w.heap.size ≤ gb404)); clear HB; have HB := n0_; have BK404 := n1_; have GW404 := n2_; have GE404 := n3_; clear n0_ n1_ n2_ n3_; clear hb hbox hg; have p3 : 0 ≤ (0 : Int) := (by omega); have q3 : 0 < a0.size := (by have : (0 : Int) < (a0.size : Int) := of_decide_eq_true (by first | (with_reducible assumption) | assumption); omega); have hx3 : ∀ h : 0 < a0.size,((a0[0]'h).toNat : Int) = bt a0 0 := bt_at a0 0; clear p3; have qi3 : (0 < (a0.size : Int)) = True := eq_true (of_decide_eq_true (by first | (with_reducible assumption) | assumption)); replace q3 := eq_true q3) | ((with_reducible refine gate_callee (f := 64) rfl ?_); refine goesL_ (some 9) rfl rfl Tryz.func64 (by kernel_rfl) rfl #[.int .u8 (bt a0 0)] rfl (by (try simp only [List.map_toArray,List.map_cons,List.map_nil]); first | done | rfl | (simp only [List.length_drop,List.length_take]; rfl)) ?_; (with_reducible refine (dossierref08_digit.calls (bt a0 0) true _ A4.out).mono ?_); rintro e w' ⟨rfl,⟨nd,rfl⟩⟩; refine ⟨_,rfl,?_⟩; (try (rw [drewN_self w7]; generalize hq_ : World.drewN w7 _ = w7; have n0_ : Aside0 (w7.heap[gb404]? = some (.cells #[.int .i64 0,.string (⟨#[]⟩ : ByteArray),.int .i64 0] 43 (0,0))) := ⟨by rw [← hq_]; exact (by (with_reducible repeat (first | refine blk_bytes ?_ _ _ | refine blk_drewN ?_ _ | refine blk_drew ?_ | refine blk_alloc ?_ _)); exact BK404.out)⟩; have n1_ : Aside0 (Below w.heap.size w w7) := ⟨by rw [← hq_]; exact (by repeat (first | (with_reducible first | exact HB.out | apply below_alloc | apply pw_below_drewN | apply below_drew1 | apply bytes_below1 | refine below_set ?_ GE404.out) | exact HB.out))⟩; clear BK404 HB hq_; have BK404 := n0_; have HB := n1_; clear n0_ n1_))) | ((with_reducible refine gate_callee (f := 65) rfl ?_); refine goesL_ (some 11) rfl rfl Tryz.func65 (by kernel_rfl) rfl #[.string a0] rfl (by (try simp only [List.map_toArray,List.map_cons,List.map_nil]); first | done | rfl | (simp only [List.length_drop,List.length_take]; rfl)) ?_; (with_reducible refine (dossierref08_integer.calls k a0 t406 t407 t408 t409 t410 _ A6.out).mono ?_); rintro e w8 ⟨rfl,hb⟩; refine ⟨_,rfl,?_⟩; have n0_ := Aside0.mk (blk_below (g := gb404) (o := .cells #[.int .i64 0,.string (⟨#[]⟩ : ByteArray),.int .i64 0] 43 (0,0)) (by (with_reducible repeat (first | refine blk_bytes ?_ _ _ | refine blk_drewN ?_ _ | refine blk_drew ?_ | refine blk_alloc ?_ _)); exact BK404.out) hb); have n1_ := Aside0.mk (below_step (by repeat (first | (with_reducible first | exact HB.out | apply below_alloc | apply pw_below_drewN | apply below_drew1 | apply bytes_below1 | refine below_set ?_ GE404.out) | exact HB.out)) hb); clear BK404; clear HB; have BK404 := n0_; have HB := n1_; clear n0_ n1_; (try clear hb); (try clear hb2); (try clear hk); (try clear hi); have hcz9_0 : w8.cell? ⟨gb404,0,none⟩ = some (.int .i64 0) := (blk_cell BK404.out 0).trans rfl; have hcz9_1 : w8.cell? ⟨gb404,1,none⟩ = some (.string (⟨#[]⟩ : ByteArray)) := (blk_cell BK404.out 1).trans rfl; have hcz9_2 : w8.cell? ⟨gb404,2,none⟩ = some (.int .i64 0) := (blk_cell BK404.out 2).trans rfl; have hfz9_0 := blk_frozen BK404.out 0; have hfz9_1 := blk_frozen BK404.out 1; have hfz9_2 := blk_frozen BK404.out 2))
     refine bodyPost_ret (results_ctt rfl _ _ gb404 43 #[.int .i64 t406,.string t407,.int .i64 t408] (0,0) _ rfl (by (with_reducible repeat (first | refine blk_bytes ?_ _ _ | refine blk_drewN ?_ _ | refine blk_drew ?_ | refine blk_alloc ?_ _)); refine blk_put (cs := #[.int .i64 t406,.string t407,.int .i64 0]) ?_ 2 _ rfl; (with_reducible repeat (first | refine blk_bytes ?_ _ _ | refine blk_drewN ?_ _ | refine blk_drew ?_ | refine blk_alloc ?_ _)); refine blk_put (cs := #[.int .i64 t406,.string (⟨#[]⟩ : ByteArray),.int .i64 0]) ?_ 1 _ rfl; (with_reducible repeat (first | refine blk_bytes ?_ _ _ | refine blk_drewN ?_ _ | refine blk_drew ?_ | refine blk_alloc ?_ _)); refine blk_put (cs := #[.int .i64 0,.string (⟨#[]⟩ : ByteArray),.int .i64 0]) ?_ 0 _ rfl; (with_reducible repeat (first | refine blk_bytes ?_ _ _ | refine blk_drewN ?_ _ | refine blk_drew ?_ | refine blk_alloc ?_ _)); exact BK404.out) Tryz.underlying43 rfl (by kernel_rfl)) rfl ?_
     exact ⟨by first | rfl | (simp [errW_none,errW_some] <;> rfl) | (simp [*,errW_none,errW_some] <;> rfl),by repeat (first | (with_reducible first | exact HB.out | apply below_alloc | apply pw_below_drewN | apply below_drew1 | apply bytes_below1 | refine below_set ?_ GE404.out) | exact HB.out)⟩
   · replace c5 := Bool.eq_false_iff.mpr c5
     subst c5
     have H1 : (if (bt a0 0) = 34 then ((dossierref08_text.f k a0).bind fun bt411 => (some (bt411.1,bt411.2.1,bt411.2.2.1,bt411.2.2.2.1,bt411.2.2.2.2))) else ((dossierref08_letter.f (bt a0 0)).bind fun t416 => (if t416 = true then (dossierref08_word.l0 k a0 1) else ((dossierref08_sign.f k a0).bind fun bt417 => (some (bt417.1,bt417.2.1,bt417.2.2.1,bt417.2.2.2.1,bt417.2.2.2.2)))))) = some (r1,r2,r3,r4,r5) := by rw [if_neg (show ¬ (false = true) by decide)] at H; exact H
     clear H
     have H := H1
     clear H1
     by_cases c11 : (bt a0 0) = 34
     · rw [if_pos c11] at H
       have c11b0 : ((bt a0 0) == 34) = true := beq_iff_eq.mpr c11
       have c11b1 : ((bt a0 0) != 34) = false := bne_eq_false_iff_eq.mpr c11
       clear c11
       replace H := Option.bind_eq_some_iff.mp H
       obtain ⟨⟨t411,t412,t413,t414,t415⟩,A120,H⟩ := H
       replace H : (some (t411,t412,t413,t414,t415)) = some (r1,r2,r3,r4,r5) := H
       have A12 := Aside0.mk A120
       clear A120
       simp only [Option.some.injEq,Prod.mk.injEq] at H
       obtain ⟨rfl,rfl,rfl,rfl,rfl⟩ := H
       go_enter Tryz.func43,Tryz.ntmps43
       go_wp2_with (first | ((with_reducible refine gate_dst (N := 2) rfl ?_); refine box_event ?hg (N := 2) ?hd (cs := #[.int .i64 0,.string (⟨#[]⟩ : ByteArray),.int .i64 0]) (t := 43) ?hr ?_; (case hd => rfl); (case hg => rfl); (case hr => first | (go_simp; done) | (go_simp; rfl)); intro gb404 hg w13 hbox hb; have n0_ := Aside0.mk (below_step (by repeat (first | (with_reducible first | exact HB.out | apply below_alloc | apply pw_below_drewN | apply below_drew1 | apply bytes_below1) | exact HB.out)) hb); have n1_ := Aside0.mk (hbox); have n2_ := Aside0.mk ((by rw [hg]; exact (below_size (by repeat (first | (with_reducible first | exact HB.out | apply below_alloc | apply pw_below_drewN | apply below_drew1 | apply bytes_below1) | exact HB.out))) : w.heap.size ≤ gb404)); have n3_ := Aside0.mk ((by rw [hg]; exact (below_size (by repeat (first | (with_reducible first | exact HB.out | apply below_alloc | apply pw_below_drewN | apply below_drew1 | apply bytes_below1) | exact HB.out))) : w.heap.size ≤ gb404)); clear HB; have HB := n0_; have BK404 := n1_; have GW404 := n2_; have GE404 := n3_; clear n0_ n1_ n2_ n3_; clear hb hbox hg; have p3 : 0 ≤ (0 : Int) := (by omega); have q3 : 0 < a0.size := (by have : (0 : Int) < (a0.size : Int) := of_decide_eq_true (by first | (with_reducible assumption) | assumption); omega); have hx3 : ∀ h : 0 < a0.size,((a0[0]'h).toNat : Int) = bt a0 0 := bt_at a0 0; clear p3; have qi3 : (0 < (a0.size : Int)) = True := eq_true (of_decide_eq_true (by first | (with_reducible assumption) | assumption)); replace q3 := eq_true q3) | ((with_reducible refine gate_callee (f := 64) rfl ?_); refine goesL_ (some 9) rfl rfl Tryz.func64 (by kernel_rfl) rfl #[.int .u8 (bt a0 0)] rfl (by (try simp only [List.map_toArray,List.map_cons,List.map_nil]); first | done | rfl | (simp only [List.length_drop,List.length_take]; rfl)) ?_; (with_reducible refine (dossierref08_digit.calls (bt a0 0) false _ A4.out).mono ?_); rintro e w' ⟨rfl,⟨nd,rfl⟩⟩; refine ⟨_,rfl,?_⟩; (try (rw [drewN_self w13]; generalize hq_ : World.drewN w13 _ = w13; have n0_ : Aside0 (w13.heap[gb404]? = some (.cells #[.int .i64 0,.string (⟨#[]⟩ : ByteArray),.int .i64 0] 43 (0,0))) := ⟨by rw [← hq_]; exact (by (with_reducible repeat (first | refine blk_bytes ?_ _ _ | refine blk_drewN ?_ _ | refine blk_drew ?_ | refine blk_alloc ?_ _)); exact BK404.out)⟩; have n1_ : Aside0 (Below w.heap.size w w13) := ⟨by rw [← hq_]; exact (by repeat (first | (with_reducible first | exact HB.out | apply below_alloc | apply pw_below_drewN | apply below_drew1 | apply bytes_below1 | refine below_set ?_ GE404.out) | exact HB.out))⟩; clear BK404 HB hq_; have BK404 := n0_; have HB := n1_; clear n0_ n1_)); have p10 : 0 ≤ (0 : Int) := (by omega); have q10 : 0 < a0.size := (by have : (0 : Int) < (a0.size : Int) := of_decide_eq_true (by first | (with_reducible assumption) | assumption); omega); have hx10 : ∀ h : 0 < a0.size,((a0[0]'h).toNat : Int) = bt a0 0 := bt_at a0 0; clear p10; have qi10 : (0 < (a0.size : Int)) = True := eq_true (of_decide_eq_true (by first | (with_reducible assumption) | assumption)); replace q10 := eq_true q10) | ((with_reducible refine gate_callee (f := 66) rfl ?_); refine goesL_ (some 20) rfl rfl Tryz.func66 (by kernel_rfl) rfl #[.string a0] rfl (by (try simp only [List.map_toArray,List.map_cons,List.map_nil]); first | done | rfl | (simp only [List.length_drop,List.length_take]; rfl)) ?_; (with_reducible refine (dossierref08_text.calls k a0 t411 t412 t413 t414 t415 _ A12.out).mono ?_); rintro e w14 ⟨rfl,hb⟩; refine ⟨_,rfl,?_⟩; have n0_ := Aside0.mk (blk_below (g := gb404) (o := .cells #[.int .i64 0,.string (⟨#[]⟩ : ByteArray),.int .i64 0] 43 (0,0)) (by (with_reducible repeat (first | refine blk_bytes ?_ _ _ | refine blk_drewN ?_ _ | refine blk_drew ?_ | refine blk_alloc ?_ _)); exact BK404.out) hb); have n1_ := Aside0.mk (below_step (by repeat (first | (with_reducible first | exact HB.out | apply below_alloc | apply pw_below_drewN | apply below_drew1 | apply bytes_below1 | refine below_set ?_ GE404.out) | exact HB.out)) hb); clear BK404; clear HB; have BK404 := n0_; have HB := n1_; clear n0_ n1_; (try clear hb); (try clear hb2); (try clear hk); (try clear hi); have hcz15_0 : w14.cell? ⟨gb404,0,none⟩ = some (.int .i64 0) := (blk_cell BK404.out 0).trans rfl; have hcz15_1 : w14.cell? ⟨gb404,1,none⟩ = some (.string (⟨#[]⟩ : ByteArray)) := (blk_cell BK404.out 1).trans rfl; have hcz15_2 : w14.cell? ⟨gb404,2,none⟩ = some (.int .i64 0) := (blk_cell BK404.out 2).trans rfl; have hfz15_0 := blk_frozen BK404.out 0; have hfz15_1 := blk_frozen BK404.out 1; have hfz15_2 := blk_frozen BK404.out 2))
       refine bodyPost_ret (results_ctt rfl _ _ gb404 43 #[.int .i64 t411,.string t412,.int .i64 t413] (0,0) _ rfl (by (with_reducible repeat (first | refine blk_bytes ?_ _ _ | refine blk_drewN ?_ _ | refine blk_drew ?_ | refine blk_alloc ?_ _)); refine blk_put (cs := #[.int .i64 t411,.string t412,.int .i64 0]) ?_ 2 _ rfl; (with_reducible repeat (first | refine blk_bytes ?_ _ _ | refine blk_drewN ?_ _ | refine blk_drew ?_ | refine blk_alloc ?_ _)); refine blk_put (cs := #[.int .i64 t411,.string (⟨#[]⟩ : ByteArray),.int .i64 0]) ?_ 1 _ rfl; (with_reducible repeat (first | refine blk_bytes ?_ _ _ | refine blk_drewN ?_ _ | refine blk_drew ?_ | refine blk_alloc ?_ _)); refine blk_put (cs := #[.int .i64 0,.string (⟨#[]⟩ : ByteArray),.int .i64 0]) ?_ 0 _ rfl; (with_reducible repeat (first | refine blk_bytes ?_ _ _ | refine blk_drewN ?_ _ | refine blk_drew ?_ | refine blk_alloc ?_ _)); exact BK404.out) Tryz.underlying43 rfl (by kernel_rfl)) rfl ?_
       exact ⟨by first | rfl | (simp [errW_none,errW_some] <;> rfl) | (simp [*,errW_none,errW_some] <;> rfl),by repeat (first | (with_reducible first | exact HB.out | apply below_alloc | apply pw_below_drewN | apply below_drew1 | apply bytes_below1 | refine below_set ?_ GE404.out) | exact HB.out)⟩
     · rw [if_neg c11] at H
       have c11b0 : ((bt a0 0) == 34) = false := beq_eq_false_iff_ne.mpr c11
       have c11b1 : ((bt a0 0) != 34) = true := bne_iff_ne.mpr c11
       replace H := Option.bind_eq_some_iff.mp H
       obtain ⟨t416,A170,H⟩ := H
       replace H : (if t416 = true then (dossierref08_word.l0 k a0 1) else ((dossierref08_sign.f k a0).bind fun bt417 => (some (bt417.1,bt417.2.1,bt417.2.2.1,bt417.2.2.2.1,bt417.2.2.2.2)))) = some (r1,r2,r3,r4,r5) := H
       have A17 := Aside0.mk A170
       clear A170
       by_cases c18 : t416 = true
       · subst c18
         have H1 : (dossierref08_word.l0 k a0 1) = some (r1,r2,r3,r4,r5) := by rw [if_pos rfl] at H; exact H
         clear H
         have H := H1
         clear H1
         have H' := Aside0.mk H
         clear H
         go_enter Tryz.func43,Tryz.ntmps43
         go_wp2_with (first | ((with_reducible refine gate_dst (N := 2) rfl ?_); refine box_event ?hg (N := 2) ?hd (cs := #[.int .i64 0,.string (⟨#[]⟩ : ByteArray),.int .i64 0]) (t := 43) ?hr ?_; (case hd => rfl); (case hg => rfl); (case hr => first | (go_simp; done) | (go_simp; rfl)); intro gb404 hg w19 hbox hb; have n0_ := Aside0.mk (below_step (by repeat (first | (with_reducible first | exact HB.out | apply below_alloc | apply pw_below_drewN | apply below_drew1 | apply bytes_below1) | exact HB.out)) hb); have n1_ := Aside0.mk (hbox); have n2_ := Aside0.mk ((by rw [hg]; exact (below_size (by repeat (first | (with_reducible first | exact HB.out | apply below_alloc | apply pw_below_drewN | apply below_drew1 | apply bytes_below1) | exact HB.out))) : w.heap.size ≤ gb404)); have n3_ := Aside0.mk ((by rw [hg]; exact (below_size (by repeat (first | (with_reducible first | exact HB.out | apply below_alloc | apply pw_below_drewN | apply below_drew1 | apply bytes_below1) | exact HB.out))) : w.heap.size ≤ gb404)); clear HB; have HB := n0_; have BK404 := n1_; have GW404 := n2_; have GE404 := n3_; clear n0_ n1_ n2_ n3_; clear hb hbox hg; have p3 : 0 ≤ (0 : Int) := (by omega); have q3 : 0 < a0.size := (by have : (0 : Int) < (a0.size : Int) := of_decide_eq_true (by first | (with_reducible assumption) | assumption); omega); have hx3 : ∀ h : 0 < a0.size,((a0[0]'h).toNat : Int) = bt a0 0 := bt_at a0 0; clear p3; have qi3 : (0 < (a0.size : Int)) = True := eq_true (of_decide_eq_true (by first | (with_reducible assumption) | assumption)); replace q3 := eq_true q3) | ((with_reducible refine gate_callee (f := 64) rfl ?_); refine goesL_ (some 9) rfl rfl Tryz.func64 (by kernel_rfl) rfl #[.int .u8 (bt a0 0)] rfl (by (try simp only [List.map_toArray,List.map_cons,List.map_nil]); first | done | rfl | (simp only [List.length_drop,List.length_take]; rfl)) ?_; (with_reducible refine (dossierref08_digit.calls (bt a0 0) false _ A4.out).mono ?_); rintro e w' ⟨rfl,⟨nd,rfl⟩⟩; refine ⟨_,rfl,?_⟩; have p10 : 0 ≤ (0 : Int) := (by omega); have q10 : 0 < a0.size := (by have : (0 : Int) < (a0.size : Int) := of_decide_eq_true (by first | (with_reducible assumption) | assumption); omega); have hx10 : ∀ h : 0 < a0.size,((a0[0]'h).toNat : Int) = bt a0 0 := bt_at a0 0; clear p10; have qi10 : (0 < (a0.size : Int)) = True := eq_true (of_decide_eq_true (by first | (with_reducible assumption) | assumption)); replace q10 := eq_true q10; have p16 : 0 ≤ (0 : Int) := (by omega); have q16 : 0 < a0.size := (by have : (0 : Int) < (a0.size : Int) := of_decide_eq_true (by first | (with_reducible assumption) | assumption); omega); have hx16 : ∀ h : 0 < a0.size,((a0[0]'h).toNat : Int) = bt a0 0 := bt_at a0 0; clear p16; have qi16 : (0 < (a0.size : Int)) = True := eq_true (of_decide_eq_true (by first | (with_reducible assumption) | assumption)); replace q16 := eq_true q16) | ((with_reducible refine gate_callee (f := 67) rfl ?_); refine goesL_ (some 27) rfl rfl Tryz.func67 (by kernel_rfl) rfl #[.int .u8 (bt a0 0)] rfl (by (try simp only [List.map_toArray,List.map_cons,List.map_nil]); first | done | rfl | (simp only [List.length_drop,List.length_take]; rfl)) ?_; (with_reducible refine (dossierref08_letter.calls (bt a0 0) true _ A17.out).mono ?_); rintro e w' ⟨rfl,⟨nd,rfl⟩⟩; refine ⟨_,rfl,?_⟩))
         go_loopg [5] k (fun kq v5 w' => ∃ (x5_1 : Int),v5 = .int .i64 x5_1 ∧ Aside0 (dossierref08_word.l0 kq a0 x5_1 = some (r1,r2,r3,r4,r5)) ∧ Aside0 (kq ≤ k) ∧ Aside0 (w'.heap[gb404]? = some (.cells #[.int .i64 0,.string (⟨#[]⟩ : ByteArray),.int .i64 0] 43 (0,0))) ∧ Aside0 (Below w.heap.size w w'))
         case atStart => exact ⟨(1),(by first | rfl | (simp; done) | (simp [*]; done)),H',⟨Nat.le_refl _⟩,⟨by (with_reducible repeat (first | refine blk_bytes ?_ _ _ | refine blk_drewN ?_ _ | refine blk_drew ?_ | refine blk_alloc ?_ _)); exact BK404.out⟩,⟨by repeat (first | (with_reducible first | exact HB.out | apply below_alloc | apply pw_below_drewN | apply below_drew1 | apply bytes_below1 | refine below_set ?_ GE404.out) | exact HB.out)⟩⟩
         case round =>
          clear H'
          try clear c1
          try clear p1
          try clear q1
          try clear hx1
          try clear qi1
          try clear c2
          try clear c2b0
          try clear c2b1
          try clear p2
          try clear p3
          try clear q3
          try clear hx3
          try clear qi3
          try clear c4
          try clear c5
          try clear c6
          try clear p10
          try clear q10
          try clear hx10
          try clear qi10
          try clear c11
          try clear c11b0
          try clear c11b1
          try clear p16
          try clear q16
          try clear hx16
          try clear qi16
          try clear c18
          try clear hcz15_0
          try clear hcz15_1
          try clear hcz15_2
          try clear hcz9_0
          try clear hcz9_1
          try clear hcz9_2
          try clear hfz15_0
          try clear hfz15_1
          try clear hfz15_2
          try clear hfz9_0
          try clear hfz9_1
          try clear hfz9_2
          try clear p10
          try clear p16
          try clear p3
          try clear q10
          try clear q16
          try clear q3
          obtain ⟨x5_1,rfl,HA,HK1,BK404,HB⟩ := hrel
          cases gk with
          | zero => exact absurd HA.out (by simp [dossierref08_word.l0])
          | succ k1 =>
           have H := HA.out
           clear HA
           simp only [dossierref08_word.l0] at H
           by_cases c20 : x5_1 < (a0.size : Int)
           · rw [if_pos c20] at H
             have c20b0 : decide (x5_1 < (a0.size : Int)) = true := decide_eq_true c20
             clear c20
             by_cases c21 : 0 ≤ x5_1
             · rw [if_pos c21] at H
               have c21b0 : decide (0 ≤ x5_1) = true := decide_eq_true c21
               clear c21
               replace H := Option.bind_eq_some_iff.mp H
               obtain ⟨t422,A230,H⟩ := H
               replace H : (if t422 = true then (dossierref08_word.l0 k1 a0 (wrap64 (x5_1 + 1))) else ((dossierref08_digit.f (bt a0 x5_1)).bind fun t423 => (if t423 = true then (dossierref08_word.l0 k1 a0 (wrap64 (x5_1 + 1))) else (if x5_1 ≤ (a0.size : Int) then (some (1,a0.extract 0 (x5_1 : Int).toNat,0,x5_1,true)) else (none))))) = some (r1,r2,r3,r4,r5) := H
               have A23 := Aside0.mk A230
               clear A230
               by_cases c24 : t422 = true
               · subst c24
                 have H1 : (dossierref08_word.l0 k1 a0 (wrap64 (x5_1 + 1))) = some (r1,r2,r3,r4,r5) := by rw [if_pos rfl] at H; exact H
                 clear H
                 have H := H1
                 clear H1
                 have H' := Aside0.mk H
                 clear H
                 have p22 : 0 ≤ (x5_1 : Int) := of_decide_eq_true (by first | (with_reducible assumption) | assumption)
                 have q22 : x5_1 < (a0.size : Int) := of_decide_eq_true (by first | (with_reducible assumption) | assumption)
                 have hx22 := bt_at a0 x5_1
                 replace p22 := eq_true p22
                 replace q22 := eq_true q22
                 go_wp2_with (first | (go_at_call 67; (with_reducible refine (dossierref08_letter.calls (bt a0 x5_1) true _ A23.out).mono ?_); rintro e w' ⟨rfl,⟨nd,rfl⟩⟩))
                 go_roundg k1
                 case measure => have := HK1.out; omega
                 case rel => exact ⟨(wrap64 (x5_1 + 1)),(by first | rfl | (simp; done) | (simp [*]; done)),H',⟨by have := HK1.out; omega⟩,⟨by (with_reducible repeat (first | refine blk_bytes ?_ _ _ | refine blk_drewN ?_ _ | refine blk_drew ?_ | refine blk_alloc ?_ _)); exact BK404.out⟩,⟨by repeat (first | (with_reducible first | exact HB.out | apply below_alloc | apply pw_below_drewN | apply below_drew1 | apply bytes_below1 | refine below_set ?_ GE404.out) | exact HB.out)⟩⟩
               · replace c24 := Bool.eq_false_iff.mpr c24
                 subst c24
                 have H1 : ((dossierref08_digit.f (bt a0 x5_1)).bind fun t423 => (if t423 = true then (dossierref08_word.l0 k1 a0 (wrap64 (x5_1 + 1))) else (if x5_1 ≤ (a0.size : Int) then (some (1,a0.extract 0 (x5_1 : Int).toNat,0,x5_1,true)) else (none)))) = some (r1,r2,r3,r4,r5) := by rw [if_neg (show ¬ (false = true) by decide)] at H; exact H
                 clear H
                 have H := H1
                 clear H1
                 replace H := Option.bind_eq_some_iff.mp H
                 obtain ⟨t423,A260,H⟩ := H
                 replace H : (if t423 = true then (dossierref08_word.l0 k1 a0 (wrap64 (x5_1 + 1))) else (if x5_1 ≤ (a0.size : Int) then (some (1,a0.extract 0 (x5_1 : Int).toNat,0,x5_1,true)) else (none))) = some (r1,r2,r3,r4,r5) := H
                 have A26 := Aside0.mk A260
                 clear A260
                 by_cases c27 : t423 = true
                 · subst c27
                   have H1 : (dossierref08_word.l0 k1 a0 (wrap64 (x5_1 + 1))) = some (r1,r2,r3,r4,r5) := by rw [if_pos rfl] at H; exact H
                   clear H
                   have H := H1
                   clear H1
                   have H' := Aside0.mk H
                   clear H
                   have p22 : 0 ≤ (x5_1 : Int) := of_decide_eq_true (by first | (with_reducible assumption) | assumption)
                   have q22 : x5_1 < (a0.size : Int) := of_decide_eq_true (by first | (with_reducible assumption) | assumption)
                   have hx22 := bt_at a0 x5_1
                   replace p22 := eq_true p22
                   replace q22 := eq_true q22
                   go_wp2_with (first | (go_at_call 67; (with_reducible refine (dossierref08_letter.calls (bt a0 x5_1) false _ A23.out).mono ?_); rintro e w' ⟨rfl,⟨nd,rfl⟩⟩; have p25 : 0 ≤ (x5_1 : Int) := of_decide_eq_true (by first | (with_reducible assumption) | assumption); have q25 : x5_1 < (a0.size : Int) := of_decide_eq_true (by first | (with_reducible assumption) | assumption); have hx25 := bt_at a0 x5_1; replace p25 := eq_true p25; replace q25 := eq_true q25) | (go_at_call 64; (with_reducible refine (dossierref08_digit.calls (bt a0 x5_1) true _ A26.out).mono ?_); rintro e w' ⟨rfl,⟨nd,rfl⟩⟩))
                   go_roundg k1
                   case measure => have := HK1.out; omega
                   case rel => exact ⟨(wrap64 (x5_1 + 1)),(by first | rfl | (simp; done) | (simp [*]; done)),H',⟨by have := HK1.out; omega⟩,⟨by (with_reducible repeat (first | refine blk_bytes ?_ _ _ | refine blk_drewN ?_ _ | refine blk_drew ?_ | refine blk_alloc ?_ _)); exact BK404.out⟩,⟨by repeat (first | (with_reducible first | exact HB.out | apply below_alloc | apply pw_below_drewN | apply below_drew1 | apply bytes_below1 | refine below_set ?_ GE404.out) | exact HB.out)⟩⟩
                 · replace c27 := Bool.eq_false_iff.mpr c27
                   subst c27
                   have H1 : (if x5_1 ≤ (a0.size : Int) then (some (1,a0.extract 0 (x5_1 : Int).toNat,0,x5_1,true)) else (none)) = some (r1,r2,r3,r4,r5) := by rw [if_neg (show ¬ (false = true) by decide)] at H; exact H
                   clear H
                   have H := H1
                   clear H1
                   have c28b0 := eq_true (of_decide_eq_true (by first | (with_reducible assumption) | assumption) : 0 ≤ x5_1)
                   by_cases c29 : x5_1 ≤ (a0.size : Int)
                   · rw [if_pos c29] at H
                     have c29b0 := eq_true c29
                     have c29b1 : decide (x5_1 ≤ (a0.size : Int)) = true := decide_eq_true c29
                     clear c29
                     simp only [Option.some.injEq,Prod.mk.injEq] at H
                     obtain ⟨rfl,rfl,rfl,rfl,rfl⟩ := H
                     have p22 : 0 ≤ (x5_1 : Int) := of_decide_eq_true (by first | (with_reducible assumption) | assumption)
                     have q22 : x5_1 < (a0.size : Int) := of_decide_eq_true (by first | (with_reducible assumption) | assumption)
                     have hx22 := bt_at a0 x5_1
                     replace p22 := eq_true p22
                     replace q22 := eq_true q22
                     go_wp2_with (first | (go_at_call 67; (with_reducible refine (dossierref08_letter.calls (bt a0 x5_1) false _ A23.out).mono ?_); rintro e w' ⟨rfl,⟨nd,rfl⟩⟩; (try (rw [drewN_self wr]; generalize hq_ : World.drewN wr _ = wr; have n0_ : Aside0 (wr.heap[gb404]? = some (.cells #[.int .i64 0,.string (⟨#[]⟩ : ByteArray),.int .i64 0] 43 (0,0))) := ⟨by rw [← hq_]; exact (by (with_reducible repeat (first | refine blk_bytes ?_ _ _ | refine blk_drewN ?_ _ | refine blk_drew ?_ | refine blk_alloc ?_ _)); exact BK404.out)⟩; have n1_ : Aside0 (Below w.heap.size w wr) := ⟨by rw [← hq_]; exact (by repeat (first | (with_reducible first | exact HB.out | apply below_alloc | apply pw_below_drewN | apply below_drew1 | apply bytes_below1 | refine below_set ?_ GE404.out) | exact HB.out))⟩; clear BK404 HB hq_; have BK404 := n0_; have HB := n1_; clear n0_ n1_)); have p25 : 0 ≤ (x5_1 : Int) := of_decide_eq_true (by first | (with_reducible assumption) | assumption); have q25 : x5_1 < (a0.size : Int) := of_decide_eq_true (by first | (with_reducible assumption) | assumption); have hx25 := bt_at a0 x5_1; replace p25 := eq_true p25; replace q25 := eq_true q25) | (go_at_call 64; (with_reducible refine (dossierref08_digit.calls (bt a0 x5_1) false _ A26.out).mono ?_); rintro e w' ⟨rfl,⟨nd,rfl⟩⟩; (try (rw [drewN_self wr]; generalize hq_ : World.drewN wr _ = wr; have n0_ : Aside0 (wr.heap[gb404]? = some (.cells #[.int .i64 0,.string (⟨#[]⟩ : ByteArray),.int .i64 0] 43 (0,0))) := ⟨by rw [← hq_]; exact (by (with_reducible repeat (first | refine blk_bytes ?_ _ _ | refine blk_drewN ?_ _ | refine blk_drew ?_ | refine blk_alloc ?_ _)); exact BK404.out)⟩; have n1_ : Aside0 (Below w.heap.size w wr) := ⟨by rw [← hq_]; exact (by repeat (first | (with_reducible first | exact HB.out | apply below_alloc | apply pw_below_drewN | apply below_drew1 | apply bytes_below1 | refine below_set ?_ GE404.out) | exact HB.out))⟩; clear BK404 HB hq_; have BK404 := n0_; have HB := n1_; clear n0_ n1_)); have hcz30_0 : wr.cell? ⟨gb404,0,none⟩ = some (.int .i64 0) := (blk_cell BK404.out 0).trans rfl; have hcz30_1 : wr.cell? ⟨gb404,1,none⟩ = some (.string (⟨#[]⟩ : ByteArray)) := (blk_cell BK404.out 1).trans rfl; have hcz30_2 : wr.cell? ⟨gb404,2,none⟩ = some (.int .i64 0) := (blk_cell BK404.out 2).trans rfl; have hfz30_0 := blk_frozen BK404.out 0; have hfz30_1 := blk_frozen BK404.out 1; have hfz30_2 := blk_frozen BK404.out 2))
                     refine bodyPost_ret (results_ctt rfl _ _ gb404 43 #[.int .i64 1,.string (a0.extract 0 (x5_1 : Int).toNat),.int .i64 0] (0,0) _ rfl (by (with_reducible repeat (first | refine blk_bytes ?_ _ _ | refine blk_drewN ?_ _ | refine blk_drew ?_ | refine blk_alloc ?_ _)); refine blk_put (cs := #[.int .i64 1,.string (a0.extract 0 (x5_1 : Int).toNat),.int .i64 0]) ?_ 2 _ rfl; (with_reducible repeat (first | refine blk_bytes ?_ _ _ | refine blk_drewN ?_ _ | refine blk_drew ?_ | refine blk_alloc ?_ _)); refine blk_put (cs := #[.int .i64 1,.string (⟨#[]⟩ : ByteArray),.int .i64 0]) ?_ 1 _ rfl; (with_reducible repeat (first | refine blk_bytes ?_ _ _ | refine blk_drewN ?_ _ | refine blk_drew ?_ | refine blk_alloc ?_ _)); refine blk_put (cs := #[.int .i64 0,.string (⟨#[]⟩ : ByteArray),.int .i64 0]) ?_ 0 _ rfl; (with_reducible repeat (first | refine blk_bytes ?_ _ _ | refine blk_drewN ?_ _ | refine blk_drew ?_ | refine blk_alloc ?_ _)); exact BK404.out) Tryz.underlying43 rfl (by kernel_rfl)) rfl ?_
                     exact ⟨by first | rfl | (simp [errW_none,errW_some] <;> rfl) | (simp [*,errW_none,errW_some] <;> rfl),by repeat (first | (with_reducible first | exact HB.out | apply below_alloc | apply pw_below_drewN | apply below_drew1 | apply bytes_below1 | refine below_set ?_ GE404.out) | exact HB.out)⟩
                   · rw [if_neg c29] at H
                     exact absurd H (by simp)
             · rw [if_neg c21] at H
               exact absurd H (by simp)
           · rw [if_neg c20] at H
             have c20b0 : decide (x5_1 < (a0.size : Int)) = false := decide_eq_false c20
             clear c20
             by_cases c31 : 0 ≤ x5_1
             · rw [if_pos c31] at H
               have c31b0 := eq_true c31
               have c31b1 : decide (0 ≤ x5_1) = true := decide_eq_true c31
               clear c31
               by_cases c32 : x5_1 ≤ (a0.size : Int)
               · rw [if_pos c32] at H
                 have c32b0 := eq_true c32
                 have c32b1 : decide (x5_1 ≤ (a0.size : Int)) = true := decide_eq_true c32
                 clear c32
                 simp only [Option.some.injEq,Prod.mk.injEq] at H
                 obtain ⟨rfl,rfl,rfl,rfl,rfl⟩ := H
                 have hcz33_0 : wr.cell? ⟨gb404,0,none⟩ = some (.int .i64 0) := (blk_cell BK404.out 0).trans rfl
                 have hcz33_1 : wr.cell? ⟨gb404,1,none⟩ = some (.string (⟨#[]⟩ : ByteArray)) := (blk_cell BK404.out 1).trans rfl
                 have hcz33_2 : wr.cell? ⟨gb404,2,none⟩ = some (.int .i64 0) := (blk_cell BK404.out 2).trans rfl
                 have hfz33_0 := blk_frozen BK404.out 0
                 have hfz33_1 := blk_frozen BK404.out 1
                 have hfz33_2 := blk_frozen BK404.out 2
                 go_wp2
                 refine bodyPost_ret (results_ctt rfl _ _ gb404 43 #[.int .i64 1,.string (a0.extract 0 (x5_1 : Int).toNat),.int .i64 0] (0,0) _ rfl (by (with_reducible repeat (first | refine blk_bytes ?_ _ _ | refine blk_drewN ?_ _ | refine blk_drew ?_ | refine blk_alloc ?_ _)); refine blk_put (cs := #[.int .i64 1,.string (a0.extract 0 (x5_1 : Int).toNat),.int .i64 0]) ?_ 2 _ rfl; (with_reducible repeat (first | refine blk_bytes ?_ _ _ | refine blk_drewN ?_ _ | refine blk_drew ?_ | refine blk_alloc ?_ _)); refine blk_put (cs := #[.int .i64 1,.string (⟨#[]⟩ : ByteArray),.int .i64 0]) ?_ 1 _ rfl; (with_reducible repeat (first | refine blk_bytes ?_ _ _ | refine blk_drewN ?_ _ | refine blk_drew ?_ | refine blk_alloc ?_ _)); refine blk_put (cs := #[.int .i64 0,.string (⟨#[]⟩ : ByteArray),.int .i64 0]) ?_ 0 _ rfl; (with_reducible repeat (first | refine blk_bytes ?_ _ _ | refine blk_drewN ?_ _ | refine blk_drew ?_ | refine blk_alloc ?_ _)); exact BK404.out) Tryz.underlying43 rfl (by kernel_rfl)) rfl ?_
                 exact ⟨by first | rfl | (simp [errW_none,errW_some] <;> rfl) | (simp [*,errW_none,errW_some] <;> rfl),by repeat (first | (with_reducible first | exact HB.out | apply below_alloc | apply pw_below_drewN | apply below_drew1 | apply bytes_below1 | refine below_set ?_ GE404.out) | exact HB.out)⟩
               · rw [if_neg c32] at H
                 exact absurd H (by simp)
             · rw [if_neg c31] at H
               exact absurd H (by simp)
       · replace c18 := Bool.eq_false_iff.mpr c18
         subst c18
         have H1 : ((dossierref08_sign.f k a0).bind fun bt417 => (some (bt417.1,bt417.2.1,bt417.2.2.1,bt417.2.2.2.1,bt417.2.2.2.2))) = some (r1,r2,r3,r4,r5) := by rw [if_neg (show ¬ (false = true) by decide)] at H; exact H
         clear H
         have H := H1
         clear H1
         replace H := Option.bind_eq_some_iff.mp H
         obtain ⟨⟨t417,t418,t419,t420,t421⟩,A340,H⟩ := H
         replace H : (some (t417,t418,t419,t420,t421)) = some (r1,r2,r3,r4,r5) := H
         have A34 := Aside0.mk A340
         clear A340
         simp only [Option.some.injEq,Prod.mk.injEq] at H
         obtain ⟨rfl,rfl,rfl,rfl,rfl⟩ := H
         go_enter Tryz.func43,Tryz.ntmps43
         go_wp2_with (first | ((with_reducible refine gate_dst (N := 2) rfl ?_); refine box_event ?hg (N := 2) ?hd (cs := #[.int .i64 0,.string (⟨#[]⟩ : ByteArray),.int .i64 0]) (t := 43) ?hr ?_; (case hd => rfl); (case hg => rfl); (case hr => first | (go_simp; done) | (go_simp; rfl)); intro gb404 hg w35 hbox hb; have n0_ := Aside0.mk (below_step (by repeat (first | (with_reducible first | exact HB.out | apply below_alloc | apply pw_below_drewN | apply below_drew1 | apply bytes_below1) | exact HB.out)) hb); have n1_ := Aside0.mk (hbox); have n2_ := Aside0.mk ((by rw [hg]; exact (below_size (by repeat (first | (with_reducible first | exact HB.out | apply below_alloc | apply pw_below_drewN | apply below_drew1 | apply bytes_below1) | exact HB.out))) : w.heap.size ≤ gb404)); have n3_ := Aside0.mk ((by rw [hg]; exact (below_size (by repeat (first | (with_reducible first | exact HB.out | apply below_alloc | apply pw_below_drewN | apply below_drew1 | apply bytes_below1) | exact HB.out))) : w.heap.size ≤ gb404)); clear HB; have HB := n0_; have BK404 := n1_; have GW404 := n2_; have GE404 := n3_; clear n0_ n1_ n2_ n3_; clear hb hbox hg; have p3 : 0 ≤ (0 : Int) := (by omega); have q3 : 0 < a0.size := (by have : (0 : Int) < (a0.size : Int) := of_decide_eq_true (by first | (with_reducible assumption) | assumption); omega); have hx3 : ∀ h : 0 < a0.size,((a0[0]'h).toNat : Int) = bt a0 0 := bt_at a0 0; clear p3; have qi3 : (0 < (a0.size : Int)) = True := eq_true (of_decide_eq_true (by first | (with_reducible assumption) | assumption)); replace q3 := eq_true q3) | ((with_reducible refine gate_callee (f := 64) rfl ?_); refine goesL_ (some 9) rfl rfl Tryz.func64 (by kernel_rfl) rfl #[.int .u8 (bt a0 0)] rfl (by (try simp only [List.map_toArray,List.map_cons,List.map_nil]); first | done | rfl | (simp only [List.length_drop,List.length_take]; rfl)) ?_; (with_reducible refine (dossierref08_digit.calls (bt a0 0) false _ A4.out).mono ?_); rintro e w' ⟨rfl,⟨nd,rfl⟩⟩; refine ⟨_,rfl,?_⟩; (try (rw [drewN_self w35]; generalize hq_ : World.drewN w35 _ = w35; have n0_ : Aside0 (w35.heap[gb404]? = some (.cells #[.int .i64 0,.string (⟨#[]⟩ : ByteArray),.int .i64 0] 43 (0,0))) := ⟨by rw [← hq_]; exact (by (with_reducible repeat (first | refine blk_bytes ?_ _ _ | refine blk_drewN ?_ _ | refine blk_drew ?_ | refine blk_alloc ?_ _)); exact BK404.out)⟩; have n1_ : Aside0 (Below w.heap.size w w35) := ⟨by rw [← hq_]; exact (by repeat (first | (with_reducible first | exact HB.out | apply below_alloc | apply pw_below_drewN | apply below_drew1 | apply bytes_below1 | refine below_set ?_ GE404.out) | exact HB.out))⟩; clear BK404 HB hq_; have BK404 := n0_; have HB := n1_; clear n0_ n1_)); have p10 : 0 ≤ (0 : Int) := (by omega); have q10 : 0 < a0.size := (by have : (0 : Int) < (a0.size : Int) := of_decide_eq_true (by first | (with_reducible assumption) | assumption); omega); have hx10 : ∀ h : 0 < a0.size,((a0[0]'h).toNat : Int) = bt a0 0 := bt_at a0 0; clear p10; have qi10 : (0 < (a0.size : Int)) = True := eq_true (of_decide_eq_true (by first | (with_reducible assumption) | assumption)); replace q10 := eq_true q10; have p16 : 0 ≤ (0 : Int) := (by omega); have q16 : 0 < a0.size := (by have : (0 : Int) < (a0.size : Int) := of_decide_eq_true (by first | (with_reducible assumption) | assumption); omega); have hx16 : ∀ h : 0 < a0.size,((a0[0]'h).toNat : Int) = bt a0 0 := bt_at a0 0; clear p16; have qi16 : (0 < (a0.size : Int)) = True := eq_true (of_decide_eq_true (by first | (with_reducible assumption) | assumption)); replace q16 := eq_true q16) | ((with_reducible refine gate_callee (f := 67) rfl ?_); refine goesL_ (some 27) rfl rfl Tryz.func67 (by kernel_rfl) rfl #[.int .u8 (bt a0 0)] rfl (by (try simp only [List.map_toArray,List.map_cons,List.map_nil]); first | done | rfl | (simp only [List.length_drop,List.length_take]; rfl)) ?_; (with_reducible refine (dossierref08_letter.calls (bt a0 0) false _ A17.out).mono ?_); rintro e w' ⟨rfl,⟨nd,rfl⟩⟩; refine ⟨_,rfl,?_⟩; (try (rw [drewN_self w35]; generalize hq_ : World.drewN w35 _ = w35; have n0_ : Aside0 (w35.heap[gb404]? = some (.cells #[.int .i64 0,.string (⟨#[]⟩ : ByteArray),.int .i64 0] 43 (0,0))) := ⟨by rw [← hq_]; exact (by (with_reducible repeat (first | refine blk_bytes ?_ _ _ | refine blk_drewN ?_ _ | refine blk_drew ?_ | refine blk_alloc ?_ _)); exact BK404.out)⟩; have n1_ : Aside0 (Below w.heap.size w w35) := ⟨by rw [← hq_]; exact (by repeat (first | (with_reducible first | exact HB.out | apply below_alloc | apply pw_below_drewN | apply below_drew1 | apply bytes_below1 | refine below_set ?_ GE404.out) | exact HB.out))⟩; clear BK404 HB hq_; have BK404 := n0_; have HB := n1_; clear n0_ n1_))) | ((with_reducible refine gate_callee (f := 68) rfl ?_); refine goesL_ (some 30) rfl rfl Tryz.func68 (by kernel_rfl) rfl #[.string a0] rfl (by (try simp only [List.map_toArray,List.map_cons,List.map_nil]); first | done | rfl | (simp only [List.length_drop,List.length_take]; rfl)) ?_; (with_reducible refine (dossierref08_sign.calls k a0 t417 t418 t419 t420 t421 _ A34.out).mono ?_); rintro e w36 ⟨rfl,hb⟩; refine ⟨_,rfl,?_⟩; have n0_ := Aside0.mk (blk_below (g := gb404) (o := .cells #[.int .i64 0,.string (⟨#[]⟩ : ByteArray),.int .i64 0] 43 (0,0)) (by (with_reducible repeat (first | refine blk_bytes ?_ _ _ | refine blk_drewN ?_ _ | refine blk_drew ?_ | refine blk_alloc ?_ _)); exact BK404.out) hb); have n1_ := Aside0.mk (below_step (by repeat (first | (with_reducible first | exact HB.out | apply below_alloc | apply pw_below_drewN | apply below_drew1 | apply bytes_below1 | refine below_set ?_ GE404.out) | exact HB.out)) hb); clear BK404; clear HB; have BK404 := n0_; have HB := n1_; clear n0_ n1_; (try clear hb); (try clear hb2); (try clear hk); (try clear hi); have hcz37_0 : w36.cell? ⟨gb404,0,none⟩ = some (.int .i64 0) := (blk_cell BK404.out 0).trans rfl; have hcz37_1 : w36.cell? ⟨gb404,1,none⟩ = some (.string (⟨#[]⟩ : ByteArray)) := (blk_cell BK404.out 1).trans rfl; have hcz37_2 : w36.cell? ⟨gb404,2,none⟩ = some (.int .i64 0) := (blk_cell BK404.out 2).trans rfl; have hfz37_0 := blk_frozen BK404.out 0; have hfz37_1 := blk_frozen BK404.out 1; have hfz37_2 := blk_frozen BK404.out 2))
         refine bodyPost_ret (results_ctt rfl _ _ gb404 43 #[.int .i64 t417,.string t418,.int .i64 t419] (0,0) _ rfl (by (with_reducible repeat (first | refine blk_bytes ?_ _ _ | refine blk_drewN ?_ _ | refine blk_drew ?_ | refine blk_alloc ?_ _)); refine blk_put (cs := #[.int .i64 t417,.string t418,.int .i64 0]) ?_ 2 _ rfl; (with_reducible repeat (first | refine blk_bytes ?_ _ _ | refine blk_drewN ?_ _ | refine blk_drew ?_ | refine blk_alloc ?_ _)); refine blk_put (cs := #[.int .i64 t417,.string (⟨#[]⟩ : ByteArray),.int .i64 0]) ?_ 1 _ rfl; (with_reducible repeat (first | refine blk_bytes ?_ _ _ | refine blk_drewN ?_ _ | refine blk_drew ?_ | refine blk_alloc ?_ _)); refine blk_put (cs := #[.int .i64 0,.string (⟨#[]⟩ : ByteArray),.int .i64 0]) ?_ 0 _ rfl; (with_reducible repeat (first | refine blk_bytes ?_ _ _ | refine blk_drewN ?_ _ | refine blk_drew ?_ | refine blk_alloc ?_ _)); exact BK404.out) Tryz.underlying43 rfl (by kernel_rfl)) rfl ?_
         exact ⟨by first | rfl | (simp [errW_none,errW_some] <;> rfl) | (simp [*,errW_none,errW_some] <;> rfl),by repeat (first | (with_reducible first | exact HB.out | apply below_alloc | apply pw_below_drewN | apply below_drew1 | apply bytes_below1 | refine below_set ?_ GE404.out) | exact HB.out)⟩
 · rw [if_neg c2] at H
   exact absurd H (by simp)
end
end Go.Proofs.YtifgpigicgaadaaGreatDoor.Q
end
section
/- Bytes of a kind; runs. -/
set_option linter.unusedSimpArgs false
set_option linter.unusedVariables false
namespace Go.Proofs.YtifgpigicgaadaaGreatDoor.Bytes
open Go.RowKit Go.Proofs.YtifgpigicgaadaaGreatDoor.Q Go.Proofs.YtifgpigicgaadaaGreatDoorW.PrintWords Go.Proofs.YtifgpigicgaadaaGreatDoorW.PrintLast Go.Proofs.YtifgpigicgaadaaGreatDoorH Go.Proofs.YtifgpigicgaadaaGreatDoor.Chars Go.Proofs.YtifgpigicgaadaaGreatDoor.Values

/-! ## Bytes of a kind -/
def letterV (x : Int) : Bool := (decide (65 ≤ x) && decide (x ≤ 90)) || (decide (97 ≤ x) && decide (x ≤ 122)) || decide (x = 95)
def digitV (x : Int) : Bool := decide (48 ≤ x) && decide (x ≤ 57)
theorem indexByte_neg : ∀ (l : List UInt8) (c : UInt8), (decide (Lib.indexByte l c ≥ 0)) = l.contains c
  | [], c => by simp [Lib.indexByte]
  | b :: l, c => by
    have ih := indexByte_neg l c
    have hg := Lib.indexByte_ge l c
    unfold Lib.indexByte
    by_cases h : b = c
    · subst h; simp
    · have h2 : (b == c) = false := by simp [h]
      have h3 : (c == b) = false := by simp; exact fun x => h x.symm
      rw [List.contains_cons, h3, Bool.false_or, ← ih, if_neg (by simp [h])]
      by_cases h4 : Lib.indexByte l c = -1
      · simp [h4]
      · rw [if_neg (by simp [h4])]
        rw [decide_eq_decide]; omega
theorem is_spec (x : Int) (h : 0 ≤ x ∧ x < 256) (t : ByteArray) : lexer_is.f x t = some ((bytesOf t).contains x) := by
  unfold lexer_is.f strings_IndexByte.f
  rw [Option.bind_some, indexByte_neg]
  congr 1
  unfold bytesOf
  obtain ⟨y, rfl⟩ := Int.eq_ofNat_of_zero_le h.1
  have hy : y < 256 := by omega
  rw [Bool.eq_iff_iff, List.contains_iff_mem, List.contains_iff_mem, List.mem_map]
  constructor
  · intro hm
    exact ⟨_, hm, by simp; omega⟩
  · rintro ⟨b, hb, he⟩
    have : b = (y : Int).toNat.toUInt8 := by
      apply UInt8.toNat_inj.1
      have : b.toNat = y := by exact_mod_cast he
      simp [this]; omega
    rw [← this]; exact hb
def LET : ByteArray := ⟨#[65, 66, 67, 68, 69, 70, 71, 72, 73, 74, 75, 76, 77, 78, 79, 80, 81, 82, 83, 84, 85, 86, 87, 88, 89, 90, 97, 98, 99, 100, 101, 102, 103, 104, 105, 106, 107, 108, 109, 110, 111, 112, 113, 114, 115, 116, 117, 118, 119, 120, 121, 122, 95]⟩
def LETDIG : ByteArray := ⟨#[65, 66, 67, 68, 69, 70, 71, 72, 73, 74, 75, 76, 77, 78, 79, 80, 81, 82, 83, 84, 85, 86, 87, 88, 89, 90, 97, 98, 99, 100, 101, 102, 103, 104, 105, 106, 107, 108, 109, 110, 111, 112, 113, 114, 115, 116, 117, 118, 119, 120, 121, 122, 95, 48, 49, 50, 51, 52, 53, 54, 55, 56, 57]⟩
def DIG : ByteArray := ⟨#[48, 49, 50, 51, 52, 53, 54, 55, 56, 57]⟩
theorem sets_are : ∀ y : Fin 256, (bytesOf LET).contains (y.val : Int) = letterV y.val ∧ (bytesOf LETDIG).contains (y.val : Int) = (letterV y.val || digitV y.val) ∧ (bytesOf DIG).contains (y.val : Int) = digitV y.val ∧ (bytesOf ⟨#[34, 92]⟩).contains (y.val : Int) = (decide ((y.val : Int) = 34) || decide ((y.val : Int) = 92)) := of_decide_eq_true (by kernel_rfl)
theorem sets_at (x : Int) (h : 0 ≤ x ∧ x < 256) : lexer_is.f x LET = some (letterV x) ∧ lexer_is.f x LETDIG = some (letterV x || digitV x) ∧ lexer_is.f x DIG = some (digitV x) ∧ lexer_is.f x ⟨#[34, 92]⟩ = some (decide (x = 34) || decide (x = 92)) := by
  obtain ⟨y, rfl⟩ := Int.eq_ofNat_of_zero_le h.1
  have hy := sets_are ⟨y, by omega⟩
  rw [is_spec _ h, is_spec _ h, is_spec _ h, is_spec _ h]
  exact ⟨congrArg some hy.1, congrArg some hy.2.1, congrArg some hy.2.2.1, congrArg some hy.2.2.2⟩
theorem letter_spec (x : Int) : dossierref08_letter.f x = some (letterV x) := by
  unfold dossierref08_letter.f letterV
  repeat' split
  all_goals (congr 1; rw [Bool.eq_iff_iff]; simp; omega)
theorem digit_spec (x : Int) : dossierref08_digit.f x = some (digitV x) := by
  unfold dossierref08_digit.f digitV
  split
  all_goals (congr 1; rw [Bool.eq_iff_iff]; simp; omega)

/-! ## The longest run -/
theorem run_at (s t : ByteArray) (p : Int → Bool) (hp : ∀ x, 0 ≤ x ∧ x < 256 → lexer_is.f x t = some (p x)) (hs : (bytesOf s).length ≤ 1000000) : ∀ d i k : Nat, i + d = (bytesOf s).length →
    lexer_run.l0 (k + d + 1) s t (i : Int) = some (s.extract 0 (i + (((bytesOf s).drop i).takeWhile p).length)) := by
  intro d
  induction d with
  | zero =>
    intro i k hi
    rw [lexer_run.l0, b_size, if_neg (by omega), if_pos (by omega), if_pos (by omega), List.drop_of_length_le (by omega)]
    simp
  | succ d ih =>
    intro i k hi
    have hlt : i < (bytesOf s).length := by omega
    have e2 : wrap64 ((i : Int) + 1) = ((i + 1 : Nat) : Int) := by rw [w64' _ (by omega) (by omega)]; omega
    have hb := bytes_of s _ (List.getElem_mem hlt)
    rw [show k + (d + 1) + 1 = (k + d + 1) + 1 from by omega, lexer_run.l0, b_size, if_pos (by omega), if_pos (by omega), bt_at' hlt, hp _ hb, Option.bind_some, drop_cons hlt, List.takeWhile_cons, e2, ih (i + 1) k (by omega)]
    by_cases h : p (bytesOf s)[i] = true
    · rw [if_pos h, if_pos h, List.length_cons]; congr 2; omega
    · rw [if_neg h, if_neg h, if_pos (by omega)]; simp
theorem run_spec (s t : ByteArray) (p : Int → Bool) (hp : ∀ x, 0 ≤ x ∧ x < 256 → lexer_is.f x t = some (p x)) (hs : (bytesOf s).length ≤ 1000000) (k : Nat) (hk : (bytesOf s).length + 1 ≤ k) : lexer_run.f k s t = some (s.extract 0 ((bytesOf s).takeWhile p).length) := by
  have := run_at s t p hp hs _ 0 (k - (bytesOf s).length - 1) (Nat.zero_add _)
  rw [show k - (bytesOf s).length - 1 + (bytesOf s).length + 1 = k from by omega] at this
  unfold lexer_run.f
  simpa using this
theorem name_at (s : ByteArray) (hs : (bytesOf s).length ≤ 1000000) : ∀ d i k : Nat, i + d = (bytesOf s).length →
    dossierref08_word.l0 (k + d + 1) s (i : Int) = some (1, s.extract 0 (i + (((bytesOf s).drop i).takeWhile fun x => letterV x || digitV x).length), 0, ((i + (((bytesOf s).drop i).takeWhile fun x => letterV x || digitV x).length : Nat) : Int), true) := by
  intro d
  induction d with
  | zero =>
    intro i k hi
    rw [dossierref08_word.l0, b_size, if_neg (by omega), if_pos (by omega), if_pos (by omega), List.drop_of_length_le (by omega)]
    simp
  | succ d ih =>
    intro i k hi
    have hlt : i < (bytesOf s).length := by omega
    have e2 : wrap64 ((i : Int) + 1) = ((i + 1 : Nat) : Int) := by rw [w64' _ (by omega) (by omega)]; omega
    rw [show k + (d + 1) + 1 = (k + d + 1) + 1 from by omega, dossierref08_word.l0, b_size, if_pos (by omega), if_pos (by omega), bt_at' hlt, letter_spec, digit_spec, Option.bind_some, Option.bind_some, drop_cons hlt, List.takeWhile_cons, e2, ih (i + 1) k (by omega)]
    by_cases h : letterV (bytesOf s)[i] = true
    · simp only [h, if_true, Bool.true_or, List.length_cons]
      rw [show i + 1 + (((bytesOf s).drop (i + 1)).takeWhile fun x => letterV x || digitV x).length = i + ((((bytesOf s).drop (i + 1)).takeWhile fun x => letterV x || digitV x).length + 1) from by omega]
    · by_cases h2 : digitV (bytesOf s)[i] = true
      · simp only [h, h2, if_true, Bool.or_true, List.length_cons]
        rw [show i + 1 + (((bytesOf s).drop (i + 1)).takeWhile fun x => letterV x || digitV x).length = i + ((((bytesOf s).drop (i + 1)).takeWhile fun x => letterV x || digitV x).length + 1) from by omega]
        simp
      · simp [h, h2]
        omega
theorem integer_at (s : ByteArray) (hs : (bytesOf s).length ≤ 1000000) (B : Nat) (r : Int × Int) (n : Nat) (hN : ∀ k, B ≤ k → dossierref01_Number.f k (s.extract 0 n) = some r) : ∀ d i k : Nat, i + d = (bytesOf s).length → i + (((bytesOf s).drop i).takeWhile digitV).length = n →
    dossierref08_integer.l0 (B + k + d + 1) s (i : Int) = some (2, ⟨#[]⟩, r.1, (n : Int), (r.2 == 0)) := by
  intro d
  induction d with
  | zero =>
    intro i k hi hn
    rw [List.drop_of_length_le (by omega)] at hn
    have hn2 : n = i := by simpa using hn.symm
    subst hn2
    rw [dossierref08_integer.l0, b_size, if_neg (by omega), if_pos (by omega), if_pos (by omega), Int.toNat_natCast, hN _ (by omega)]
    rfl
  | succ d ih =>
    intro i k hi hn
    have hlt : i < (bytesOf s).length := by omega
    have e2 : wrap64 ((i : Int) + 1) = ((i + 1 : Nat) : Int) := by rw [w64' _ (by omega) (by omega)]; omega
    rw [show B + k + (d + 1) + 1 = (B + k + d + 1) + 1 from by omega, dossierref08_integer.l0, b_size, if_pos (by omega), if_pos (by omega), bt_at' hlt, digit_spec, Option.bind_some, e2]
    rw [drop_cons hlt, List.takeWhile_cons] at hn
    by_cases h : digitV (bytesOf s)[i] = true
    · rw [if_pos h] at hn ⊢
      rw [List.length_cons] at hn
      exact ih (i + 1) k (by omega) (by omega)
    · rw [if_neg h] at hn ⊢
      have hn2 : n = i := by simpa using hn.symm
      subst hn2
      rw [if_pos (by omega), Int.toNat_natCast, hN _ (by omega)]; rfl
end Go.Proofs.YtifgpigicgaadaaGreatDoor.Bytes
end
section
namespace Go.Proofs.YtifgpigicgaadaaGreatDoor.Q
open Go.RowKit Go.Proofs.YtifgpigicgaadaaGreatDoorH Go.Proofs.YtifgpigicgaadaaGreatDoorW.PrintWords Go.Proofs.YtifgpigicgaadaaGreatDoorW.PrintLast Go.Proofs.YtifgpigicgaadaaGreatDoorW.PrintMore
attribute [local go_sem] max2_int min2_int max_two min_two max_three min_three max_four min_four
set_option linter.unusedVariables false
set_option linter.unusedSimpArgs false
section
/-! ### chars_Number: function 61 -/
mutual
def chars_Number.j0 : Nat → ByteArray → Bool → Option (Int × Int)
 | 0,_,_ => none
 | k + 1,x0,x4 => if x4 = true then (if 1 ≤ (x0.size : Int) then (chars_Number.j1 k x0 x4 (x0.extract 1 x0.size)) else (none)) else (chars_Number.j1 k x0 x4 x0)
def chars_Number.j1 : Nat → ByteArray → Bool → ByteArray → Option (Int × Int)
 | 0,_,_,_ => none
 | k + 1,x0,x4,x5 => if x5.toList = ([] : List UInt8) then (chars_Number.j2 k x4 x5 true) else (if 0 < (x5.size : Int) then (if (bt x5 0) = 48 then (chars_Number.j2 k x4 x5 (decide ((x0.size : Int) > 1))) else (chars_Number.j2 k x4 x5 false)) else (none))
def chars_Number.j2 : Nat → Bool → ByteArray → Bool → Option (Int × Int)
 | 0,_,_,_ => none
 | k + 1,x4,x5,x34 => if x34 = true then (some (0,5)) else (if x5.size < 140737488355328 then (chars_Number.l0 k x4 0 (decide ((x5.size : Int) > 19)) x5 (x5.size : Int) 0) else none)
def chars_Number.l0 : Nat → Bool → Int → Bool → ByteArray → Int → Int → Option (Int × Int)
 | 0,_,_,_,_,_,_ => none
 | k + 1,x4,x6,x7,x39,x40,x41 => if x41 < x40 then (if 0 ≤ x41 then (if x41 < (x39.size : Int) then (if (bt x39 x41) < 48 then (chars_Number.j4 k x4 x6 x7 (bt x39 x41) x39 x40 x41 true) else (chars_Number.j4 k x4 x6 x7 (bt x39 x41) x39 x40 x41 (decide ((bt x39 x41) > 57)))) else (none)) else (none)) else (if x4 = true then (chars_Number.j5 k x4 x6 x7 9223372036854775808) else (chars_Number.j5 k x4 x6 x7 (9223372036854775808 - 1)))
def chars_Number.j4 : Nat → Bool → Int → Bool → Int → ByteArray → Int → Int → Bool → Option (Int × Int)
 | 0,_,_,_,_,_,_,_,_ => none
 | k + 1,x4,x6,x7,x9,x39,x40,x41,x50 => if x50 = true then (some (0,5)) else (if x7 = true then (chars_Number.l0 k x4 x6 x7 x39 x40 (wrap64 (x41 + 1))) else (chars_Number.l0 k x4 (IntKind.u64.wrap ((IntKind.u64.wrap (10 * x6)) + ((x9 - 48) % 256))) x7 x39 x40 (wrap64 (x41 + 1))))
def chars_Number.j5 : Nat → Bool → Int → Bool → Int → Option (Int × Int)
 | 0,_,_,_,_ => none
 | k + 1,x4,x6,x7,x10 => if x7 = true then (chars_Number.j6 k x4 x6 true) else (chars_Number.j6 k x4 x6 (decide (x6 > x10)))
def chars_Number.j6 : Nat → Bool → Int → Bool → Option (Int × Int)
 | 0,_,_,_ => none
 | k + 1,x4,x6,x64 => if x64 = true then (some (0,4)) else (if x4 = true then (some (wrap64 (-(wrap64 (x6))),0)) else (some (wrap64 (x6),0)))
end
def chars_Number.f (k : Nat) (a0 : ByteArray) : Option (Int × Int) := if (a0.size : Int) > 0 then (if 0 < (a0.size : Int) then (chars_Number.j0 k a0 ((bt a0 0) == 45)) else (none)) else (chars_Number.j0 k a0 false)
theorem chars_Number.mono_l : ∀ k,(∀ y0 y1,LeO (chars_Number.j0 k y0 y1) (chars_Number.j0 (k + 1) y0 y1)) ∧ (∀ y0 y1 y2,LeO (chars_Number.j1 k y0 y1 y2) (chars_Number.j1 (k + 1) y0 y1 y2)) ∧ (∀ y0 y1 y2,LeO (chars_Number.j2 k y0 y1 y2) (chars_Number.j2 (k + 1) y0 y1 y2)) ∧ (∀ y0 y1 y2 y3 y4 y5,LeO (chars_Number.l0 k y0 y1 y2 y3 y4 y5) (chars_Number.l0 (k + 1) y0 y1 y2 y3 y4 y5)) ∧ (∀ y0 y1 y2 y3 y4 y5 y6 y7,LeO (chars_Number.j4 k y0 y1 y2 y3 y4 y5 y6 y7) (chars_Number.j4 (k + 1) y0 y1 y2 y3 y4 y5 y6 y7)) ∧ (∀ y0 y1 y2 y3,LeO (chars_Number.j5 k y0 y1 y2 y3) (chars_Number.j5 (k + 1) y0 y1 y2 y3)) ∧ (∀ y0 y1 y2,LeO (chars_Number.j6 k y0 y1 y2) (chars_Number.j6 (k + 1) y0 y1 y2))
 | 0 => ⟨fun _ _ r h => by simp [chars_Number.j0] at h,fun _ _ _ r h => by simp [chars_Number.j1] at h,fun _ _ _ r h => by simp [chars_Number.j2] at h,fun _ _ _ _ _ _ r h => by simp [chars_Number.l0] at h,fun _ _ _ _ _ _ _ _ r h => by simp [chars_Number.j4] at h,fun _ _ _ _ r h => by simp [chars_Number.j5] at h,fun _ _ _ r h => by simp [chars_Number.j6] at h⟩
 | k + 1 => by
  obtain ⟨ih0,ih1,ih2,ih3,ih4,ih5,ih6⟩ := chars_Number.mono_l k
  refine ⟨?_,?_,?_,?_,?_,?_,?_⟩
  · intro y0 y1
    unfold chars_Number.j0
    repeat' first
    | (with_reducible exact ih0 _ _)
    | (with_reducible exact ih1 _ _ _)
    | (with_reducible exact ih2 _ _ _)
    | (with_reducible exact ih3 _ _ _ _ _ _)
    | (with_reducible exact ih4 _ _ _ _ _ _ _ _)
    | (with_reducible exact ih5 _ _ _ _)
    | (with_reducible exact ih6 _ _ _)
    | (with_reducible exact LeO.refl _)
    | (with_reducible exact LeO.none _)
    | (with_reducible refine LeO.ite ?_ ?_)
    | (with_reducible refine LeO.bind ?_ (fun _ => ?_))
    | exact ih0 _ _
    | exact ih1 _ _ _
    | exact ih2 _ _ _
    | exact ih3 _ _ _ _ _ _
    | exact ih4 _ _ _ _ _ _ _ _
    | exact ih5 _ _ _ _
    | exact ih6 _ _ _
    | exact LeO.none _
    | refine LeO.ite ?_ ?_
    | refine LeO.bind ?_ (fun _ => ?_)
  · intro y0 y1 y2
    unfold chars_Number.j1
    repeat' first
    | (with_reducible exact ih0 _ _)
    | (with_reducible exact ih1 _ _ _)
    | (with_reducible exact ih2 _ _ _)
    | (with_reducible exact ih3 _ _ _ _ _ _)
    | (with_reducible exact ih4 _ _ _ _ _ _ _ _)
    | (with_reducible exact ih5 _ _ _ _)
    | (with_reducible exact ih6 _ _ _)
    | (with_reducible exact LeO.refl _)
    | (with_reducible exact LeO.none _)
    | (with_reducible refine LeO.ite ?_ ?_)
    | (with_reducible refine LeO.bind ?_ (fun _ => ?_))
    | exact ih0 _ _
    | exact ih1 _ _ _
    | exact ih2 _ _ _
    | exact ih3 _ _ _ _ _ _
    | exact ih4 _ _ _ _ _ _ _ _
    | exact ih5 _ _ _ _
    | exact ih6 _ _ _
    | exact LeO.none _
    | refine LeO.ite ?_ ?_
    | refine LeO.bind ?_ (fun _ => ?_)
  · intro y0 y1 y2
    unfold chars_Number.j2
    repeat' first
    | (with_reducible exact ih0 _ _)
    | (with_reducible exact ih1 _ _ _)
    | (with_reducible exact ih2 _ _ _)
    | (with_reducible exact ih3 _ _ _ _ _ _)
    | (with_reducible exact ih4 _ _ _ _ _ _ _ _)
    | (with_reducible exact ih5 _ _ _ _)
    | (with_reducible exact ih6 _ _ _)
    | (with_reducible exact LeO.refl _)
    | (with_reducible exact LeO.none _)
    | (with_reducible refine LeO.ite ?_ ?_)
    | (with_reducible refine LeO.bind ?_ (fun _ => ?_))
    | exact ih0 _ _
    | exact ih1 _ _ _
    | exact ih2 _ _ _
    | exact ih3 _ _ _ _ _ _
    | exact ih4 _ _ _ _ _ _ _ _
    | exact ih5 _ _ _ _
    | exact ih6 _ _ _
    | exact LeO.none _
    | refine LeO.ite ?_ ?_
    | refine LeO.bind ?_ (fun _ => ?_)
  · intro y0 y1 y2 y3 y4 y5
    unfold chars_Number.l0
    repeat' first
    | (with_reducible exact ih0 _ _)
    | (with_reducible exact ih1 _ _ _)
    | (with_reducible exact ih2 _ _ _)
    | (with_reducible exact ih3 _ _ _ _ _ _)
    | (with_reducible exact ih4 _ _ _ _ _ _ _ _)
    | (with_reducible exact ih5 _ _ _ _)
    | (with_reducible exact ih6 _ _ _)
    | (with_reducible exact LeO.refl _)
    | (with_reducible exact LeO.none _)
    | (with_reducible refine LeO.ite ?_ ?_)
    | (with_reducible refine LeO.bind ?_ (fun _ => ?_))
    | exact ih0 _ _
    | exact ih1 _ _ _
    | exact ih2 _ _ _
    | exact ih3 _ _ _ _ _ _
    | exact ih4 _ _ _ _ _ _ _ _
    | exact ih5 _ _ _ _
    | exact ih6 _ _ _
    | exact LeO.none _
    | refine LeO.ite ?_ ?_
    | refine LeO.bind ?_ (fun _ => ?_)
  · intro y0 y1 y2 y3 y4 y5 y6 y7
    unfold chars_Number.j4
    repeat' first
    | (with_reducible exact ih0 _ _)
    | (with_reducible exact ih1 _ _ _)
    | (with_reducible exact ih2 _ _ _)
    | (with_reducible exact ih3 _ _ _ _ _ _)
    | (with_reducible exact ih4 _ _ _ _ _ _ _ _)
    | (with_reducible exact ih5 _ _ _ _)
    | (with_reducible exact ih6 _ _ _)
    | (with_reducible exact LeO.refl _)
    | (with_reducible exact LeO.none _)
    | (with_reducible refine LeO.ite ?_ ?_)
    | (with_reducible refine LeO.bind ?_ (fun _ => ?_))
    | exact ih0 _ _
    | exact ih1 _ _ _
    | exact ih2 _ _ _
    | exact ih3 _ _ _ _ _ _
    | exact ih4 _ _ _ _ _ _ _ _
    | exact ih5 _ _ _ _
    | exact ih6 _ _ _
    | exact LeO.none _
    | refine LeO.ite ?_ ?_
    | refine LeO.bind ?_ (fun _ => ?_)
  · intro y0 y1 y2 y3
    unfold chars_Number.j5
    repeat' first
    | (with_reducible exact ih0 _ _)
    | (with_reducible exact ih1 _ _ _)
    | (with_reducible exact ih2 _ _ _)
    | (with_reducible exact ih3 _ _ _ _ _ _)
    | (with_reducible exact ih4 _ _ _ _ _ _ _ _)
    | (with_reducible exact ih5 _ _ _ _)
    | (with_reducible exact ih6 _ _ _)
    | (with_reducible exact LeO.refl _)
    | (with_reducible exact LeO.none _)
    | (with_reducible refine LeO.ite ?_ ?_)
    | (with_reducible refine LeO.bind ?_ (fun _ => ?_))
    | exact ih0 _ _
    | exact ih1 _ _ _
    | exact ih2 _ _ _
    | exact ih3 _ _ _ _ _ _
    | exact ih4 _ _ _ _ _ _ _ _
    | exact ih5 _ _ _ _
    | exact ih6 _ _ _
    | exact LeO.none _
    | refine LeO.ite ?_ ?_
    | refine LeO.bind ?_ (fun _ => ?_)
  · intro y0 y1 y2
    unfold chars_Number.j6
    repeat' first
    | (with_reducible exact ih0 _ _)
    | (with_reducible exact ih1 _ _ _)
    | (with_reducible exact ih2 _ _ _)
    | (with_reducible exact ih3 _ _ _ _ _ _)
    | (with_reducible exact ih4 _ _ _ _ _ _ _ _)
    | (with_reducible exact ih5 _ _ _ _)
    | (with_reducible exact ih6 _ _ _)
    | (with_reducible exact LeO.refl _)
    | (with_reducible exact LeO.none _)
    | (with_reducible refine LeO.ite ?_ ?_)
    | (with_reducible refine LeO.bind ?_ (fun _ => ?_))
    | exact ih0 _ _
    | exact ih1 _ _ _
    | exact ih2 _ _ _
    | exact ih3 _ _ _ _ _ _
    | exact ih4 _ _ _ _ _ _ _ _
    | exact ih5 _ _ _ _
    | exact ih6 _ _ _
    | exact LeO.none _
    | refine LeO.ite ?_ ?_
    | refine LeO.bind ?_ (fun _ => ?_)
theorem chars_Number.mono : ∀ a0 k,LeO (chars_Number.f k a0) (chars_Number.f (k + 1) a0) := by
 intro a0 k
 obtain ⟨ih0,ih1,ih2,ih3,ih4,ih5,ih6⟩ := chars_Number.mono_l k
 unfold chars_Number.f
 repeat' first
  | (with_reducible exact ih0 _ _)
  | (with_reducible exact ih1 _ _ _)
  | (with_reducible exact ih2 _ _ _)
  | (with_reducible exact ih3 _ _ _ _ _ _)
  | (with_reducible exact ih4 _ _ _ _ _ _ _ _)
  | (with_reducible exact ih5 _ _ _ _)
  | (with_reducible exact ih6 _ _ _)
  | (with_reducible exact LeO.refl _)
  | (with_reducible exact LeO.none _)
  | (with_reducible refine LeO.ite ?_ ?_)
  | (with_reducible refine LeO.bind ?_ (fun _ => ?_))
  | exact ih0 _ _
  | exact ih1 _ _ _
  | exact ih2 _ _ _
  | exact ih3 _ _ _ _ _ _
  | exact ih4 _ _ _ _ _ _ _ _
  | exact ih5 _ _ _ _
  | exact ih6 _ _ _
  | exact LeO.none _
  | refine LeO.ite ?_ ?_
  | refine LeO.bind ?_ (fun _ => ?_)
set_option maxHeartbeats 8000000 in
set_option maxRecDepth 100000 in
theorem chars_Number.calls (k : Nat) (a0 : ByteArray) (r1 : Int) (r2 : Int) (w : World) (h : chars_Number.f k a0 = some (r1,r2)) :
 Calls Tryz.prog 61 #[.string a0] w fun e w' => e = .returned (.tuple #[.int .i64 r1,.int .i64 r2]) ∧ Below w.heap.size w w' := by
 have H : (if (a0.size : Int) > 0 then (if 0 < (a0.size : Int) then (chars_Number.j0 k a0 ((bt a0 0) == 45)) else (none)) else (chars_Number.j0 k a0 false)) = some (r1,r2) := h
 clear h
 have HC2 := Aside0.mk H
 clear H
 go_enter Tryz.func61,Tryz.ntmps61
 go_upto_region 1 with (fail)
 go_cut [4] (fun v4 wc => ∃ (kq : Nat) (x4_1 : Bool),v4 = .bool x4_1 ∧ Aside0 (chars_Number.j0 kq a0 x4_1 = some (r1,r2)) ∧ Aside0 (kq ≤ k) ∧ Drawn0 w wc)
 case first =>
  have H := HC2.out
  clear HC2
  by_cases c3 : (a0.size : Int) > 0
  · rw [if_pos c3] at H
    have c3b0 : decide (0 < (a0.size : Int)) = true := decide_eq_true c3
    have c3b1 : decide (0 < a0.size) = true := decide_eq_true (by omega)
    clear c3
    (first | rw [c3b0] | (simp only [i64_w,i32_w]; rw [c3b0]) | skip)
    by_cases c4 : 0 < (a0.size : Int)
    · rw [if_pos c4] at H
      have c4b0 : decide (0 < (a0.size : Int)) = true := decide_eq_true c4
      have c4b1 : decide (0 < a0.size) = true := decide_eq_true (by omega)
      clear c4
      have H' := Aside0.mk H
      clear H
      have p5 : 0 ≤ (0 : Int) := (by omega)
      have q5 : 0 < a0.size := (by have : (0 : Int) < (a0.size : Int) := of_decide_eq_true (by first | (with_reducible assumption) | assumption); omega)
      have hx5 : ∀ h : 0 < a0.size,((a0[0]'h).toNat : Int) = bt a0 0 := bt_at a0 0
      clear p5
      have qi5 : (0 < (a0.size : Int)) = True := eq_true (of_decide_eq_true (by first | (with_reducible assumption) | assumption))
      replace q5 := eq_true q5
      go_wp2
      go_meet
      case rel => exact ⟨_,(((bt a0 0) == 45)),(by first | rfl | (simp; done) | (simp [*]; done)),H',⟨by first | omega | exact Nat.le_refl _⟩,by repeat (first | exact Drawn0.refl _ | apply Drawn0.step)⟩
    · rw [if_neg c4] at H
      exact absurd H (by simp)
  · rw [if_neg c3] at H
    have c3b0 : decide (0 < (a0.size : Int)) = false := decide_eq_false c3
    have c3b1 : decide (0 < a0.size) = false := decide_eq_false (by omega)
    clear c3
    (first | rw [c3b0] | (simp only [i64_w,i32_w]; rw [c3b0]) | skip)
    have H' := Aside0.mk H
    clear H
    go_wp2
    go_meet
    case rel => exact ⟨_,(false),(by first | rfl | (simp; done) | (simp [*]; done)),H',⟨by first | omega | exact Nat.le_refl _⟩,by repeat (first | exact Drawn0.refl _ | apply Drawn0.step)⟩
 case rest =>
  clear HC2
  try clear p2
  try clear c3
  try clear c3b0
  try clear c3b1
  try clear c4
  try clear c4b0
  try clear c4b1
  try clear c5
  try clear p5
  try clear q5
  try clear hx5
  try clear qi5
  try clear p5
  try clear q5
  obtain ⟨kq,x4_1,rfl,HA,HJ1,⟨mc1,rfl⟩⟩ := hcut
  cases kq with
  | zero => exact absurd HA.out (by simp [chars_Number.j0])
  | succ kj1 =>
   have H := HA.out
   clear HA
   simp only [chars_Number.j0] at H
   have HC6 := Aside0.mk H
   clear H
   go_upto_if 20 with (fail)
   go_cut [5] (fun v5 wc => ∃ (kq : Nat) (x5_5 : ByteArray),v5 = .string x5_5 ∧ Aside0 (chars_Number.j1 kq a0 x4_1 x5_5 = some (r1,r2)) ∧ Aside0 (kq ≤ kj1) ∧ Drawn0 w wc)
   case first =>
    have H := HC6.out
    clear HC6
    by_cases c7 : x4_1 = true
    · subst c7
      have H1 : (if 1 ≤ (a0.size : Int) then (chars_Number.j1 kj1 a0 true (a0.extract 1 a0.size)) else (none)) = some (r1,r2) := by rw [if_pos rfl] at H; exact H
      clear H
      have H := H1
      clear H1
      by_cases c8 : 1 ≤ (a0.size : Int)
      · rw [if_pos c8] at H
        have c8b0 := eq_true c8
        have c8b1 : decide (1 ≤ (a0.size : Int)) = true := decide_eq_true c8
        clear c8
        have H' := Aside0.mk H
        clear H
        go_wp2
        go_meet
        case rel => exact ⟨_,(a0.extract 1 a0.size),(by first | rfl | (simp; done) | (simp [*]; done)),H',⟨by have := HJ1.out; first | omega | exact Nat.le_refl _⟩,by repeat (first | exact Drawn0.refl _ | apply Drawn0.step)⟩
      · rw [if_neg c8] at H
        exact absurd H (by simp)
    · replace c7 := Bool.eq_false_iff.mpr c7
      subst c7
      have H1 : (chars_Number.j1 kj1 a0 false a0) = some (r1,r2) := by rw [if_neg (show ¬ (false = true) by decide)] at H; exact H
      clear H
      have H := H1
      clear H1
      have H' := Aside0.mk H
      clear H
      go_wp2
      go_meet
      case rel => exact ⟨_,(a0),(by first | rfl | (simp; done) | (simp [*]; done)),H',⟨by have := HJ1.out; first | omega | exact Nat.le_refl _⟩,by repeat (first | exact Drawn0.refl _ | apply Drawn0.step)⟩
   case rest =>
    clear HC6
    try clear c1
    try clear p2
    try clear c3
    try clear c3b0
    try clear c3b1
    try clear c4
    try clear c4b0
    try clear c4b1
    try clear c5
    try clear p5
    try clear q5
    try clear hx5
    try clear qi5
    try clear c7
    try clear c8
    try clear c8b0
    try clear c8b1
    try clear p2
    try clear p5
    try clear q5
    obtain ⟨kq,x5_5,rfl,HA,HJ5,⟨mc5,rfl⟩⟩ := hcut
    cases kq with
    | zero => exact absurd HA.out (by simp [chars_Number.j1])
    | succ kj5 =>
     have H := HA.out
     clear HA
     simp only [chars_Number.j1] at H
     have HC9 := Aside0.mk H
     clear H
     go_upto_region 5 with (fail)
     go_cut [34] (fun v34 wc => ∃ (kq : Nat) (x34_8 : Bool),v34 = .bool x34_8 ∧ Aside0 (chars_Number.j2 kq x4_1 x5_5 x34_8 = some (r1,r2)) ∧ Aside0 (kq ≤ kj5) ∧ Drawn0 w wc)
     case first =>
      have H := HC9.out
      clear HC9
      by_cases c10 : x5_5.toList = ([] : List UInt8)
      · rw [if_pos c10] at H
        have c10b0 : (x5_5.toList == ([] : List UInt8)) = true := beq_iff_eq.mpr c10
        have c10b1 : (x5_5.toList != ([] : List UInt8)) = false := bne_eq_false_iff_eq.mpr c10
        clear c10
        (first | rw [c10b0] | (simp only [i64_w,i32_w]; rw [c10b0]) | skip)
        have H' := Aside0.mk H
        clear H
        go_wp2
        go_meet
        case rel => exact ⟨_,(true),(by first | rfl | (simp; done) | (simp [*]; done)),H',⟨by have := HJ1.out; have := HJ5.out; first | omega | exact Nat.le_refl _⟩,by repeat (first | exact Drawn0.refl _ | apply Drawn0.step)⟩
      · rw [if_neg c10] at H
        have c10b0 : (x5_5.toList == ([] : List UInt8)) = false := beq_eq_false_iff_ne.mpr c10
        have c10b1 : (x5_5.toList != ([] : List UInt8)) = true := bne_iff_ne.mpr c10
        (first | rw [c10b0] | (simp only [i64_w,i32_w]; rw [c10b0]) | skip)
        by_cases c11 : 0 < (x5_5.size : Int)
        · rw [if_pos c11] at H
          have c11b0 : decide (0 < (x5_5.size : Int)) = true := decide_eq_true c11
          have c11b1 : decide (0 < x5_5.size) = true := decide_eq_true (by omega)
          clear c11
          by_cases c13 : (bt x5_5 0) = 48
          · rw [if_pos c13] at H
            have c13b0 : ((bt x5_5 0) == 48) = true := beq_iff_eq.mpr c13
            have c13b1 : ((bt x5_5 0) != 48) = false := bne_eq_false_iff_eq.mpr c13
            clear c13
            have H' := Aside0.mk H
            clear H
            have p12 : 0 ≤ (0 : Int) := (by omega)
            have q12 : 0 < x5_5.size := (by have : (0 : Int) < (x5_5.size : Int) := of_decide_eq_true (by first | (with_reducible assumption) | assumption); omega)
            have hx12 : ∀ h : 0 < x5_5.size,((x5_5[0]'h).toNat : Int) = bt x5_5 0 := bt_at x5_5 0
            clear p12
            have qi12 : (0 < (x5_5.size : Int)) = True := eq_true (of_decide_eq_true (by first | (with_reducible assumption) | assumption))
            replace q12 := eq_true q12
            go_wp2
            go_meet
            case rel => exact ⟨_,(decide ((a0.size : Int) > 1)),(by first | rfl | (simp; done) | (simp [*]; done)),H',⟨by have := HJ1.out; have := HJ5.out; first | omega | exact Nat.le_refl _⟩,by repeat (first | exact Drawn0.refl _ | apply Drawn0.step)⟩
          · rw [if_neg c13] at H
            have c13b0 : ((bt x5_5 0) == 48) = false := beq_eq_false_iff_ne.mpr c13
            have c13b1 : ((bt x5_5 0) != 48) = true := bne_iff_ne.mpr c13
            have H' := Aside0.mk H
            clear H
            have p12 : 0 ≤ (0 : Int) := (by omega)
            have q12 : 0 < x5_5.size := (by have : (0 : Int) < (x5_5.size : Int) := of_decide_eq_true (by first | (with_reducible assumption) | assumption); omega)
            have hx12 : ∀ h : 0 < x5_5.size,((x5_5[0]'h).toNat : Int) = bt x5_5 0 := bt_at x5_5 0
            clear p12
            have qi12 : (0 < (x5_5.size : Int)) = True := eq_true (of_decide_eq_true (by first | (with_reducible assumption) | assumption))
            replace q12 := eq_true q12
            go_wp2
            go_meet
            case rel => exact ⟨_,(false),(by first | rfl | (simp; done) | (simp [*]; done)),H',⟨by have := HJ1.out; have := HJ5.out; first | omega | exact Nat.le_refl _⟩,by repeat (first | exact Drawn0.refl _ | apply Drawn0.step)⟩
        · rw [if_neg c11] at H
          exact absurd H (by simp)
     case rest =>
      clear HC9
      try clear c1
      try clear p1
      try clear q1
      try clear hx1
      try clear qi1
      try clear p2
      try clear c3
      try clear c3b0
      try clear c3b1
      try clear c4
      try clear c4b0
      try clear c4b1
      try clear c5
      try clear p5
      try clear q5
      try clear hx5
      try clear qi5
      try clear c7
      try clear c8
      try clear c8b0
      try clear c8b1
      try clear c10
      try clear c10b0
      try clear c10b1
      try clear c11
      try clear c11b0
      try clear c11b1
      try clear p12
      try clear q12
      try clear hx12
      try clear qi12
      try clear c13
      try clear c13b0
      try clear c13b1
      try clear p12
      try clear p2
      try clear p5
      try clear q12
      try clear q5
      obtain ⟨kq,x34_8,rfl,HA,HJ8,HD8⟩ := hcut
      obtain ⟨W0,rfl⟩ : ∃ W0 : World,W0 = wc := ⟨_,rfl⟩
      cases kq with
      | zero => exact absurd HA.out (by simp [chars_Number.j2])
      | succ kj8 =>
       have H := HA.out
       clear HA
       simp only [chars_Number.j2] at H
       by_cases c14 : x34_8 = true
       · subst c14
         have H1 : (some (0,5)) = some (r1,r2) := by rw [if_pos rfl] at H; exact H
         clear H
         have H := H1
         clear H1
         simp only [Option.some.injEq,Prod.mk.injEq] at H
         obtain ⟨rfl,rfl⟩ := H
         go_wp2
         go_ret2
         exact ⟨by first | rfl | (simp; done) | (simp [*]; done),Drawn0.below (by repeat (first | exact HD8 | exact Drawn0.refl _ | apply Drawn0.step))⟩
       · replace c14 := Bool.eq_false_iff.mpr c14
         subst c14
         have hlim : x5_5.size < 140737488355328 := by
          by_cases hl : x5_5.size < 140737488355328
          · exact hl
          · rw [if_neg (show ¬ (false = true) by decide),if_neg hl] at H; cases H
         have H1 : (chars_Number.l0 kj8 x4_1 0 (decide ((x5_5.size : Int) > 19)) x5_5 (x5_5.size : Int) 0) = some (r1,r2) := by rw [if_neg (show ¬ (false = true) by decide),if_pos hlim] at H; exact H
         clear H
         have H := H1
         clear H1
         have H' := Aside0.mk H
         clear H
         have kb := fun W => print_bytes (P := Tryz.prog) 9 24 5 Tryz.underlying9 Tryz.underlying24 Tryz.underlying5 x5_5 W
         have HWB : ∀ w',Drawn0 (Lib.bytesWorld W0 5 x5_5) w' → Below w.heap.size w w' := fun w' hd => by
          obtain ⟨m,rfl⟩ := hd
          exact pw_below_drewN (bytes_below HD8.below (below_size HD8.below) 5 x5_5) m
         have HCB := C_bytes_new W0 5 x5_5 _ rfl hlim
         go_wp2
         generalize hfar : decide ((x5_5.size : Int) > 19) = far at H' ⊢
         go_loopg [6,41] kj8 (fun kq v6 v41 w' => ∃ (x6_4 : Int) (x41_4 : Int),v6 = .int .u64 x6_4 ∧ v41 = .int .i64 x41_4 ∧ Aside0 (chars_Number.l0 kq x4_1 x6_4 far x5_5 (x5_5.size : Int) x41_4 = some (r1,r2)) ∧ Aside0 (kq ≤ kj8) ∧ Drawn0 (Lib.bytesWorld W0 5 x5_5) w')
         case atStart => exact ⟨(0),(0),(by first | rfl | (simp; done) | (simp [*]; done)),(by first | rfl | (simp; done) | (simp [*]; done)),H',⟨Nat.le_refl _⟩,by repeat (first | exact Drawn0.refl _ | apply Drawn0.step)⟩
         case round =>
          clear H'
          try clear c1
          try clear p1
          try clear q1
          try clear hx1
          try clear qi1
          try clear p2
          try clear c3
          try clear c3b0
          try clear c3b1
          try clear c4
          try clear c4b0
          try clear c4b1
          try clear c5
          try clear p5
          try clear q5
          try clear hx5
          try clear qi5
          try clear c7
          try clear c8
          try clear c8b0
          try clear c8b1
          try clear c10
          try clear c10b0
          try clear c10b1
          try clear c11
          try clear c11b0
          try clear c11b1
          try clear p12
          try clear q12
          try clear hx12
          try clear qi12
          try clear c13
          try clear c13b0
          try clear c13b1
          try clear c14
          try clear p1
          try clear p12
          try clear p2
          try clear p5
          try clear q1
          try clear q12
          try clear q5
          obtain ⟨x6_4,x41_4,rfl,rfl,HA,HK4,⟨m4,rfl⟩⟩ := hrel
          cases gk with
          | zero => exact absurd HA.out (by simp [chars_Number.l0])
          | succ k4 =>
           have H := HA.out
           clear HA
           simp only [chars_Number.l0] at H
           by_cases c15 : x41_4 < (x5_5.size : Int)
           · rw [if_pos c15] at H
             have c15b0 : decide (x41_4 < (x5_5.size : Int)) = true := decide_eq_true c15
             clear c15
             by_cases c16 : 0 ≤ x41_4
             · rw [if_pos c16] at H
               have c16b0 : decide (0 ≤ x41_4) = true := decide_eq_true c16
               clear c16
               by_cases c17 : x41_4 < (x5_5.size : Int)
               · rw [if_pos c17] at H
                 have c17b0 : decide (x41_4 < (x5_5.size : Int)) = true := decide_eq_true c17
                 clear c17
                 have HC19 := Aside0.mk H
                 clear H
                 have p18 : 0 ≤ (x41_4 : Int) := of_decide_eq_true (by first | (with_reducible assumption) | assumption)
                 have q18 : x41_4 < (x5_5.size : Int) := of_decide_eq_true (by first | (with_reducible assumption) | assumption)
                 obtain ⟨ad18,e18,hx18⟩ := Kd.at_int HCB x41_4 p18 (by omega)
                 cases e18
                 rw [rd_bytesOf] at hx18
                 replace hx18 := (((Drawn0.refl (Lib.bytesWorld W0 5 x5_5)).step m4).below.cell (World.block_lt_of_cell? _ _ hx18)).trans hx18
                 rw [show (⟨W0.heap.size,0,none⟩ : Addr).add x41_4.toNat = ⟨W0.heap.size,x41_4.toNat,none⟩ from add_plain _ _] at hx18
                 replace p18 := eq_true p18
                 replace q18 := eq_true q18
                 go_upto_region 12 with (fail)
                 go_cut [50] (fun v50 wc => ∃ (kq : Nat) (x50_18 : Bool),v50 = .bool x50_18 ∧ Aside0 (chars_Number.j4 kq x4_1 x6_4 far (bt x5_5 x41_4) x5_5 (x5_5.size : Int) x41_4 x50_18 = some (r1,r2)) ∧ Aside0 (kq ≤ k4) ∧ Drawn0 (Lib.bytesWorld W0 5 x5_5) wc)
                 case first =>
                  have H := HC19.out
                  clear HC19
                  by_cases c20 : (bt x5_5 x41_4) < 48
                  · rw [if_pos c20] at H
                    have c20b0 : decide ((bt x5_5 x41_4) < 48) = true := decide_eq_true c20
                    clear c20
                    (first | rw [c20b0] | (simp only [i64_w,i32_w]; rw [c20b0]) | skip)
                    have H' := Aside0.mk H
                    clear H
                    go_wp2
                    go_meet
                    case rel => exact ⟨_,(true),(by first | rfl | (simp; done) | (simp [*]; done)),H',⟨by have := HJ1.out; have := HJ5.out; have := HJ8.out; have := HK4.out; first | omega | exact Nat.le_refl _⟩,by repeat (first | exact Drawn0.refl _ | apply Drawn0.step)⟩
                  · rw [if_neg c20] at H
                    have c20b0 : decide ((bt x5_5 x41_4) < 48) = false := decide_eq_false c20
                    clear c20
                    (first | rw [c20b0] | (simp only [i64_w,i32_w]; rw [c20b0]) | skip)
                    have H' := Aside0.mk H
                    clear H
                    go_wp2
                    go_meet
                    case rel => exact ⟨_,(decide ((bt x5_5 x41_4) > 57)),(by first | rfl | (simp; done) | (simp [*]; done)),H',⟨by have := HJ1.out; have := HJ5.out; have := HJ8.out; have := HK4.out; first | omega | exact Nat.le_refl _⟩,by repeat (first | exact Drawn0.refl _ | apply Drawn0.step)⟩
                 case rest =>
                  clear HC19
                  try clear c1
                  try clear p1
                  try clear q1
                  try clear hx1
                  try clear qi1
                  try clear c2
                  try clear p2
                  try clear c3
                  try clear c3b0
                  try clear c3b1
                  try clear c4
                  try clear c4b0
                  try clear c4b1
                  try clear c5
                  try clear p5
                  try clear q5
                  try clear hx5
                  try clear qi5
                  try clear c7
                  try clear c8
                  try clear c8b0
                  try clear c8b1
                  try clear c10
                  try clear c10b0
                  try clear c10b1
                  try clear c11
                  try clear c11b0
                  try clear c11b1
                  try clear p12
                  try clear q12
                  try clear hx12
                  try clear qi12
                  try clear c13
                  try clear c13b0
                  try clear c13b1
                  try clear c14
                  try clear c15
                  try clear c15b0
                  try clear c16
                  try clear c16b0
                  try clear c17
                  try clear c17b0
                  try clear p18
                  try clear q18
                  try clear hx18
                  try clear c20
                  try clear c20b0
                  try clear p1
                  try clear p12
                  try clear p18
                  try clear p2
                  try clear p5
                  try clear q1
                  try clear q12
                  try clear q18
                  try clear q5
                  obtain ⟨kq,x50_18,rfl,HA,HJ18,⟨mc18,rfl⟩⟩ := hcut
                  cases kq with
                  | zero => exact absurd HA.out (by simp [chars_Number.j4])
                  | succ kj18 =>
                   have H := HA.out
                   clear HA
                   simp only [chars_Number.j4] at H
                   by_cases c21 : x50_18 = true
                   · subst c21
                     have H1 : (some (0,5)) = some (r1,r2) := by rw [if_pos rfl] at H; exact H
                     clear H
                     have H := H1
                     clear H1
                     simp only [Option.some.injEq,Prod.mk.injEq] at H
                     obtain ⟨rfl,rfl⟩ := H
                     go_wp2
                     go_ret2
                     exact ⟨by first | rfl | (simp; done) | (simp [*]; done),HWB _ (by repeat (first | exact Drawn0.refl _ | apply Drawn0.step))⟩
                   · replace c21 := Bool.eq_false_iff.mpr c21
                     subst c21
                     have H1 : (if far = true then (chars_Number.l0 kj18 x4_1 x6_4 far x5_5 (x5_5.size : Int) (wrap64 (x41_4 + 1))) else (chars_Number.l0 kj18 x4_1 (IntKind.u64.wrap ((IntKind.u64.wrap (10 * x6_4)) + (((bt x5_5 x41_4) - 48) % 256))) far x5_5 (x5_5.size : Int) (wrap64 (x41_4 + 1)))) = some (r1,r2) := by rw [if_neg (show ¬ (false = true) by decide)] at H; exact H
                     clear H
                     have H := H1
                     clear H1
                     by_cases c22 : far = true
                     · subst c22
                       rw [if_pos rfl] at H
                       have H' := Aside0.mk H
                       clear H
                       go_wp2
                       go_roundg kj18
                       case measure => have := HJ1.out; have := HJ5.out; have := HJ8.out; have := HK4.out; have := HJ18.out; omega
                       case rel => exact ⟨(x6_4),(wrap64 (x41_4 + 1)),(by first | rfl | (simp; done) | (simp [*]; done)),(by first | rfl | (simp; done) | (simp [*]; done)),H',⟨by have := HJ1.out; have := HJ5.out; have := HJ8.out; have := HK4.out; have := HJ18.out; omega⟩,by repeat (first | exact Drawn0.refl _ | apply Drawn0.step)⟩
                     · replace c22 := Bool.eq_false_iff.mpr c22
                       subst c22
                       rw [if_neg (show ¬ (false = true) by decide)] at H
                       have H' := Aside0.mk H
                       clear H
                       go_wp2
                       go_roundg kj18
                       case measure => have := HJ1.out; have := HJ5.out; have := HJ8.out; have := HK4.out; have := HJ18.out; omega
                       case rel => exact ⟨(IntKind.u64.wrap ((IntKind.u64.wrap (10 * x6_4)) + (((bt x5_5 x41_4) - 48) % 256))),(wrap64 (x41_4 + 1)),(by first | rfl | (simp; done) | (simp [*]; done)),(by first | rfl | (simp; done) | (simp [*]; done)),H',⟨by have := HJ1.out; have := HJ5.out; have := HJ8.out; have := HK4.out; have := HJ18.out; omega⟩,by repeat (first | exact Drawn0.refl _ | apply Drawn0.step)⟩
               · rw [if_neg c17] at H
                 exact absurd H (by simp)
             · rw [if_neg c16] at H
               exact absurd H (by simp)
           · rw [if_neg c15] at H
             have c15b0 : decide (x41_4 < (x5_5.size : Int)) = false := decide_eq_false c15
             clear c15
             have HC23 := Aside0.mk H
             clear H
             go_upto_if 61 with (fail)
             go_cut [10] (fun v10 wc => ∃ (kq : Nat) (x10_22 : Int),v10 = .int .u64 x10_22 ∧ Aside0 (chars_Number.j5 kq x4_1 x6_4 far x10_22 = some (r1,r2)) ∧ Aside0 (kq ≤ k4) ∧ Drawn0 (Lib.bytesWorld W0 5 x5_5) wc)
             case first =>
              have H := HC23.out
              clear HC23
              by_cases c24 : x4_1 = true
              · subst c24
                have H1 : (chars_Number.j5 k4 true x6_4 far 9223372036854775808) = some (r1,r2) := by rw [if_pos rfl] at H; exact H
                clear H
                have H := H1
                clear H1
                have H' := Aside0.mk H
                clear H
                go_wp2
                go_meet
                case rel => exact ⟨_,(9223372036854775808),(by first | rfl | (simp; done) | (simp [*]; done)),H',⟨by have := HJ1.out; have := HJ5.out; have := HJ8.out; have := HK4.out; first | omega | exact Nat.le_refl _⟩,by repeat (first | exact Drawn0.refl _ | apply Drawn0.step)⟩
              · replace c24 := Bool.eq_false_iff.mpr c24
                subst c24
                have H1 : (chars_Number.j5 k4 false x6_4 far (9223372036854775808 - 1)) = some (r1,r2) := by rw [if_neg (show ¬ (false = true) by decide)] at H; exact H
                clear H
                have H := H1
                clear H1
                have H' := Aside0.mk H
                clear H
                go_wp2
                go_meet
                case rel => exact ⟨_,(9223372036854775808 - 1),(by first | rfl | (simp; done) | (simp [*]; done)),H',⟨by have := HJ1.out; have := HJ5.out; have := HJ8.out; have := HK4.out; first | omega | exact Nat.le_refl _⟩,by repeat (first | exact Drawn0.refl _ | apply Drawn0.step)⟩
             case rest =>
              clear HC23
              try clear c1
              try clear p1
              try clear q1
              try clear hx1
              try clear qi1
              try clear c2
              try clear p2
              try clear c3
              try clear c3b0
              try clear c3b1
              try clear c4
              try clear c4b0
              try clear c4b1
              try clear c5
              try clear p5
              try clear q5
              try clear hx5
              try clear qi5
              try clear p6
              try clear c7
              try clear c8
              try clear c8b0
              try clear c8b1
              try clear c10
              try clear c10b0
              try clear c10b1
              try clear c11
              try clear c11b0
              try clear c11b1
              try clear p12
              try clear q12
              try clear hx12
              try clear qi12
              try clear c13
              try clear c13b0
              try clear c13b1
              try clear c14
              try clear c15
              try clear c15b0
              try clear c16
              try clear c16b0
              try clear c17
              try clear c17b0
              try clear c18
              try clear p18
              try clear q18
              try clear hx18
              try clear c20
              try clear c20b0
              try clear c21
              try clear c22
              try clear c22b0
              try clear c24
              try clear p1
              try clear p12
              try clear p18
              try clear p2
              try clear p5
              try clear q1
              try clear q12
              try clear q18
              try clear q5
              obtain ⟨kq,x10_22,rfl,HA,HJ22,⟨mc22,rfl⟩⟩ := hcut
              cases kq with
              | zero => exact absurd HA.out (by simp [chars_Number.j5])
              | succ kj22 =>
               have H := HA.out
               clear HA
               simp only [chars_Number.j5] at H
               have HC25 := Aside0.mk H
               clear H
               go_upto_region 20 with (fail)
               go_cut [64] (fun v64 wc => ∃ (kq : Nat) (x64_24 : Bool),v64 = .bool x64_24 ∧ Aside0 (chars_Number.j6 kq x4_1 x6_4 x64_24 = some (r1,r2)) ∧ Aside0 (kq ≤ kj22) ∧ Drawn0 (Lib.bytesWorld W0 5 x5_5) wc)
               case first =>
                have H := HC25.out
                clear HC25
                by_cases c26 : far = true
                · subst c26
                  rw [if_pos rfl] at H
                  have H' := Aside0.mk H
                  clear H
                  go_wp2
                  go_meet
                  case rel => exact ⟨_,(true),(by first | rfl | (simp; done) | (simp [*]; done)),H',⟨by have := HJ1.out; have := HJ5.out; have := HJ8.out; have := HK4.out; have := HJ22.out; first | omega | exact Nat.le_refl _⟩,by repeat (first | exact Drawn0.refl _ | apply Drawn0.step)⟩
                · replace c26 := Bool.eq_false_iff.mpr c26
                  subst c26
                  rw [if_neg (show ¬ (false = true) by decide)] at H
                  have H' := Aside0.mk H
                  clear H
                  go_wp2
                  go_meet
                  case rel => exact ⟨_,(decide (x6_4 > x10_22)),(by first | rfl | (simp; done) | (simp [*]; done)),H',⟨by have := HJ1.out; have := HJ5.out; have := HJ8.out; have := HK4.out; have := HJ22.out; first | omega | exact Nat.le_refl _⟩,by repeat (first | exact Drawn0.refl _ | apply Drawn0.step)⟩
               case rest =>
                clear HC25
                try clear c1
                try clear p1
                try clear q1
                try clear hx1
                try clear qi1
                try clear c2
                try clear p2
                try clear c3
                try clear c3b0
                try clear c3b1
                try clear c4
                try clear c4b0
                try clear c4b1
                try clear c5
                try clear p5
                try clear q5
                try clear hx5
                try clear qi5
                try clear p6
                try clear c7
                try clear c8
                try clear c8b0
                try clear c8b1
                try clear c10
                try clear c10b0
                try clear c10b1
                try clear c11
                try clear c11b0
                try clear c11b1
                try clear p12
                try clear q12
                try clear hx12
                try clear qi12
                try clear c13
                try clear c13b0
                try clear c13b1
                try clear c14
                try clear c15
                try clear c15b0
                try clear c16
                try clear c16b0
                try clear c17
                try clear c17b0
                try clear c18
                try clear p18
                try clear q18
                try clear hx18
                try clear c20
                try clear c20b0
                try clear c21
                try clear c22
                try clear c22b0
                try clear c24
                try clear c26
                try clear c26b0
                try clear p1
                try clear p12
                try clear p18
                try clear p2
                try clear p5
                try clear p6
                try clear q1
                try clear q12
                try clear q18
                try clear q5
                obtain ⟨kq,x64_24,rfl,HA,HJ24,⟨mc24,rfl⟩⟩ := hcut
                cases kq with
                | zero => exact absurd HA.out (by simp [chars_Number.j6])
                | succ kj24 =>
                 have H := HA.out
                 clear HA
                 simp only [chars_Number.j6] at H
                 by_cases c27 : x64_24 = true
                 · subst c27
                   have H1 : (some (0,4)) = some (r1,r2) := by rw [if_pos rfl] at H; exact H
                   clear H
                   have H := H1
                   clear H1
                   simp only [Option.some.injEq,Prod.mk.injEq] at H
                   obtain ⟨rfl,rfl⟩ := H
                   go_wp2
                   go_ret2
                   exact ⟨by first | rfl | (simp; done) | (simp [*]; done),HWB _ (by repeat (first | exact Drawn0.refl _ | apply Drawn0.step))⟩
                 · replace c27 := Bool.eq_false_iff.mpr c27
                   subst c27
                   have H1 : (if x4_1 = true then (some (wrap64 (-(wrap64 (x6_4))),0)) else (some (wrap64 (x6_4),0))) = some (r1,r2) := by rw [if_neg (show ¬ (false = true) by decide)] at H; exact H
                   clear H
                   have H := H1
                   clear H1
                   by_cases c28 : x4_1 = true
                   · subst c28
                     have H1 : (some (wrap64 (-(wrap64 (x6_4))),0)) = some (r1,r2) := by rw [if_pos rfl] at H; exact H
                     clear H
                     have H := H1
                     clear H1
                     simp only [Option.some.injEq,Prod.mk.injEq] at H
                     obtain ⟨rfl,rfl⟩ := H
                     go_wp2
                     go_ret2
                     exact ⟨by first | rfl | (simp; done) | (simp [*]; done),HWB _ (by repeat (first | exact Drawn0.refl _ | apply Drawn0.step))⟩
                   · replace c28 := Bool.eq_false_iff.mpr c28
                     subst c28
                     have H1 : (some (wrap64 (x6_4),0)) = some (r1,r2) := by rw [if_neg (show ¬ (false = true) by decide)] at H; exact H
                     clear H
                     have H := H1
                     clear H1
                     simp only [Option.some.injEq,Prod.mk.injEq] at H
                     obtain ⟨rfl,rfl⟩ := H
                     go_wp2
                     go_ret2
                     exact ⟨by first | rfl | (simp; done) | (simp [*]; done),HWB _ (by repeat (first | exact Drawn0.refl _ | apply Drawn0.step))⟩
end
end Go.Proofs.YtifgpigicgaadaaGreatDoor.Q
end
