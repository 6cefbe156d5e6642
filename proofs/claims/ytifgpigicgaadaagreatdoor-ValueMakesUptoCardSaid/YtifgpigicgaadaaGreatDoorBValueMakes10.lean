/- Several texts in one, in their order. -/
import Derived.Test.YtifgpigicgaadaaGreatDoorBValueMakes2
import Derived.Test.YtifgpigicgaadaaGreatDoorBValueMakes4
import Derived.Test.YtifgpigicgaadaaGreatDoorBValueMakes8
import Derived.Test.YtifgpigicgaadaaGreatDoorBValueMakes9
section
namespace Go.Proofs.YtifgpigicgaadaaGreatDoor.Q
open Go.RowKit Go.Proofs.YtifgpigicgaadaaGreatDoorH Go.Proofs.YtifgpigicgaadaaGreatDoorW.PrintWords Go.Proofs.YtifgpigicgaadaaGreatDoorW.PrintLast Go.Proofs.YtifgpigicgaadaaGreatDoorW.PrintMore
attribute [local go_sem] max2_int min2_int max_two min_two max_three min_three max_four min_four
set_option linter.unusedVariables false
set_option linter.unusedSimpArgs false
section
/-! ### dossierref07_Write: function 17 -/
def dossierref07_Write.f (k : Nat) (l0 : List Int) (a1_0 : Int) (a1_1 : Int) (a1_2 : Bool) (a1_3 : ByteArray) : Option (List Int) := (dossierref02_Int.f k l0 a1_0).bind fun t245 => (if a1_0 = 1 then ((dossierref02_Int.f k t245 a1_1).bind fun t248 => (some t248)) else (if a1_0 = 2 then ((dossierref02_Flag.f t245 a1_2).bind fun t251 => (some t251)) else (if a1_0 = 3 then ((dossierref02_Text.f k t245 a1_3).bind fun t254 => (some t254)) else (some t245))))
set_option maxHeartbeats 8000000 in
set_option maxRecDepth 100000 in
theorem dossierref07_Write.calls (k : Nat) (A0 : Option Addr) (c0 : Nat) (l0 : List Int) (a1_0 : Int) (a1_1 : Int) (a1_2 : Bool) (a1_3 : ByteArray) (r : List Int) (w : World) (hr0 : Kd.C (Kd.int .u8) w A0 l0.length l0) (hc0 : l0.length ≤ c0) (h : dossierref07_Write.f k l0 a1_0 a1_1 a1_2 a1_3 = some r) :
 Calls Tryz.prog 17 #[.slice A0 l0.length c0,.agg #[.int .i64 a1_0,.int .i64 a1_1,.bool a1_2,.string a1_3]] w fun e w' => ∃ v0_ : Value,e = .returned (v0_) ∧ Kd.R (Kd.int .u8) 5 w' w.heap.size (fun _ => True) v0_ r ∧ Below w.heap.size w w' := by
 have hu23 := Tryz.underlying23
 have HR0 := Aside0.mk hr0
 have HC0 := Aside0.mk hc0
 clear hr0 hc0
 have HB := Aside0.mk (Below.refl w.heap.size w)
 have H : ((dossierref02_Int.f k l0 a1_0).bind fun t245 => (if a1_0 = 1 then ((dossierref02_Int.f k t245 a1_1).bind fun t248 => (some t248)) else (if a1_0 = 2 then ((dossierref02_Flag.f t245 a1_2).bind fun t251 => (some t251)) else (if a1_0 = 3 then ((dossierref02_Text.f k t245 a1_3).bind fun t254 => (some t254)) else (some t245))))) = some r := h
 clear h
 replace H := Option.bind_eq_some_iff.mp H
 obtain ⟨t245,A30,H⟩ := H
 replace H : (if a1_0 = 1 then ((dossierref02_Int.f k t245 a1_1).bind fun t248 => (some t248)) else (if a1_0 = 2 then ((dossierref02_Flag.f t245 a1_2).bind fun t251 => (some t251)) else (if a1_0 = 3 then ((dossierref02_Text.f k t245 a1_3).bind fun t254 => (some t254)) else (some t245)))) = some r := H
 have A3 := Aside0.mk A30
 clear A30
 by_cases c4 : a1_0 = 1
 · rw [if_pos c4] at H
   have c4b0 : (a1_0 == 1) = true := beq_iff_eq.mpr c4
   have c4b1 : (a1_0 != 1) = false := bne_eq_false_iff_eq.mpr c4
   clear c4
   replace H := Option.bind_eq_some_iff.mp H
   obtain ⟨t248,A50,H⟩ := H
   replace H : (some t248) = some r := H
   have A5 := Aside0.mk A50
   clear A50
   obtain rfl := Option.some.inj H
   go_enter Tryz.func17,Tryz.ntmps17
   go_wp2_with (first | ((with_reducible refine gate_dst (N := 3) rfl ?_); refine box_event ?hg (N := 3) ?hd (cs := #[.int .i64 a1_0,.int .i64 a1_1,.bool a1_2,.string a1_3]) (t := 23) ?hr ?_; (case hd => rfl); (case hg => rfl); (case hr => first | (go_simp; done) | (go_simp; rfl)); intro gb244 hg w6 hbox hb; have n0_ := Aside0.mk (below_step (by repeat (first | (with_reducible first | exact HB.out | apply below_alloc | apply pw_below_drewN | apply below_drew1 | apply bytes_below1) | exact HB.out)) hb); have n1_ := Aside0.mk (hbox); have n2_ := Aside0.mk ((by rw [hg]; exact (below_size (by repeat (first | (with_reducible first | exact HB.out | apply below_alloc | apply pw_below_drewN | apply below_drew1 | apply bytes_below1) | exact HB.out))) : w.heap.size ≤ gb244)); have n3_ := Aside0.mk ((by rw [hg]; exact (below_size (by repeat (first | (with_reducible first | exact HB.out | apply below_alloc | apply pw_below_drewN | apply below_drew1 | apply bytes_below1) | exact HB.out))) : w.heap.size ≤ gb244)); clear HB; have HB := n0_; have BK244 := n1_; have GW244 := n2_; have GE244 := n3_; clear n0_ n1_ n2_ n3_; clear hb hbox hg; have hcz7_0 : w6.cell? ⟨gb244,0,none⟩ = some (.int .i64 a1_0) := (blk_cell BK244.out 0).trans rfl; have hcz7_1 : w6.cell? ⟨gb244,1,none⟩ = some (.int .i64 a1_1) := (blk_cell BK244.out 1).trans rfl; have hcz7_2 : w6.cell? ⟨gb244,2,none⟩ = some (.bool a1_2) := (blk_cell BK244.out 2).trans rfl; have hcz7_3 : w6.cell? ⟨gb244,3,none⟩ = some (.string a1_3) := (blk_cell BK244.out 3).trans rfl; have hfz7_0 := blk_frozen BK244.out 0; have hfz7_1 := blk_frozen BK244.out 1; have hfz7_2 := blk_frozen BK244.out 2; have hfz7_3 := blk_frozen BK244.out 3) | ((with_reducible refine gate_callee (f := 31) rfl ?_); refine goesL_ (some 8) rfl rfl Tryz.func31 (by kernel_rfl) rfl #[.slice A0 l0.length c0,.int .i64 a1_0] rfl (by (try simp only [List.map_toArray,List.map_cons,List.map_nil]); first | done | rfl | (simp only [List.length_drop,List.length_take]; rfl)) ?_; (with_reducible refine (dossierref02_Int.calls k _ _ l0 a1_0 t245 _ ?side1 ?side2 A3.out).mono ?_); (case side1 => repeat (first | exact (Kd.C_below HR0.out HB.out) | (with_reducible refine Kd.C_alloc ?_ _) | (with_reducible refine C_bytes ?_ _ _) | (with_reducible refine Kd.C_drewN ?_ _) | (with_reducible refine Kd.C_drew ?_))); (case side2 => exact HC0.out); rintro e w8 ⟨v246,rfl,ho0,hb⟩; refine ⟨_,rfl,?_⟩; have n0_ := Aside0.mk (Kd.R_lower ho0 (below_size (by repeat (first | (with_reducible first | exact HB.out | apply below_alloc | apply pw_below_drewN | apply below_drew1 | apply bytes_below1 | refine below_set ?_ GE244.out) | exact HB.out)))); have n1_ := Aside0.mk (blk_below (g := gb244) (o := .cells #[.int .i64 a1_0,.int .i64 a1_1,.bool a1_2,.string a1_3] 23 (0,0)) (by (with_reducible repeat (first | refine blk_bytes ?_ _ _ | refine blk_drewN ?_ _ | refine blk_drew ?_ | refine blk_alloc ?_ _)); exact BK244.out) hb); have n2_ := Aside0.mk (below_step (by repeat (first | (with_reducible first | exact HB.out | apply below_alloc | apply pw_below_drewN | apply below_drew1 | apply bytes_below1 | refine below_set ?_ GE244.out) | exact HB.out)) hb); clear BK244; clear HB; have HO247 := n0_; have BK244 := n1_; have HB := n2_; clear n0_ n1_ n2_; (try clear hb); (try clear hb2); (try clear hk); (try clear hi); (try clear ho0); have hcz9_0 : w8.cell? ⟨gb244,0,none⟩ = some (.int .i64 a1_0) := (blk_cell BK244.out 0).trans rfl; have hcz9_1 : w8.cell? ⟨gb244,1,none⟩ = some (.int .i64 a1_1) := (blk_cell BK244.out 1).trans rfl; have hcz9_2 : w8.cell? ⟨gb244,2,none⟩ = some (.bool a1_2) := (blk_cell BK244.out 2).trans rfl; have hcz9_3 : w8.cell? ⟨gb244,3,none⟩ = some (.string a1_3) := (blk_cell BK244.out 3).trans rfl; have hfz9_0 := blk_frozen BK244.out 0; have hfz9_1 := blk_frozen BK244.out 1; have hfz9_2 := blk_frozen BK244.out 2; have hfz9_3 := blk_frozen BK244.out 3; obtain ⟨Ao10,co10,eo10⟩ := Kd.R_slice HO247.out; subst eo10) | ((with_reducible refine gate_callee (f := 31) rfl ?_); refine goesL_ (some 16) rfl rfl Tryz.func31 (by kernel_rfl) rfl #[.slice Ao10 t245.length co10,.int .i64 a1_1] rfl (by (try simp only [List.map_toArray,List.map_cons,List.map_nil]); first | done | rfl | (simp only [List.length_drop,List.length_take]; rfl)) ?_; (with_reducible refine (dossierref02_Int.calls k _ _ t245 a1_1 t248 _ ?side1 ?side2 A5.out).mono ?_); (case side1 => repeat (first | exact (Kd.R_reads' HO247.out).2.2 | (with_reducible refine Kd.C_alloc ?_ _) | (with_reducible refine C_bytes ?_ _ _) | (with_reducible refine Kd.C_drewN ?_ _) | (with_reducible refine Kd.C_drew ?_))); (case side2 => exact (Kd.R_reads' HO247.out).2.1); rintro e w11 ⟨v249,rfl,ho0,hb⟩; refine ⟨_,rfl,?_⟩; have n0_ := Aside0.mk (Kd.R_elder' (by (with_reducible repeat (first | apply Kd.R_alloc | apply R_bytes | apply Kd.R_drewN | apply Kd.R_drew)); exact HO247.out) (Kd.R_base ho0) hb); have n1_ := Aside0.mk (Kd.R_lower (Kd.R_new' ho0 (Kd.R_lt (by (with_reducible repeat (first | apply Kd.R_alloc | apply R_bytes | apply Kd.R_drewN | apply Kd.R_drew)); exact HO247.out))) (below_size (by repeat (first | (with_reducible first | exact HB.out | apply below_alloc | apply pw_below_drewN | apply below_drew1 | apply bytes_below1 | refine below_set ?_ GE244.out) | exact HB.out)))); have n2_ := Aside0.mk (blk_below (g := gb244) (o := .cells #[.int .i64 a1_0,.int .i64 a1_1,.bool a1_2,.string a1_3] 23 (0,0)) (by (with_reducible repeat (first | refine blk_bytes ?_ _ _ | refine blk_drewN ?_ _ | refine blk_drew ?_ | refine blk_alloc ?_ _)); exact BK244.out) hb); have n3_ := Aside0.mk (below_step (by repeat (first | (with_reducible first | exact HB.out | apply below_alloc | apply pw_below_drewN | apply below_drew1 | apply bytes_below1 | refine below_set ?_ GE244.out) | exact HB.out)) hb); clear HO247; clear BK244; clear HB; have HO247 := n0_; have HO250 := n1_; have BK244 := n2_; have HB := n3_; clear n0_ n1_ n2_ n3_; (try clear hb); (try clear hb2); (try clear hk); (try clear hi); (try clear ho0)))
   go_ret
   exact ⟨_,by first | rfl | (simp [errW_none,errW_some] <;> rfl) | (simp [*,errW_none,errW_some] <;> rfl),by (with_reducible repeat (first | apply Kd.R_alloc | apply R_bytes | apply Kd.R_drewN | apply Kd.R_drew)); exact Kd.R_mono HO250.out (fun _ hk => trivial),by repeat (first | (with_reducible first | exact HB.out | apply below_alloc | apply pw_below_drewN | apply below_drew1 | apply bytes_below1 | refine below_set ?_ GE244.out) | exact HB.out)⟩
 · rw [if_neg c4] at H
   have c4b0 : (a1_0 == 1) = false := beq_eq_false_iff_ne.mpr c4
   have c4b1 : (a1_0 != 1) = true := bne_iff_ne.mpr c4
   by_cases c12 : a1_0 = 2
   · rw [if_pos c12] at H
     have c12b0 : (a1_0 == 2) = true := beq_iff_eq.mpr c12
     have c12b1 : (a1_0 != 2) = false := bne_eq_false_iff_eq.mpr c12
     clear c12
     replace H := Option.bind_eq_some_iff.mp H
     obtain ⟨t251,A130,H⟩ := H
     replace H : (some t251) = some r := H
     have A13 := Aside0.mk A130
     clear A130
     obtain rfl := Option.some.inj H
     go_enter Tryz.func17,Tryz.ntmps17
     go_wp2_with (first | ((with_reducible refine gate_dst (N := 3) rfl ?_); refine box_event ?hg (N := 3) ?hd (cs := #[.int .i64 a1_0,.int .i64 a1_1,.bool a1_2,.string a1_3]) (t := 23) ?hr ?_; (case hd => rfl); (case hg => rfl); (case hr => first | (go_simp; done) | (go_simp; rfl)); intro gb244 hg w14 hbox hb; have n0_ := Aside0.mk (below_step (by repeat (first | (with_reducible first | exact HB.out | apply below_alloc | apply pw_below_drewN | apply below_drew1 | apply bytes_below1) | exact HB.out)) hb); have n1_ := Aside0.mk (hbox); have n2_ := Aside0.mk ((by rw [hg]; exact (below_size (by repeat (first | (with_reducible first | exact HB.out | apply below_alloc | apply pw_below_drewN | apply below_drew1 | apply bytes_below1) | exact HB.out))) : w.heap.size ≤ gb244)); have n3_ := Aside0.mk ((by rw [hg]; exact (below_size (by repeat (first | (with_reducible first | exact HB.out | apply below_alloc | apply pw_below_drewN | apply below_drew1 | apply bytes_below1) | exact HB.out))) : w.heap.size ≤ gb244)); clear HB; have HB := n0_; have BK244 := n1_; have GW244 := n2_; have GE244 := n3_; clear n0_ n1_ n2_ n3_; clear hb hbox hg; have hcz15_0 : w14.cell? ⟨gb244,0,none⟩ = some (.int .i64 a1_0) := (blk_cell BK244.out 0).trans rfl; have hcz15_1 : w14.cell? ⟨gb244,1,none⟩ = some (.int .i64 a1_1) := (blk_cell BK244.out 1).trans rfl; have hcz15_2 : w14.cell? ⟨gb244,2,none⟩ = some (.bool a1_2) := (blk_cell BK244.out 2).trans rfl; have hcz15_3 : w14.cell? ⟨gb244,3,none⟩ = some (.string a1_3) := (blk_cell BK244.out 3).trans rfl; have hfz15_0 := blk_frozen BK244.out 0; have hfz15_1 := blk_frozen BK244.out 1; have hfz15_2 := blk_frozen BK244.out 2; have hfz15_3 := blk_frozen BK244.out 3) | ((with_reducible refine gate_callee (f := 31) rfl ?_); refine goesL_ (some 8) rfl rfl Tryz.func31 (by kernel_rfl) rfl #[.slice A0 l0.length c0,.int .i64 a1_0] rfl (by (try simp only [List.map_toArray,List.map_cons,List.map_nil]); first | done | rfl | (simp only [List.length_drop,List.length_take]; rfl)) ?_; (with_reducible refine (dossierref02_Int.calls k _ _ l0 a1_0 t245 _ ?side1 ?side2 A3.out).mono ?_); (case side1 => repeat (first | exact (Kd.C_below HR0.out HB.out) | (with_reducible refine Kd.C_alloc ?_ _) | (with_reducible refine C_bytes ?_ _ _) | (with_reducible refine Kd.C_drewN ?_ _) | (with_reducible refine Kd.C_drew ?_))); (case side2 => exact HC0.out); rintro e w16 ⟨v246,rfl,ho0,hb⟩; refine ⟨_,rfl,?_⟩; have n0_ := Aside0.mk (Kd.R_lower ho0 (below_size (by repeat (first | (with_reducible first | exact HB.out | apply below_alloc | apply pw_below_drewN | apply below_drew1 | apply bytes_below1 | refine below_set ?_ GE244.out) | exact HB.out)))); have n1_ := Aside0.mk (blk_below (g := gb244) (o := .cells #[.int .i64 a1_0,.int .i64 a1_1,.bool a1_2,.string a1_3] 23 (0,0)) (by (with_reducible repeat (first | refine blk_bytes ?_ _ _ | refine blk_drewN ?_ _ | refine blk_drew ?_ | refine blk_alloc ?_ _)); exact BK244.out) hb); have n2_ := Aside0.mk (below_step (by repeat (first | (with_reducible first | exact HB.out | apply below_alloc | apply pw_below_drewN | apply below_drew1 | apply bytes_below1 | refine below_set ?_ GE244.out) | exact HB.out)) hb); clear BK244; clear HB; have HO247 := n0_; have BK244 := n1_; have HB := n2_; clear n0_ n1_ n2_; (try clear hb); (try clear hb2); (try clear hk); (try clear hi); (try clear ho0); have hcz17_0 : w16.cell? ⟨gb244,0,none⟩ = some (.int .i64 a1_0) := (blk_cell BK244.out 0).trans rfl; have hcz17_1 : w16.cell? ⟨gb244,1,none⟩ = some (.int .i64 a1_1) := (blk_cell BK244.out 1).trans rfl; have hcz17_2 : w16.cell? ⟨gb244,2,none⟩ = some (.bool a1_2) := (blk_cell BK244.out 2).trans rfl; have hcz17_3 : w16.cell? ⟨gb244,3,none⟩ = some (.string a1_3) := (blk_cell BK244.out 3).trans rfl; have hfz17_0 := blk_frozen BK244.out 0; have hfz17_1 := blk_frozen BK244.out 1; have hfz17_2 := blk_frozen BK244.out 2; have hfz17_3 := blk_frozen BK244.out 3; obtain ⟨Ao18,co18,eo18⟩ := Kd.R_slice HO247.out; subst eo18) | ((with_reducible refine gate_callee (f := 32) rfl ?_); refine goesL_ (some 22) rfl rfl Tryz.func32 (by kernel_rfl) rfl #[.slice Ao18 t245.length co18,.bool a1_2] rfl (by (try simp only [List.map_toArray,List.map_cons,List.map_nil]); first | done | rfl | (simp only [List.length_drop,List.length_take]; rfl)) ?_; (with_reducible refine (dossierref02_Flag.calls _ _ t245 a1_2 t251 _ ?side1 ?side2 A13.out).mono ?_); (case side1 => repeat (first | exact (Kd.R_reads' HO247.out).2.2 | (with_reducible refine Kd.C_alloc ?_ _) | (with_reducible refine C_bytes ?_ _ _) | (with_reducible refine Kd.C_drewN ?_ _) | (with_reducible refine Kd.C_drew ?_))); (case side2 => exact (Kd.R_reads' HO247.out).2.1); rintro e w19 ⟨v252,rfl,ho0,hb⟩; refine ⟨_,rfl,?_⟩; have n0_ := Aside0.mk (Kd.R_elder' (by (with_reducible repeat (first | apply Kd.R_alloc | apply R_bytes | apply Kd.R_drewN | apply Kd.R_drew)); exact HO247.out) (Kd.R_base ho0) hb); have n1_ := Aside0.mk (Kd.R_lower (Kd.R_new' ho0 (Kd.R_lt (by (with_reducible repeat (first | apply Kd.R_alloc | apply R_bytes | apply Kd.R_drewN | apply Kd.R_drew)); exact HO247.out))) (below_size (by repeat (first | (with_reducible first | exact HB.out | apply below_alloc | apply pw_below_drewN | apply below_drew1 | apply bytes_below1 | refine below_set ?_ GE244.out) | exact HB.out)))); have n2_ := Aside0.mk (blk_below (g := gb244) (o := .cells #[.int .i64 a1_0,.int .i64 a1_1,.bool a1_2,.string a1_3] 23 (0,0)) (by (with_reducible repeat (first | refine blk_bytes ?_ _ _ | refine blk_drewN ?_ _ | refine blk_drew ?_ | refine blk_alloc ?_ _)); exact BK244.out) hb); have n3_ := Aside0.mk (below_step (by repeat (first | (with_reducible first | exact HB.out | apply below_alloc | apply pw_below_drewN | apply below_drew1 | apply bytes_below1 | refine below_set ?_ GE244.out) | exact HB.out)) hb); clear HO247; clear BK244; clear HB; have HO247 := n0_; have HO253 := n1_; have BK244 := n2_; have HB := n3_; clear n0_ n1_ n2_ n3_; (try clear hb); (try clear hb2); (try clear hk); (try clear hi); (try clear ho0)))
     go_ret
     exact ⟨_,by first | rfl | (simp [errW_none,errW_some] <;> rfl) | (simp [*,errW_none,errW_some] <;> rfl),by (with_reducible repeat (first | apply Kd.R_alloc | apply R_bytes | apply Kd.R_drewN | apply Kd.R_drew)); exact Kd.R_mono HO253.out (fun _ hk => trivial),by repeat (first | (with_reducible first | exact HB.out | apply below_alloc | apply pw_below_drewN | apply below_drew1 | apply bytes_below1 | refine below_set ?_ GE244.out) | exact HB.out)⟩
   · rw [if_neg c12] at H
     have c12b0 : (a1_0 == 2) = false := beq_eq_false_iff_ne.mpr c12
     have c12b1 : (a1_0 != 2) = true := bne_iff_ne.mpr c12
     by_cases c20 : a1_0 = 3
     · rw [if_pos c20] at H
       have c20b0 : (a1_0 == 3) = true := beq_iff_eq.mpr c20
       have c20b1 : (a1_0 != 3) = false := bne_eq_false_iff_eq.mpr c20
       clear c20
       replace H := Option.bind_eq_some_iff.mp H
       obtain ⟨t254,A210,H⟩ := H
       replace H : (some t254) = some r := H
       have A21 := Aside0.mk A210
       clear A210
       obtain rfl := Option.some.inj H
       go_enter Tryz.func17,Tryz.ntmps17
       go_wp2_with (first | ((with_reducible refine gate_dst (N := 3) rfl ?_); refine box_event ?hg (N := 3) ?hd (cs := #[.int .i64 a1_0,.int .i64 a1_1,.bool a1_2,.string a1_3]) (t := 23) ?hr ?_; (case hd => rfl); (case hg => rfl); (case hr => first | (go_simp; done) | (go_simp; rfl)); intro gb244 hg w22 hbox hb; have n0_ := Aside0.mk (below_step (by repeat (first | (with_reducible first | exact HB.out | apply below_alloc | apply pw_below_drewN | apply below_drew1 | apply bytes_below1) | exact HB.out)) hb); have n1_ := Aside0.mk (hbox); have n2_ := Aside0.mk ((by rw [hg]; exact (below_size (by repeat (first | (with_reducible first | exact HB.out | apply below_alloc | apply pw_below_drewN | apply below_drew1 | apply bytes_below1) | exact HB.out))) : w.heap.size ≤ gb244)); have n3_ := Aside0.mk ((by rw [hg]; exact (below_size (by repeat (first | (with_reducible first | exact HB.out | apply below_alloc | apply pw_below_drewN | apply below_drew1 | apply bytes_below1) | exact HB.out))) : w.heap.size ≤ gb244)); clear HB; have HB := n0_; have BK244 := n1_; have GW244 := n2_; have GE244 := n3_; clear n0_ n1_ n2_ n3_; clear hb hbox hg; have hcz23_0 : w22.cell? ⟨gb244,0,none⟩ = some (.int .i64 a1_0) := (blk_cell BK244.out 0).trans rfl; have hcz23_1 : w22.cell? ⟨gb244,1,none⟩ = some (.int .i64 a1_1) := (blk_cell BK244.out 1).trans rfl; have hcz23_2 : w22.cell? ⟨gb244,2,none⟩ = some (.bool a1_2) := (blk_cell BK244.out 2).trans rfl; have hcz23_3 : w22.cell? ⟨gb244,3,none⟩ = some (.string a1_3) := (blk_cell BK244.out 3).trans rfl; have hfz23_0 := blk_frozen BK244.out 0; have hfz23_1 := blk_frozen BK244.out 1; have hfz23_2 := blk_frozen BK244.out 2; have hfz23_3 := blk_frozen BK244.out 3) | ((with_reducible refine gate_callee (f := 31) rfl ?_); refine goesL_ (some 8) rfl rfl Tryz.func31 (by kernel_rfl) rfl #[.slice A0 l0.length c0,.int .i64 a1_0] rfl (by (try simp only [List.map_toArray,List.map_cons,List.map_nil]); first | done | rfl | (simp only [List.length_drop,List.length_take]; rfl)) ?_; (with_reducible refine (dossierref02_Int.calls k _ _ l0 a1_0 t245 _ ?side1 ?side2 A3.out).mono ?_); (case side1 => repeat (first | exact (Kd.C_below HR0.out HB.out) | (with_reducible refine Kd.C_alloc ?_ _) | (with_reducible refine C_bytes ?_ _ _) | (with_reducible refine Kd.C_drewN ?_ _) | (with_reducible refine Kd.C_drew ?_))); (case side2 => exact HC0.out); rintro e w24 ⟨v246,rfl,ho0,hb⟩; refine ⟨_,rfl,?_⟩; have n0_ := Aside0.mk (Kd.R_lower ho0 (below_size (by repeat (first | (with_reducible first | exact HB.out | apply below_alloc | apply pw_below_drewN | apply below_drew1 | apply bytes_below1 | refine below_set ?_ GE244.out) | exact HB.out)))); have n1_ := Aside0.mk (blk_below (g := gb244) (o := .cells #[.int .i64 a1_0,.int .i64 a1_1,.bool a1_2,.string a1_3] 23 (0,0)) (by (with_reducible repeat (first | refine blk_bytes ?_ _ _ | refine blk_drewN ?_ _ | refine blk_drew ?_ | refine blk_alloc ?_ _)); exact BK244.out) hb); have n2_ := Aside0.mk (below_step (by repeat (first | (with_reducible first | exact HB.out | apply below_alloc | apply pw_below_drewN | apply below_drew1 | apply bytes_below1 | refine below_set ?_ GE244.out) | exact HB.out)) hb); clear BK244; clear HB; have HO247 := n0_; have BK244 := n1_; have HB := n2_; clear n0_ n1_ n2_; (try clear hb); (try clear hb2); (try clear hk); (try clear hi); (try clear ho0); have hcz25_0 : w24.cell? ⟨gb244,0,none⟩ = some (.int .i64 a1_0) := (blk_cell BK244.out 0).trans rfl; have hcz25_1 : w24.cell? ⟨gb244,1,none⟩ = some (.int .i64 a1_1) := (blk_cell BK244.out 1).trans rfl; have hcz25_2 : w24.cell? ⟨gb244,2,none⟩ = some (.bool a1_2) := (blk_cell BK244.out 2).trans rfl; have hcz25_3 : w24.cell? ⟨gb244,3,none⟩ = some (.string a1_3) := (blk_cell BK244.out 3).trans rfl; have hfz25_0 := blk_frozen BK244.out 0; have hfz25_1 := blk_frozen BK244.out 1; have hfz25_2 := blk_frozen BK244.out 2; have hfz25_3 := blk_frozen BK244.out 3; obtain ⟨Ao26,co26,eo26⟩ := Kd.R_slice HO247.out; subst eo26) | ((with_reducible refine gate_callee (f := 33) rfl ?_); refine goesL_ (some 28) rfl rfl Tryz.func33 (by kernel_rfl) rfl #[.slice Ao26 t245.length co26,.string a1_3] rfl (by (try simp only [List.map_toArray,List.map_cons,List.map_nil]); first | done | rfl | (simp only [List.length_drop,List.length_take]; rfl)) ?_; (with_reducible refine (dossierref02_Text.calls k _ _ t245 a1_3 t254 _ ?side1 ?side2 A21.out).mono ?_); (case side1 => repeat (first | exact (Kd.R_reads' HO247.out).2.2 | (with_reducible refine Kd.C_alloc ?_ _) | (with_reducible refine C_bytes ?_ _ _) | (with_reducible refine Kd.C_drewN ?_ _) | (with_reducible refine Kd.C_drew ?_))); (case side2 => exact (Kd.R_reads' HO247.out).2.1); rintro e w27 ⟨v255,rfl,ho0,hb⟩; refine ⟨_,rfl,?_⟩; have n0_ := Aside0.mk (Kd.R_elder' (by (with_reducible repeat (first | apply Kd.R_alloc | apply R_bytes | apply Kd.R_drewN | apply Kd.R_drew)); exact HO247.out) (Kd.R_base ho0) hb); have n1_ := Aside0.mk (Kd.R_lower (Kd.R_new' ho0 (Kd.R_lt (by (with_reducible repeat (first | apply Kd.R_alloc | apply R_bytes | apply Kd.R_drewN | apply Kd.R_drew)); exact HO247.out))) (below_size (by repeat (first | (with_reducible first | exact HB.out | apply below_alloc | apply pw_below_drewN | apply below_drew1 | apply bytes_below1 | refine below_set ?_ GE244.out) | exact HB.out)))); have n2_ := Aside0.mk (blk_below (g := gb244) (o := .cells #[.int .i64 a1_0,.int .i64 a1_1,.bool a1_2,.string a1_3] 23 (0,0)) (by (with_reducible repeat (first | refine blk_bytes ?_ _ _ | refine blk_drewN ?_ _ | refine blk_drew ?_ | refine blk_alloc ?_ _)); exact BK244.out) hb); have n3_ := Aside0.mk (below_step (by repeat (first | (with_reducible first | exact HB.out | apply below_alloc | apply pw_below_drewN | apply below_drew1 | apply bytes_below1 | refine below_set ?_ GE244.out) | exact HB.out)) hb); clear HO247; clear BK244; clear HB; have HO247 := n0_; have HO256 := n1_; have BK244 := n2_; have HB := n3_; clear n0_ n1_ n2_ n3_; (try clear hb); (try clear hb2); (try clear hk); (try clear hi); (try clear ho0)))
       go_ret
       exact ⟨_,by first | rfl | (simp [errW_none,errW_some] <;> rfl) | (simp [*,errW_none,errW_some] <;> rfl),by (with_reducible repeat (first | apply Kd.R_alloc | apply R_bytes | apply Kd.R_drewN | apply Kd.R_drew)); exact Kd.R_mono HO256.out (fun _ hk => trivial),by repeat (first | (with_reducible first | exact HB.out | apply below_alloc | apply pw_below_drewN | apply below_drew1 | apply bytes_below1 | refine below_set ?_ GE244.out) | exact HB.out)⟩
     · rw [if_neg c20] at H
       have c20b0 : (a1_0 == 3) = false := beq_eq_false_iff_ne.mpr c20
       have c20b1 : (a1_0 != 3) = true := bne_iff_ne.mpr c20
       obtain rfl := Option.some.inj H
       go_enter Tryz.func17,Tryz.ntmps17
       go_wp2_with (first | ((with_reducible refine gate_dst (N := 3) rfl ?_); refine box_event ?hg (N := 3) ?hd (cs := #[.int .i64 a1_0,.int .i64 a1_1,.bool a1_2,.string a1_3]) (t := 23) ?hr ?_; (case hd => rfl); (case hg => rfl); (case hr => first | (go_simp; done) | (go_simp; rfl)); intro gb244 hg w28 hbox hb; have n0_ := Aside0.mk (below_step (by repeat (first | (with_reducible first | exact HB.out | apply below_alloc | apply pw_below_drewN | apply below_drew1 | apply bytes_below1) | exact HB.out)) hb); have n1_ := Aside0.mk (hbox); have n2_ := Aside0.mk ((by rw [hg]; exact (below_size (by repeat (first | (with_reducible first | exact HB.out | apply below_alloc | apply pw_below_drewN | apply below_drew1 | apply bytes_below1) | exact HB.out))) : w.heap.size ≤ gb244)); have n3_ := Aside0.mk ((by rw [hg]; exact (below_size (by repeat (first | (with_reducible first | exact HB.out | apply below_alloc | apply pw_below_drewN | apply below_drew1 | apply bytes_below1) | exact HB.out))) : w.heap.size ≤ gb244)); clear HB; have HB := n0_; have BK244 := n1_; have GW244 := n2_; have GE244 := n3_; clear n0_ n1_ n2_ n3_; clear hb hbox hg; have hcz29_0 : w28.cell? ⟨gb244,0,none⟩ = some (.int .i64 a1_0) := (blk_cell BK244.out 0).trans rfl; have hcz29_1 : w28.cell? ⟨gb244,1,none⟩ = some (.int .i64 a1_1) := (blk_cell BK244.out 1).trans rfl; have hcz29_2 : w28.cell? ⟨gb244,2,none⟩ = some (.bool a1_2) := (blk_cell BK244.out 2).trans rfl; have hcz29_3 : w28.cell? ⟨gb244,3,none⟩ = some (.string a1_3) := (blk_cell BK244.out 3).trans rfl; have hfz29_0 := blk_frozen BK244.out 0; have hfz29_1 := blk_frozen BK244.out 1; have hfz29_2 := blk_frozen BK244.out 2; have hfz29_3 := blk_frozen BK244.out 3) | ((with_reducible refine gate_callee (f := 31) rfl ?_); refine goesL_ (some 8) rfl rfl Tryz.func31 (by kernel_rfl) rfl #[.slice A0 l0.length c0,.int .i64 a1_0] rfl (by (try simp only [List.map_toArray,List.map_cons,List.map_nil]); first | done | rfl | (simp only [List.length_drop,List.length_take]; rfl)) ?_; (with_reducible refine (dossierref02_Int.calls k _ _ l0 a1_0 t245 _ ?side1 ?side2 A3.out).mono ?_); (case side1 => repeat (first | exact (Kd.C_below HR0.out HB.out) | (with_reducible refine Kd.C_alloc ?_ _) | (with_reducible refine C_bytes ?_ _ _) | (with_reducible refine Kd.C_drewN ?_ _) | (with_reducible refine Kd.C_drew ?_))); (case side2 => exact HC0.out); rintro e w30 ⟨v246,rfl,ho0,hb⟩; refine ⟨_,rfl,?_⟩; have n0_ := Aside0.mk (Kd.R_lower ho0 (below_size (by repeat (first | (with_reducible first | exact HB.out | apply below_alloc | apply pw_below_drewN | apply below_drew1 | apply bytes_below1 | refine below_set ?_ GE244.out) | exact HB.out)))); have n1_ := Aside0.mk (blk_below (g := gb244) (o := .cells #[.int .i64 a1_0,.int .i64 a1_1,.bool a1_2,.string a1_3] 23 (0,0)) (by (with_reducible repeat (first | refine blk_bytes ?_ _ _ | refine blk_drewN ?_ _ | refine blk_drew ?_ | refine blk_alloc ?_ _)); exact BK244.out) hb); have n2_ := Aside0.mk (below_step (by repeat (first | (with_reducible first | exact HB.out | apply below_alloc | apply pw_below_drewN | apply below_drew1 | apply bytes_below1 | refine below_set ?_ GE244.out) | exact HB.out)) hb); clear BK244; clear HB; have HO247 := n0_; have BK244 := n1_; have HB := n2_; clear n0_ n1_ n2_; (try clear hb); (try clear hb2); (try clear hk); (try clear hi); (try clear ho0); have hcz31_0 : w30.cell? ⟨gb244,0,none⟩ = some (.int .i64 a1_0) := (blk_cell BK244.out 0).trans rfl; have hcz31_1 : w30.cell? ⟨gb244,1,none⟩ = some (.int .i64 a1_1) := (blk_cell BK244.out 1).trans rfl; have hcz31_2 : w30.cell? ⟨gb244,2,none⟩ = some (.bool a1_2) := (blk_cell BK244.out 2).trans rfl; have hcz31_3 : w30.cell? ⟨gb244,3,none⟩ = some (.string a1_3) := (blk_cell BK244.out 3).trans rfl; have hfz31_0 := blk_frozen BK244.out 0; have hfz31_1 := blk_frozen BK244.out 1; have hfz31_2 := blk_frozen BK244.out 2; have hfz31_3 := blk_frozen BK244.out 3))
       go_ret
       exact ⟨_,by first | rfl | (simp [errW_none,errW_some] <;> rfl) | (simp [*,errW_none,errW_some] <;> rfl),by (with_reducible repeat (first | apply Kd.R_alloc | apply R_bytes | apply Kd.R_drewN | apply Kd.R_drew)); exact HO247.out,by repeat (first | (with_reducible first | exact HB.out | apply below_alloc | apply pw_below_drewN | apply below_drew1 | apply bytes_below1 | refine below_set ?_ GE244.out) | exact HB.out)⟩
end
section
/-! ### value_Print: function 18 -/
def value_Print.f (a0_0 : Int) (a0_1 : Int) (a0_2 : Bool) (a0_3 : ByteArray) : Option ByteArray :=
 if a0_0 = 1 then (if -9223372036854775808 ≤ a0_1 ∧ a0_1 ≤ 9223372036854775807 then some (strOfNums (Go.Proofs.YtifgpigicgaadaaGreatDoor.Hand.textOf a0_1)) else none)
 else if a0_0 = 2 then some (if a0_2 = true then ⟨#[116,114,117,101]⟩ else ⟨#[102,97,108,115,101]⟩)
 else if a0_0 = 3 then (if a0_3.size ≤ 140737488351232 then some (Go.Proofs.YtifgpigicgaadaaGreatDoor.Hand.quoteV a0_3) else none) else some ⟨#[]⟩
theorem value_Print.calls (a0_0 : Int) (a0_1 : Int) (a0_2 : Bool) (a0_3 : ByteArray) (r : ByteArray) (w : World) (h : value_Print.f a0_0 a0_1 a0_2 a0_3 = some r) :
 Calls Tryz.prog 18 #[.agg #[.int .i64 a0_0,.int .i64 a0_1,.bool a0_2,.string a0_3]] w fun e w' => e = .returned (.string r) ∧ Below w.heap.size w w' := by
 unfold value_Print.f at h
 by_cases h1 : a0_0 = 1
 · subst h1
   rw [if_pos rfl] at h
   split at h
   · rename_i hr
     obtain rfl := Option.some.inj h
     exact Go.Proofs.YtifgpigicgaadaaGreatDoor.Hand.print_int w a0_1 a0_2 a0_3 hr
   · cases h
 · rw [if_neg h1] at h
   by_cases h2 : a0_0 = 2
   · subst h2
     rw [if_pos rfl] at h
     obtain rfl := Option.some.inj h
     exact Go.Proofs.YtifgpigicgaadaaGreatDoor.Hand.print_bool w a0_1 a0_2 a0_3
   · rw [if_neg h2] at h
     by_cases h3 : a0_0 = 3
     · subst h3
       rw [if_pos rfl] at h
       split at h
       · rename_i hr
         obtain rfl := Option.some.inj h
         exact Go.Proofs.YtifgpigicgaadaaGreatDoor.Hand.print_text w a0_1 a0_2 a0_3 hr
       · cases h
     · rw [if_neg h3] at h
       obtain rfl := Option.some.inj h
       exact Go.Proofs.YtifgpigicgaadaaGreatDoor.Hand.print_none w a0_0 a0_1 a0_2 a0_3 h1 h2 h3
end
section
/-! ### dossierref01_Text: function 37 -/
def dossierref01_Text.f : Nat → Int → Option (ByteArray)
 | 0,_ => none
 | k + 1,a0 => if a0 < 0 then (if a0 > (-10) then ((dossierref01_Text.f k (wrap64 (-a0))).bind fun t257 => (if 1 + t257.size ≤ 9223372036854775807 then (some ((⟨#[45]⟩ : ByteArray) ++ t257)) else (none))) else ((dossierref01_Text.f k (wrap64 (Int.tdiv a0 10))).bind fun t258 => ((dossierref01_Text.f k (wrap64 (-(Int.tmod a0 10)))).bind fun t259 => (if t258.size + t259.size ≤ 9223372036854775807 then (some (t258 ++ t259)) else (none))))) else (if a0 < 10 then (if 0 ≤ a0 then (if a0 ≤ (wrap64 (a0 + 1)) then (if (wrap64 (a0 + 1)) ≤ 10 then (some ((⟨#[48,49,50,51,52,53,54,55,56,57]⟩ : ByteArray).extract (a0 : Int).toNat ((wrap64 (a0 + 1)) : Int).toNat)) else (none)) else (none)) else (none)) else ((dossierref01_Text.f k (wrap64 (Int.tdiv a0 10))).bind fun t260 => ((dossierref01_Text.f k (Int.tmod a0 10)).bind fun t261 => (if t260.size + t261.size ≤ 9223372036854775807 then (some (t260 ++ t261)) else (none)))))
set_option maxHeartbeats 8000000 in
set_option maxRecDepth 100000 in
theorem dossierref01_Text.calls (k : Nat) : ∀ (a0 : Int) (r : ByteArray) (w : World) (h : dossierref01_Text.f k a0 = some r),
 Calls Tryz.prog 37 #[.int .i64 a0] w fun e w' => e = .returned (.string r) ∧ Drawn0 w w' := by
 induction k using Nat.strongRecOn with
 | _ k ih =>
 intro a0 r w h
 cases k with
 | zero => exact absurd h (by simp [dossierref01_Text.f])
 | succ k =>
 simp only [dossierref01_Text.f] at h
 have H : (if a0 < 0 then (if a0 > (-10) then ((dossierref01_Text.f k (wrap64 (-a0))).bind fun t257 => (if 1 + t257.size ≤ 9223372036854775807 then (some ((⟨#[45]⟩ : ByteArray) ++ t257)) else (none))) else ((dossierref01_Text.f k (wrap64 (Int.tdiv a0 10))).bind fun t258 => ((dossierref01_Text.f k (wrap64 (-(Int.tmod a0 10)))).bind fun t259 => (if t258.size + t259.size ≤ 9223372036854775807 then (some (t258 ++ t259)) else (none))))) else (if a0 < 10 then (if 0 ≤ a0 then (if a0 ≤ (wrap64 (a0 + 1)) then (if (wrap64 (a0 + 1)) ≤ 10 then (some ((⟨#[48,49,50,51,52,53,54,55,56,57]⟩ : ByteArray).extract (a0 : Int).toNat ((wrap64 (a0 + 1)) : Int).toNat)) else (none)) else (none)) else (none)) else ((dossierref01_Text.f k (wrap64 (Int.tdiv a0 10))).bind fun t260 => ((dossierref01_Text.f k (Int.tmod a0 10)).bind fun t261 => (if t260.size + t261.size ≤ 9223372036854775807 then (some (t260 ++ t261)) else (none)))))) = some r := h
 clear h
 by_cases c2 : a0 < 0
 · rw [if_pos c2] at H
   have c2b0 : decide (a0 < 0) = true := decide_eq_true c2
   clear c2
   by_cases c3 : a0 > (-10)
   · rw [if_pos c3] at H
     have c3b0 : decide ((-10) < a0) = true := decide_eq_true c3
     clear c3
     replace H := Option.bind_eq_some_iff.mp H
     obtain ⟨t257,A40,H⟩ := H
     replace H : (if 1 + t257.size ≤ 9223372036854775807 then (some ((⟨#[45]⟩ : ByteArray) ++ t257)) else (none)) = some r := H
     have A4 := Aside0.mk A40
     clear A40
     by_cases c5 : 1 + t257.size ≤ 9223372036854775807
     · rw [if_pos c5] at H
       have c5b0 := eq_true c5
       have c5b1 : decide (1 + t257.size ≤ 9223372036854775807) = true := decide_eq_true c5
       try have c5b2 : (9223372036854775807 < 1 + t257.size) = False := eq_false (Nat.not_lt.2 c5)
       obtain rfl := Option.some.inj H
       go_enter Tryz.func37,Tryz.ntmps37
       go_wp2_with (first | ((with_reducible refine gate_callee (f := 37) rfl ?_); refine goesL_ (some 9) rfl rfl Tryz.func37 (by kernel_rfl) rfl #[.int .i64 (wrap64 (-a0))] rfl (by (try simp only [List.map_toArray,List.map_cons,List.map_nil]); first | done | rfl | (simp only [List.length_drop,List.length_take]; rfl)) ?_; (with_reducible refine (ih k (by omega) (wrap64 (-a0)) t257 _ A4.out).mono ?_); rintro e w' ⟨rfl,⟨nd,rfl⟩⟩; refine ⟨_,rfl,?_⟩))
       go_ret
       exact ⟨by first | rfl | (simp; done) | (simp [*]; done),by repeat (first | exact Drawn0.refl _ | apply Drawn0.step)⟩
     · rw [if_neg c5] at H
       exact absurd H (by simp)
   · rw [if_neg c3] at H
     have c3b0 : decide ((-10) < a0) = false := decide_eq_false c3
     clear c3
     replace H := Option.bind_eq_some_iff.mp H
     obtain ⟨t258,A60,H⟩ := H
     replace H : ((dossierref01_Text.f k (wrap64 (-(Int.tmod a0 10)))).bind fun t259 => (if t258.size + t259.size ≤ 9223372036854775807 then (some (t258 ++ t259)) else (none))) = some r := H
     have A6 := Aside0.mk A60
     clear A60
     replace H := Option.bind_eq_some_iff.mp H
     obtain ⟨t259,A70,H⟩ := H
     replace H : (if t258.size + t259.size ≤ 9223372036854775807 then (some (t258 ++ t259)) else (none)) = some r := H
     have A7 := Aside0.mk A70
     clear A70
     by_cases c8 : t258.size + t259.size ≤ 9223372036854775807
     · rw [if_pos c8] at H
       have c8b0 := eq_true c8
       have c8b1 : decide (t258.size + t259.size ≤ 9223372036854775807) = true := decide_eq_true c8
       try have c8b2 : (9223372036854775807 < t258.size + t259.size) = False := eq_false (Nat.not_lt.2 c8)
       obtain rfl := Option.some.inj H
       go_enter Tryz.func37,Tryz.ntmps37
       go_wp2_with (first | ((with_reducible refine gate_callee (f := 37) rfl ?_); refine goesL_ (some 13) rfl rfl Tryz.func37 (by kernel_rfl) rfl #[.int .i64 (wrap64 (Int.tdiv a0 10))] rfl (by (try simp only [List.map_toArray,List.map_cons,List.map_nil]); first | done | rfl | (simp only [List.length_drop,List.length_take]; rfl)) ?_; (with_reducible refine (ih k (by omega) (wrap64 (Int.tdiv a0 10)) t258 _ A6.out).mono ?_); rintro e w' ⟨rfl,⟨nd,rfl⟩⟩; refine ⟨_,rfl,?_⟩) | ((with_reducible refine gate_callee (f := 37) rfl ?_); refine goesL_ (some 17) rfl rfl Tryz.func37 (by kernel_rfl) rfl #[.int .i64 (wrap64 (-(Int.tmod a0 10)))] rfl (by (try simp only [List.map_toArray,List.map_cons,List.map_nil]); first | done | rfl | (simp only [List.length_drop,List.length_take]; rfl)) ?_; (with_reducible refine (ih k (by omega) (wrap64 (-(Int.tmod a0 10))) t259 _ A7.out).mono ?_); rintro e w' ⟨rfl,⟨nd,rfl⟩⟩; refine ⟨_,rfl,?_⟩))
       go_ret
       exact ⟨by first | rfl | (simp; done) | (simp [*]; done),by repeat (first | exact Drawn0.refl _ | apply Drawn0.step)⟩
     · rw [if_neg c8] at H
       exact absurd H (by simp)
 · rw [if_neg c2] at H
   have c2b0 : decide (a0 < 0) = false := decide_eq_false c2
   clear c2
   by_cases c9 : a0 < 10
   · rw [if_pos c9] at H
     have c9b0 : decide (a0 < 10) = true := decide_eq_true c9
     clear c9
     by_cases c10 : 0 ≤ a0
     · rw [if_pos c10] at H
       have c10b0 := eq_true c10
       have c10b1 : decide (0 ≤ a0) = true := decide_eq_true c10
       clear c10
       by_cases c11 : a0 ≤ (wrap64 (a0 + 1))
       · rw [if_pos c11] at H
         have c11b0 := eq_true c11
         have c11b1 : decide (a0 ≤ (wrap64 (a0 + 1))) = true := decide_eq_true c11
         by_cases c12 : (wrap64 (a0 + 1)) ≤ 10
         · rw [if_pos c12] at H
           have c12b0 := eq_true c12
           have c12b1 : decide ((wrap64 (a0 + 1)) ≤ 10) = true := decide_eq_true c12
           obtain rfl := Option.some.inj H
           go_enter Tryz.func37,Tryz.ntmps37
           go_wp2
           go_ret
           exact ⟨by first | rfl | (simp; done) | (simp [*]; done),by repeat (first | exact Drawn0.refl _ | apply Drawn0.step)⟩
         · rw [if_neg c12] at H
           exact absurd H (by simp)
       · rw [if_neg c11] at H
         exact absurd H (by simp)
     · rw [if_neg c10] at H
       exact absurd H (by simp)
   · rw [if_neg c9] at H
     have c9b0 : decide (a0 < 10) = false := decide_eq_false c9
     clear c9
     replace H := Option.bind_eq_some_iff.mp H
     obtain ⟨t260,A130,H⟩ := H
     replace H : ((dossierref01_Text.f k (Int.tmod a0 10)).bind fun t261 => (if t260.size + t261.size ≤ 9223372036854775807 then (some (t260 ++ t261)) else (none))) = some r := H
     have A13 := Aside0.mk A130
     clear A130
     replace H := Option.bind_eq_some_iff.mp H
     obtain ⟨t261,A140,H⟩ := H
     replace H : (if t260.size + t261.size ≤ 9223372036854775807 then (some (t260 ++ t261)) else (none)) = some r := H
     have A14 := Aside0.mk A140
     clear A140
     by_cases c15 : t260.size + t261.size ≤ 9223372036854775807
     · rw [if_pos c15] at H
       have c15b0 := eq_true c15
       have c15b1 : decide (t260.size + t261.size ≤ 9223372036854775807) = true := decide_eq_true c15
       try have c15b2 : (9223372036854775807 < t260.size + t261.size) = False := eq_false (Nat.not_lt.2 c15)
       obtain rfl := Option.some.inj H
       go_enter Tryz.func37,Tryz.ntmps37
       go_wp2_with (first | ((with_reducible refine gate_callee (f := 37) rfl ?_); refine goesL_ (some 27) rfl rfl Tryz.func37 (by kernel_rfl) rfl #[.int .i64 (wrap64 (Int.tdiv a0 10))] rfl (by (try simp only [List.map_toArray,List.map_cons,List.map_nil]); first | done | rfl | (simp only [List.length_drop,List.length_take]; rfl)) ?_; (with_reducible refine (ih k (by omega) (wrap64 (Int.tdiv a0 10)) t260 _ A13.out).mono ?_); rintro e w' ⟨rfl,⟨nd,rfl⟩⟩; refine ⟨_,rfl,?_⟩) | ((with_reducible refine gate_callee (f := 37) rfl ?_); refine goesL_ (some 30) rfl rfl Tryz.func37 (by kernel_rfl) rfl #[.int .i64 (Int.tmod a0 10)] rfl (by (try simp only [List.map_toArray,List.map_cons,List.map_nil]); first | done | rfl | (simp only [List.length_drop,List.length_take]; rfl)) ?_; (with_reducible refine (ih k (by omega) (Int.tmod a0 10) t261 _ A14.out).mono ?_); rintro e w' ⟨rfl,⟨nd,rfl⟩⟩; refine ⟨_,rfl,?_⟩))
       go_ret
       exact ⟨by first | rfl | (simp; done) | (simp [*]; done),by repeat (first | exact Drawn0.refl _ | apply Drawn0.step)⟩
     · rw [if_neg c15] at H
       exact absurd H (by simp)
end
section
/-! ### dossierref07_Quote: function 38 -/
def dossierref07_Quote.l0 : Nat → ByteArray → ByteArray → Int → Int → Option (ByteArray)
 | 0,_,_,_,_ => none
 | k + 1,x0,x3,x6,x7 => if x7 < x6 then (if 0 ≤ x7 then (if x7 < (x0.size : Int) then (if (bt x0 x7) = 34 then (if x3.size + 1 ≤ 9223372036854775807 then (if x7 ≤ (wrap64 (x7 + 1)) then (if (wrap64 (x7 + 1)) ≤ (x0.size : Int) then (if (x3 ++ (⟨#[92]⟩ : ByteArray)).size + (x0.extract (x7 : Int).toNat ((wrap64 (x7 + 1)) : Int).toNat).size ≤ 9223372036854775807 then (dossierref07_Quote.l0 k x0 ((x3 ++ (⟨#[92]⟩ : ByteArray)) ++ (x0.extract (x7 : Int).toNat ((wrap64 (x7 + 1)) : Int).toNat)) x6 (wrap64 (x7 + 1))) else (none)) else (none)) else (none)) else (none)) else (if (bt x0 x7) = 92 then (if x3.size + 1 ≤ 9223372036854775807 then (if x7 ≤ (wrap64 (x7 + 1)) then (if (wrap64 (x7 + 1)) ≤ (x0.size : Int) then (if (x3 ++ (⟨#[92]⟩ : ByteArray)).size + (x0.extract (x7 : Int).toNat ((wrap64 (x7 + 1)) : Int).toNat).size ≤ 9223372036854775807 then (dossierref07_Quote.l0 k x0 ((x3 ++ (⟨#[92]⟩ : ByteArray)) ++ (x0.extract (x7 : Int).toNat ((wrap64 (x7 + 1)) : Int).toNat)) x6 (wrap64 (x7 + 1))) else (none)) else (none)) else (none)) else (none)) else (if x7 ≤ (wrap64 (x7 + 1)) then (if (wrap64 (x7 + 1)) ≤ (x0.size : Int) then (if x3.size + (x0.extract (x7 : Int).toNat ((wrap64 (x7 + 1)) : Int).toNat).size ≤ 9223372036854775807 then (dossierref07_Quote.l0 k x0 (x3 ++ (x0.extract (x7 : Int).toNat ((wrap64 (x7 + 1)) : Int).toNat)) x6 (wrap64 (x7 + 1))) else (none)) else (none)) else (none)))) else (none)) else (none)) else (if x3.size + 1 ≤ 9223372036854775807 then (some (x3 ++ (⟨#[34]⟩ : ByteArray))) else (none))
def dossierref07_Quote.f (k : Nat) (a0 : ByteArray) : Option (ByteArray) := dossierref07_Quote.l0 k a0 (⟨#[34]⟩ : ByteArray) (a0.size : Int) 0
set_option maxHeartbeats 8000000 in
set_option maxRecDepth 100000 in
theorem dossierref07_Quote.calls (k : Nat) (a0 : ByteArray) (r : ByteArray) (w : World) (h : dossierref07_Quote.f k a0 = some r) :
 Calls Tryz.prog 38 #[.string a0] w fun e w' => e = .returned (.string r) ∧ Drawn0 w w' := by
 have H : (dossierref07_Quote.l0 k a0 (⟨#[34]⟩ : ByteArray) (a0.size : Int) 0) = some r := h
 clear h
 have H' := Aside0.mk H
 clear H
 go_enter Tryz.func38,Tryz.ntmps38
 go_wp2
 go_loopg [3,7] k (fun kq v3 v7 w' => ∃ (x3_1 : ByteArray) (x7_1 : Int),v3 = .string x3_1 ∧ v7 = .int .i64 x7_1 ∧ Aside0 (dossierref07_Quote.l0 kq a0 x3_1 (a0.size : Int) x7_1 = some r) ∧ Aside0 (kq ≤ k) ∧ Drawn0 w w')
 case atStart => exact ⟨((⟨#[34]⟩ : ByteArray)),(0),(by first | rfl | (simp; done) | (simp [*]; done)),(by first | rfl | (simp; done) | (simp [*]; done)),H',⟨Nat.le_refl _⟩,by repeat (first | exact Drawn0.refl _ | apply Drawn0.step)⟩
 case round =>
  clear H'
  obtain ⟨x3_1,x7_1,rfl,rfl,HA,HK1,⟨m1,rfl⟩⟩ := hrel
  cases gk with
  | zero => exact absurd HA.out (by simp [dossierref07_Quote.l0])
  | succ k1 =>
   have H := HA.out
   clear HA
   simp only [dossierref07_Quote.l0] at H
   by_cases c2 : x7_1 < (a0.size : Int)
   · rw [if_pos c2] at H
     have c2b0 : decide (x7_1 < (a0.size : Int)) = true := decide_eq_true c2
     clear c2
     by_cases c3 : 0 ≤ x7_1
     · rw [if_pos c3] at H
       have c3b0 : decide (0 ≤ x7_1) = true := decide_eq_true c3
       clear c3
       by_cases c4 : x7_1 < (a0.size : Int)
       · rw [if_pos c4] at H
         have c4b0 : decide (x7_1 < (a0.size : Int)) = true := decide_eq_true c4
         clear c4
         by_cases c6 : (bt a0 x7_1) = 34
         · rw [if_pos c6] at H
           have c6b0 : ((bt a0 x7_1) == 34) = true := beq_iff_eq.mpr c6
           have c6b1 : ((bt a0 x7_1) != 34) = false := bne_eq_false_iff_eq.mpr c6
           clear c6
           by_cases c7 : x3_1.size + 1 ≤ 9223372036854775807
           · rw [if_pos c7] at H
             have c7b0 := eq_true c7
             have c7b1 : decide (x3_1.size + 1 ≤ 9223372036854775807) = true := decide_eq_true c7
             try have c7b2 : (9223372036854775807 < x3_1.size + 1) = False := eq_false (Nat.not_lt.2 c7)
             have c8b0 := eq_true (of_decide_eq_true (by first | (with_reducible assumption) | assumption) : 0 ≤ x7_1)
             by_cases c9 : x7_1 ≤ (wrap64 (x7_1 + 1))
             · rw [if_pos c9] at H
               have c9b0 := eq_true c9
               have c9b1 : decide (x7_1 ≤ (wrap64 (x7_1 + 1))) = true := decide_eq_true c9
               by_cases c10 : (wrap64 (x7_1 + 1)) ≤ (a0.size : Int)
               · rw [if_pos c10] at H
                 have c10b0 := eq_true c10
                 have c10b1 : decide ((wrap64 (x7_1 + 1)) ≤ (a0.size : Int)) = true := decide_eq_true c10
                 by_cases c11 : (x3_1 ++ (⟨#[92]⟩ : ByteArray)).size + (a0.extract (x7_1 : Int).toNat ((wrap64 (x7_1 + 1)) : Int).toNat).size ≤ 9223372036854775807
                 · rw [if_pos c11] at H
                   have c11b0 := eq_true c11
                   have c11b1 : decide ((x3_1 ++ (⟨#[92]⟩ : ByteArray)).size + (a0.extract (x7_1 : Int).toNat ((wrap64 (x7_1 + 1)) : Int).toNat).size ≤ 9223372036854775807) = true := decide_eq_true c11
                   try have c11b2 : (9223372036854775807 < (x3_1 ++ (⟨#[92]⟩ : ByteArray)).size + (a0.extract (x7_1 : Int).toNat ((wrap64 (x7_1 + 1)) : Int).toNat).size) = False := eq_false (Nat.not_lt.2 c11)
                   have H' := Aside0.mk H
                   clear H
                   have p5 : 0 ≤ (x7_1 : Int) := of_decide_eq_true (by first | (with_reducible assumption) | assumption)
                   have q5 : x7_1 < (a0.size : Int) := of_decide_eq_true (by first | (with_reducible assumption) | assumption)
                   have hx5 := bt_at a0 x7_1
                   replace p5 := eq_true p5
                   replace q5 := eq_true q5
                   go_wp2
                   go_roundg k1
                   case measure => have := HK1.out; omega
                   case rel => exact ⟨((x3_1 ++ (⟨#[92]⟩ : ByteArray)) ++ (a0.extract (x7_1 : Int).toNat ((wrap64 (x7_1 + 1)) : Int).toNat)),(wrap64 (x7_1 + 1)),(by first | rfl | (simp; done) | (simp [*]; done)),(by first | rfl | (simp; done) | (simp [*]; done)),H',⟨by have := HK1.out; omega⟩,by repeat (first | exact Drawn0.refl _ | apply Drawn0.step)⟩
                 · rw [if_neg c11] at H
                   exact absurd H (by simp)
               · rw [if_neg c10] at H
                 exact absurd H (by simp)
             · rw [if_neg c9] at H
               exact absurd H (by simp)
           · rw [if_neg c7] at H
             exact absurd H (by simp)
         · rw [if_neg c6] at H
           have c6b0 : ((bt a0 x7_1) == 34) = false := beq_eq_false_iff_ne.mpr c6
           have c6b1 : ((bt a0 x7_1) != 34) = true := bne_iff_ne.mpr c6
           by_cases c13 : (bt a0 x7_1) = 92
           · rw [if_pos c13] at H
             have c13b0 : ((bt a0 x7_1) == 92) = true := beq_iff_eq.mpr c13
             have c13b1 : ((bt a0 x7_1) != 92) = false := bne_eq_false_iff_eq.mpr c13
             clear c13
             by_cases c14 : x3_1.size + 1 ≤ 9223372036854775807
             · rw [if_pos c14] at H
               have c14b0 := eq_true c14
               have c14b1 : decide (x3_1.size + 1 ≤ 9223372036854775807) = true := decide_eq_true c14
               try have c14b2 : (9223372036854775807 < x3_1.size + 1) = False := eq_false (Nat.not_lt.2 c14)
               have c15b0 := eq_true (of_decide_eq_true (by first | (with_reducible assumption) | assumption) : 0 ≤ x7_1)
               by_cases c16 : x7_1 ≤ (wrap64 (x7_1 + 1))
               · rw [if_pos c16] at H
                 have c16b0 := eq_true c16
                 have c16b1 : decide (x7_1 ≤ (wrap64 (x7_1 + 1))) = true := decide_eq_true c16
                 by_cases c17 : (wrap64 (x7_1 + 1)) ≤ (a0.size : Int)
                 · rw [if_pos c17] at H
                   have c17b0 := eq_true c17
                   have c17b1 : decide ((wrap64 (x7_1 + 1)) ≤ (a0.size : Int)) = true := decide_eq_true c17
                   by_cases c18 : (x3_1 ++ (⟨#[92]⟩ : ByteArray)).size + (a0.extract (x7_1 : Int).toNat ((wrap64 (x7_1 + 1)) : Int).toNat).size ≤ 9223372036854775807
                   · rw [if_pos c18] at H
                     have c18b0 := eq_true c18
                     have c18b1 : decide ((x3_1 ++ (⟨#[92]⟩ : ByteArray)).size + (a0.extract (x7_1 : Int).toNat ((wrap64 (x7_1 + 1)) : Int).toNat).size ≤ 9223372036854775807) = true := decide_eq_true c18
                     try have c18b2 : (9223372036854775807 < (x3_1 ++ (⟨#[92]⟩ : ByteArray)).size + (a0.extract (x7_1 : Int).toNat ((wrap64 (x7_1 + 1)) : Int).toNat).size) = False := eq_false (Nat.not_lt.2 c18)
                     have H' := Aside0.mk H
                     clear H
                     have p5 : 0 ≤ (x7_1 : Int) := of_decide_eq_true (by first | (with_reducible assumption) | assumption)
                     have q5 : x7_1 < (a0.size : Int) := of_decide_eq_true (by first | (with_reducible assumption) | assumption)
                     have hx5 := bt_at a0 x7_1
                     replace p5 := eq_true p5
                     replace q5 := eq_true q5
                     have p12 : 0 ≤ (x7_1 : Int) := of_decide_eq_true (by first | (with_reducible assumption) | assumption)
                     have q12 : x7_1 < (a0.size : Int) := of_decide_eq_true (by first | (with_reducible assumption) | assumption)
                     have hx12 := bt_at a0 x7_1
                     replace p12 := eq_true p12
                     replace q12 := eq_true q12
                     go_wp2
                     go_roundg k1
                     case measure => have := HK1.out; omega
                     case rel => exact ⟨((x3_1 ++ (⟨#[92]⟩ : ByteArray)) ++ (a0.extract (x7_1 : Int).toNat ((wrap64 (x7_1 + 1)) : Int).toNat)),(wrap64 (x7_1 + 1)),(by first | rfl | (simp; done) | (simp [*]; done)),(by first | rfl | (simp; done) | (simp [*]; done)),H',⟨by have := HK1.out; omega⟩,by repeat (first | exact Drawn0.refl _ | apply Drawn0.step)⟩
                   · rw [if_neg c18] at H
                     exact absurd H (by simp)
                 · rw [if_neg c17] at H
                   exact absurd H (by simp)
               · rw [if_neg c16] at H
                 exact absurd H (by simp)
             · rw [if_neg c14] at H
               exact absurd H (by simp)
           · rw [if_neg c13] at H
             have c13b0 : ((bt a0 x7_1) == 92) = false := beq_eq_false_iff_ne.mpr c13
             have c13b1 : ((bt a0 x7_1) != 92) = true := bne_iff_ne.mpr c13
             have c19b0 := eq_true (of_decide_eq_true (by first | (with_reducible assumption) | assumption) : 0 ≤ x7_1)
             by_cases c20 : x7_1 ≤ (wrap64 (x7_1 + 1))
             · rw [if_pos c20] at H
               have c20b0 := eq_true c20
               have c20b1 : decide (x7_1 ≤ (wrap64 (x7_1 + 1))) = true := decide_eq_true c20
               by_cases c21 : (wrap64 (x7_1 + 1)) ≤ (a0.size : Int)
               · rw [if_pos c21] at H
                 have c21b0 := eq_true c21
                 have c21b1 : decide ((wrap64 (x7_1 + 1)) ≤ (a0.size : Int)) = true := decide_eq_true c21
                 by_cases c22 : x3_1.size + (a0.extract (x7_1 : Int).toNat ((wrap64 (x7_1 + 1)) : Int).toNat).size ≤ 9223372036854775807
                 · rw [if_pos c22] at H
                   have c22b0 := eq_true c22
                   have c22b1 : decide (x3_1.size + (a0.extract (x7_1 : Int).toNat ((wrap64 (x7_1 + 1)) : Int).toNat).size ≤ 9223372036854775807) = true := decide_eq_true c22
                   try have c22b2 : (9223372036854775807 < x3_1.size + (a0.extract (x7_1 : Int).toNat ((wrap64 (x7_1 + 1)) : Int).toNat).size) = False := eq_false (Nat.not_lt.2 c22)
                   have H' := Aside0.mk H
                   clear H
                   have p5 : 0 ≤ (x7_1 : Int) := of_decide_eq_true (by first | (with_reducible assumption) | assumption)
                   have q5 : x7_1 < (a0.size : Int) := of_decide_eq_true (by first | (with_reducible assumption) | assumption)
                   have hx5 := bt_at a0 x7_1
                   replace p5 := eq_true p5
                   replace q5 := eq_true q5
                   have p12 : 0 ≤ (x7_1 : Int) := of_decide_eq_true (by first | (with_reducible assumption) | assumption)
                   have q12 : x7_1 < (a0.size : Int) := of_decide_eq_true (by first | (with_reducible assumption) | assumption)
                   have hx12 := bt_at a0 x7_1
                   replace p12 := eq_true p12
                   replace q12 := eq_true q12
                   go_wp2
                   go_roundg k1
                   case measure => have := HK1.out; omega
                   case rel => exact ⟨(x3_1 ++ (a0.extract (x7_1 : Int).toNat ((wrap64 (x7_1 + 1)) : Int).toNat)),(wrap64 (x7_1 + 1)),(by first | rfl | (simp; done) | (simp [*]; done)),(by first | rfl | (simp; done) | (simp [*]; done)),H',⟨by have := HK1.out; omega⟩,by repeat (first | exact Drawn0.refl _ | apply Drawn0.step)⟩
                 · rw [if_neg c22] at H
                   exact absurd H (by simp)
               · rw [if_neg c21] at H
                 exact absurd H (by simp)
             · rw [if_neg c20] at H
               exact absurd H (by simp)
       · rw [if_neg c4] at H
         exact absurd H (by simp)
     · rw [if_neg c3] at H
       exact absurd H (by simp)
   · rw [if_neg c2] at H
     have c2b0 : decide (x7_1 < (a0.size : Int)) = false := decide_eq_false c2
     clear c2
     by_cases c23 : x3_1.size + 1 ≤ 9223372036854775807
     · rw [if_pos c23] at H
       have c23b0 := eq_true c23
       have c23b1 : decide (x3_1.size + 1 ≤ 9223372036854775807) = true := decide_eq_true c23
       try have c23b2 : (9223372036854775807 < x3_1.size + 1) = False := eq_false (Nat.not_lt.2 c23)
       obtain rfl := Option.some.inj H
       go_wp2
       go_ret
       exact ⟨by first | rfl | (simp; done) | (simp [*]; done),by repeat (first | exact Drawn0.refl _ | apply Drawn0.step)⟩
     · rw [if_neg c23] at H
       exact absurd H (by simp)
end
section
/-! ### dossierref07_Print: function 19 -/
def dossierref07_Print.f (k : Nat) (a0_0 : Int) (a0_1 : Int) (a0_2 : Bool) (a0_3 : ByteArray) : Option (ByteArray) := if a0_0 = 1 then ((dossierref01_Text.f k a0_1).bind fun t263 => (some t263)) else (if a0_0 = 2 then (if a0_2 = true then (some (⟨#[116,114,117,101]⟩ : ByteArray)) else (some (⟨#[102,97,108,115,101]⟩ : ByteArray))) else (if a0_0 = 3 then ((dossierref07_Quote.f k a0_3).bind fun t264 => (some t264)) else (some (⟨#[]⟩ : ByteArray))))
set_option maxHeartbeats 8000000 in
set_option maxRecDepth 100000 in
theorem dossierref07_Print.calls (k : Nat) (a0_0 : Int) (a0_1 : Int) (a0_2 : Bool) (a0_3 : ByteArray) (r : ByteArray) (w : World) (h : dossierref07_Print.f k a0_0 a0_1 a0_2 a0_3 = some r) :
 Calls Tryz.prog 19 #[.agg #[.int .i64 a0_0,.int .i64 a0_1,.bool a0_2,.string a0_3]] w fun e w' => e = .returned (.string r) ∧ Below w.heap.size w w' := by
 have hu23 := Tryz.underlying23
 have HB := Aside0.mk (Below.refl w.heap.size w)
 have H : (if a0_0 = 1 then ((dossierref01_Text.f k a0_1).bind fun t263 => (some t263)) else (if a0_0 = 2 then (if a0_2 = true then (some (⟨#[116,114,117,101]⟩ : ByteArray)) else (some (⟨#[102,97,108,115,101]⟩ : ByteArray))) else (if a0_0 = 3 then ((dossierref07_Quote.f k a0_3).bind fun t264 => (some t264)) else (some (⟨#[]⟩ : ByteArray))))) = some r := h
 clear h
 by_cases c2 : a0_0 = 1
 · rw [if_pos c2] at H
   have c2b0 : (a0_0 == 1) = true := beq_iff_eq.mpr c2
   have c2b1 : (a0_0 != 1) = false := bne_eq_false_iff_eq.mpr c2
   clear c2
   replace H := Option.bind_eq_some_iff.mp H
   obtain ⟨t263,A30,H⟩ := H
   replace H : (some t263) = some r := H
   have A3 := Aside0.mk A30
   clear A30
   obtain rfl := Option.some.inj H
   go_enter Tryz.func19,Tryz.ntmps19
   go_wp2_with (first | ((with_reducible refine gate_dst (N := 1) rfl ?_); refine box_event ?hg (N := 1) ?hd (cs := #[.int .i64 a0_0,.int .i64 a0_1,.bool a0_2,.string a0_3]) (t := 23) ?hr ?_; (case hd => rfl); (case hg => rfl); (case hr => first | (go_simp; done) | (go_simp; rfl)); intro gb262 hg w4 hbox hb; have n0_ := Aside0.mk (below_step (by repeat (first | (with_reducible first | exact HB.out | apply below_alloc | apply pw_below_drewN | apply below_drew1 | apply bytes_below1) | exact HB.out)) hb); have n1_ := Aside0.mk (hbox); have n2_ := Aside0.mk ((by rw [hg]; exact (below_size (by repeat (first | (with_reducible first | exact HB.out | apply below_alloc | apply pw_below_drewN | apply below_drew1 | apply bytes_below1) | exact HB.out))) : w.heap.size ≤ gb262)); have n3_ := Aside0.mk ((by rw [hg]; exact (below_size (by repeat (first | (with_reducible first | exact HB.out | apply below_alloc | apply pw_below_drewN | apply below_drew1 | apply bytes_below1) | exact HB.out))) : w.heap.size ≤ gb262)); clear HB; have HB := n0_; have BK262 := n1_; have GW262 := n2_; have GE262 := n3_; clear n0_ n1_ n2_ n3_; clear hb hbox hg; have hcz5_0 : w4.cell? ⟨gb262,0,none⟩ = some (.int .i64 a0_0) := (blk_cell BK262.out 0).trans rfl; have hcz5_1 : w4.cell? ⟨gb262,1,none⟩ = some (.int .i64 a0_1) := (blk_cell BK262.out 1).trans rfl; have hcz5_2 : w4.cell? ⟨gb262,2,none⟩ = some (.bool a0_2) := (blk_cell BK262.out 2).trans rfl; have hcz5_3 : w4.cell? ⟨gb262,3,none⟩ = some (.string a0_3) := (blk_cell BK262.out 3).trans rfl; have hfz5_0 := blk_frozen BK262.out 0; have hfz5_1 := blk_frozen BK262.out 1; have hfz5_2 := blk_frozen BK262.out 2; have hfz5_3 := blk_frozen BK262.out 3) | ((with_reducible refine gate_callee (f := 37) rfl ?_); refine goesL_ (some 9) rfl rfl Tryz.func37 (by kernel_rfl) rfl #[.int .i64 a0_1] rfl (by (try simp only [List.map_toArray,List.map_cons,List.map_nil]); first | done | rfl | (simp only [List.length_drop,List.length_take]; rfl)) ?_; (with_reducible refine (dossierref01_Text.calls k a0_1 t263 _ A3.out).mono ?_); rintro e w' ⟨rfl,⟨nd,rfl⟩⟩; refine ⟨_,rfl,?_⟩))
   go_ret
   exact ⟨by first | rfl | (simp [errW_none,errW_some] <;> rfl) | (simp [*,errW_none,errW_some] <;> rfl),by repeat (first | (with_reducible first | exact HB.out | apply below_alloc | apply pw_below_drewN | apply below_drew1 | apply bytes_below1 | refine below_set ?_ GE262.out) | exact HB.out)⟩
 · rw [if_neg c2] at H
   have c2b0 : (a0_0 == 1) = false := beq_eq_false_iff_ne.mpr c2
   have c2b1 : (a0_0 != 1) = true := bne_iff_ne.mpr c2
   by_cases c6 : a0_0 = 2
   · rw [if_pos c6] at H
     have c6b0 : (a0_0 == 2) = true := beq_iff_eq.mpr c6
     have c6b1 : (a0_0 != 2) = false := bne_eq_false_iff_eq.mpr c6
     clear c6
     by_cases c7 : a0_2 = true
     · subst c7
       have H1 : (some (⟨#[116,114,117,101]⟩ : ByteArray)) = some r := by rw [if_pos rfl] at H; exact H
       clear H
       have H := H1
       clear H1
       obtain rfl := Option.some.inj H
       go_enter Tryz.func19,Tryz.ntmps19
       go_wp2_with (first | ((with_reducible refine gate_dst (N := 1) rfl ?_); refine box_event ?hg (N := 1) ?hd (cs := #[.int .i64 a0_0,.int .i64 a0_1,.bool true,.string a0_3]) (t := 23) ?hr ?_; (case hd => rfl); (case hg => rfl); (case hr => first | (go_simp; done) | (go_simp; rfl)); intro gb262 hg w8 hbox hb; have n0_ := Aside0.mk (below_step (by repeat (first | (with_reducible first | exact HB.out | apply below_alloc | apply pw_below_drewN | apply below_drew1 | apply bytes_below1) | exact HB.out)) hb); have n1_ := Aside0.mk (hbox); have n2_ := Aside0.mk ((by rw [hg]; exact (below_size (by repeat (first | (with_reducible first | exact HB.out | apply below_alloc | apply pw_below_drewN | apply below_drew1 | apply bytes_below1) | exact HB.out))) : w.heap.size ≤ gb262)); have n3_ := Aside0.mk ((by rw [hg]; exact (below_size (by repeat (first | (with_reducible first | exact HB.out | apply below_alloc | apply pw_below_drewN | apply below_drew1 | apply bytes_below1) | exact HB.out))) : w.heap.size ≤ gb262)); clear HB; have HB := n0_; have BK262 := n1_; have GW262 := n2_; have GE262 := n3_; clear n0_ n1_ n2_ n3_; clear hb hbox hg; have hcz9_0 : w8.cell? ⟨gb262,0,none⟩ = some (.int .i64 a0_0) := (blk_cell BK262.out 0).trans rfl; have hcz9_1 : w8.cell? ⟨gb262,1,none⟩ = some (.int .i64 a0_1) := (blk_cell BK262.out 1).trans rfl; have hcz9_2 : w8.cell? ⟨gb262,2,none⟩ = some (.bool true) := (blk_cell BK262.out 2).trans rfl; have hcz9_3 : w8.cell? ⟨gb262,3,none⟩ = some (.string a0_3) := (blk_cell BK262.out 3).trans rfl; have hfz9_0 := blk_frozen BK262.out 0; have hfz9_1 := blk_frozen BK262.out 1; have hfz9_2 := blk_frozen BK262.out 2; have hfz9_3 := blk_frozen BK262.out 3))
       go_ret
       exact ⟨by first | rfl | (simp [errW_none,errW_some] <;> rfl) | (simp [*,errW_none,errW_some] <;> rfl),by repeat (first | (with_reducible first | exact HB.out | apply below_alloc | apply pw_below_drewN | apply below_drew1 | apply bytes_below1 | refine below_set ?_ GE262.out) | exact HB.out)⟩
     · replace c7 := Bool.eq_false_iff.mpr c7
       subst c7
       have H1 : (some (⟨#[102,97,108,115,101]⟩ : ByteArray)) = some r := by rw [if_neg (show ¬ (false = true) by decide)] at H; exact H
       clear H
       have H := H1
       clear H1
       obtain rfl := Option.some.inj H
       go_enter Tryz.func19,Tryz.ntmps19
       go_wp2_with (first | ((with_reducible refine gate_dst (N := 1) rfl ?_); refine box_event ?hg (N := 1) ?hd (cs := #[.int .i64 a0_0,.int .i64 a0_1,.bool false,.string a0_3]) (t := 23) ?hr ?_; (case hd => rfl); (case hg => rfl); (case hr => first | (go_simp; done) | (go_simp; rfl)); intro gb262 hg w10 hbox hb; have n0_ := Aside0.mk (below_step (by repeat (first | (with_reducible first | exact HB.out | apply below_alloc | apply pw_below_drewN | apply below_drew1 | apply bytes_below1) | exact HB.out)) hb); have n1_ := Aside0.mk (hbox); have n2_ := Aside0.mk ((by rw [hg]; exact (below_size (by repeat (first | (with_reducible first | exact HB.out | apply below_alloc | apply pw_below_drewN | apply below_drew1 | apply bytes_below1) | exact HB.out))) : w.heap.size ≤ gb262)); have n3_ := Aside0.mk ((by rw [hg]; exact (below_size (by repeat (first | (with_reducible first | exact HB.out | apply below_alloc | apply pw_below_drewN | apply below_drew1 | apply bytes_below1) | exact HB.out))) : w.heap.size ≤ gb262)); clear HB; have HB := n0_; have BK262 := n1_; have GW262 := n2_; have GE262 := n3_; clear n0_ n1_ n2_ n3_; clear hb hbox hg; have hcz11_0 : w10.cell? ⟨gb262,0,none⟩ = some (.int .i64 a0_0) := (blk_cell BK262.out 0).trans rfl; have hcz11_1 : w10.cell? ⟨gb262,1,none⟩ = some (.int .i64 a0_1) := (blk_cell BK262.out 1).trans rfl; have hcz11_2 : w10.cell? ⟨gb262,2,none⟩ = some (.bool false) := (blk_cell BK262.out 2).trans rfl; have hcz11_3 : w10.cell? ⟨gb262,3,none⟩ = some (.string a0_3) := (blk_cell BK262.out 3).trans rfl; have hfz11_0 := blk_frozen BK262.out 0; have hfz11_1 := blk_frozen BK262.out 1; have hfz11_2 := blk_frozen BK262.out 2; have hfz11_3 := blk_frozen BK262.out 3))
       go_ret
       exact ⟨by first | rfl | (simp [errW_none,errW_some] <;> rfl) | (simp [*,errW_none,errW_some] <;> rfl),by repeat (first | (with_reducible first | exact HB.out | apply below_alloc | apply pw_below_drewN | apply below_drew1 | apply bytes_below1 | refine below_set ?_ GE262.out) | exact HB.out)⟩
   · rw [if_neg c6] at H
     have c6b0 : (a0_0 == 2) = false := beq_eq_false_iff_ne.mpr c6
     have c6b1 : (a0_0 != 2) = true := bne_iff_ne.mpr c6
     by_cases c12 : a0_0 = 3
     · rw [if_pos c12] at H
       have c12b0 : (a0_0 == 3) = true := beq_iff_eq.mpr c12
       have c12b1 : (a0_0 != 3) = false := bne_eq_false_iff_eq.mpr c12
       clear c12
       replace H := Option.bind_eq_some_iff.mp H
       obtain ⟨t264,A130,H⟩ := H
       replace H : (some t264) = some r := H
       have A13 := Aside0.mk A130
       clear A130
       obtain rfl := Option.some.inj H
       go_enter Tryz.func19,Tryz.ntmps19
       go_wp2_with (first | ((with_reducible refine gate_dst (N := 1) rfl ?_); refine box_event ?hg (N := 1) ?hd (cs := #[.int .i64 a0_0,.int .i64 a0_1,.bool a0_2,.string a0_3]) (t := 23) ?hr ?_; (case hd => rfl); (case hg => rfl); (case hr => first | (go_simp; done) | (go_simp; rfl)); intro gb262 hg w14 hbox hb; have n0_ := Aside0.mk (below_step (by repeat (first | (with_reducible first | exact HB.out | apply below_alloc | apply pw_below_drewN | apply below_drew1 | apply bytes_below1) | exact HB.out)) hb); have n1_ := Aside0.mk (hbox); have n2_ := Aside0.mk ((by rw [hg]; exact (below_size (by repeat (first | (with_reducible first | exact HB.out | apply below_alloc | apply pw_below_drewN | apply below_drew1 | apply bytes_below1) | exact HB.out))) : w.heap.size ≤ gb262)); have n3_ := Aside0.mk ((by rw [hg]; exact (below_size (by repeat (first | (with_reducible first | exact HB.out | apply below_alloc | apply pw_below_drewN | apply below_drew1 | apply bytes_below1) | exact HB.out))) : w.heap.size ≤ gb262)); clear HB; have HB := n0_; have BK262 := n1_; have GW262 := n2_; have GE262 := n3_; clear n0_ n1_ n2_ n3_; clear hb hbox hg; have hcz15_0 : w14.cell? ⟨gb262,0,none⟩ = some (.int .i64 a0_0) := (blk_cell BK262.out 0).trans rfl; have hcz15_1 : w14.cell? ⟨gb262,1,none⟩ = some (.int .i64 a0_1) := (blk_cell BK262.out 1).trans rfl; have hcz15_2 : w14.cell? ⟨gb262,2,none⟩ = some (.bool a0_2) := (blk_cell BK262.out 2).trans rfl; have hcz15_3 : w14.cell? ⟨gb262,3,none⟩ = some (.string a0_3) := (blk_cell BK262.out 3).trans rfl; have hfz15_0 := blk_frozen BK262.out 0; have hfz15_1 := blk_frozen BK262.out 1; have hfz15_2 := blk_frozen BK262.out 2; have hfz15_3 := blk_frozen BK262.out 3) | ((with_reducible refine gate_callee (f := 38) rfl ?_); refine goesL_ (some 18) rfl rfl Tryz.func38 (by kernel_rfl) rfl #[.string a0_3] rfl (by (try simp only [List.map_toArray,List.map_cons,List.map_nil]); first | done | rfl | (simp only [List.length_drop,List.length_take]; rfl)) ?_; (with_reducible refine (dossierref07_Quote.calls k a0_3 t264 _ A13.out).mono ?_); rintro e w' ⟨rfl,⟨nd,rfl⟩⟩; refine ⟨_,rfl,?_⟩))
       go_ret
       exact ⟨by first | rfl | (simp [errW_none,errW_some] <;> rfl) | (simp [*,errW_none,errW_some] <;> rfl),by repeat (first | (with_reducible first | exact HB.out | apply below_alloc | apply pw_below_drewN | apply below_drew1 | apply bytes_below1 | refine below_set ?_ GE262.out) | exact HB.out)⟩
     · rw [if_neg c12] at H
       have c12b0 : (a0_0 == 3) = false := beq_eq_false_iff_ne.mpr c12
       have c12b1 : (a0_0 != 3) = true := bne_iff_ne.mpr c12
       obtain rfl := Option.some.inj H
       go_enter Tryz.func19,Tryz.ntmps19
       go_wp2_with (first | ((with_reducible refine gate_dst (N := 1) rfl ?_); refine box_event ?hg (N := 1) ?hd (cs := #[.int .i64 a0_0,.int .i64 a0_1,.bool a0_2,.string a0_3]) (t := 23) ?hr ?_; (case hd => rfl); (case hg => rfl); (case hr => first | (go_simp; done) | (go_simp; rfl)); intro gb262 hg w16 hbox hb; have n0_ := Aside0.mk (below_step (by repeat (first | (with_reducible first | exact HB.out | apply below_alloc | apply pw_below_drewN | apply below_drew1 | apply bytes_below1) | exact HB.out)) hb); have n1_ := Aside0.mk (hbox); have n2_ := Aside0.mk ((by rw [hg]; exact (below_size (by repeat (first | (with_reducible first | exact HB.out | apply below_alloc | apply pw_below_drewN | apply below_drew1 | apply bytes_below1) | exact HB.out))) : w.heap.size ≤ gb262)); have n3_ := Aside0.mk ((by rw [hg]; exact (below_size (by repeat (first | (with_reducible first | exact HB.out | apply below_alloc | apply pw_below_drewN | apply below_drew1 | apply bytes_below1) | exact HB.out))) : w.heap.size ≤ gb262)); clear HB; have HB := n0_; have BK262 := n1_; have GW262 := n2_; have GE262 := n3_; clear n0_ n1_ n2_ n3_; clear hb hbox hg; have hcz17_0 : w16.cell? ⟨gb262,0,none⟩ = some (.int .i64 a0_0) := (blk_cell BK262.out 0).trans rfl; have hcz17_1 : w16.cell? ⟨gb262,1,none⟩ = some (.int .i64 a0_1) := (blk_cell BK262.out 1).trans rfl; have hcz17_2 : w16.cell? ⟨gb262,2,none⟩ = some (.bool a0_2) := (blk_cell BK262.out 2).trans rfl; have hcz17_3 : w16.cell? ⟨gb262,3,none⟩ = some (.string a0_3) := (blk_cell BK262.out 3).trans rfl; have hfz17_0 := blk_frozen BK262.out 0; have hfz17_1 := blk_frozen BK262.out 1; have hfz17_2 := blk_frozen BK262.out 2; have hfz17_3 := blk_frozen BK262.out 3))
       go_ret
       exact ⟨by first | rfl | (simp [errW_none,errW_some] <;> rfl) | (simp [*,errW_none,errW_some] <;> rfl),by repeat (first | (with_reducible first | exact HB.out | apply below_alloc | apply pw_below_drewN | apply below_drew1 | apply bytes_below1 | refine below_set ?_ GE262.out) | exact HB.out)⟩
end
end Go.Proofs.YtifgpigicgaadaaGreatDoor.Q
end
section
/- A value's bytes and text: what the program and the reference write. -/
set_option linter.unusedSimpArgs false
set_option linter.unusedVariables false
namespace Go.Proofs.YtifgpigicgaadaaGreatDoor.Makes
open Go.RowKit Go.Proofs.YtifgpigicgaadaaGreatDoor.Q Go.Proofs.YtifgpigicgaadaaGreatDoorW.PrintWords Go.Proofs.YtifgpigicgaadaaGreatDoorW.PrintLast Go.Proofs.YtifgpigicgaadaaGreatDoorH Go.Proofs.YtifgpigicgaadaaGreatDoor.Chars Go.Proofs.YtifgpigicgaadaaGreatDoor.Values Go.Proofs.YtifgpigicgaadaaGreatDoor.Does Go.Proofs.YtifgpigicgaadaaGreatDoor.Bytes Go.Proofs.YtifgpigicgaadaaGreatDoor.Hand

/-! ## A number's bytes -/
def zig (a : Int) : Int := if a < 0 then -2 * a - 1 else 2 * a
def uvl : Nat → Int → List Int
  | 0, _ => []
  | f + 1, u => if u ≥ 128 then (u % 128 + 128) :: uvl f (u / 128) else [u]
theorem or_at : ∀ y : Fin 256, Go.bits .or .u8 (y.val : Int) 128 = (y.val : Int) % 128 + 128 := of_decide_eq_true (by kernel_rfl)
theorem or_spec (u : Int) (h : 0 ≤ u) : Go.bits .or .u8 (u % 256) 128 = u % 128 + 128 := by
  obtain ⟨y, hy⟩ := Int.eq_ofNat_of_zero_le (Int.emod_nonneg u (by omega : (256 : Int) ≠ 0))
  have := or_at ⟨y, by omega⟩
  rw [hy]
  refine this.trans ?_
  show (y : Int) % 128 + 128 = _
  omega
theorem xor_zero (x : Int) (h : 0 ≤ x ∧ x < 18446744073709551616) : Go.bits .xor .u64 x 0 = x := by
  have e : Go.bits .xor .u64 x 0 = IntKind.u64.wrap (((BitVec.ofInt 64 x ^^^ BitVec.ofInt 64 0).toNat : Nat) : Int) := rfl
  rw [e, show BitVec.ofInt 64 0 = 0#64 from rfl, BitVec.xor_zero, BitVec.toNat_ofInt]
  simp [IntKind.wrap, IntKind.bits, IntKind.signed]
  omega
theorem xor_ones (x : Int) (h : 0 ≤ x ∧ x < 18446744073709551616) : Go.bits .xor .u64 x 18446744073709551615 = 18446744073709551615 - x := by
  have e : Go.bits .xor .u64 x 18446744073709551615 = IntKind.u64.wrap (((BitVec.ofInt 64 x ^^^ BitVec.ofInt 64 18446744073709551615).toNat : Nat) : Int) := rfl
  rw [e, show BitVec.ofInt 64 18446744073709551615 = BitVec.allOnes 64 from rfl, BitVec.xor_allOnes, BitVec.toNat_not, BitVec.toNat_ofInt]
  simp [IntKind.wrap, IntKind.bits, IntKind.signed]
  omega
theorem u64w (x : Int) : IntKind.u64.wrap x = x % 18446744073709551616 := by simp [IntKind.wrap, IntKind.bits, IntKind.signed]
theorem zig_prog (a : Int) (h : In64 a) : Go.bits .xor .u64 (IntKind.u64.wrap ((IntKind.u64.wrap a) * 2)) (IntKind.u64.wrap (a / 9223372036854775808)) = zig a := by
  unfold In64 at h
  unfold zig
  rw [u64w, u64w, u64w]
  by_cases h0 : a < 0
  · rw [if_pos h0, show a / 9223372036854775808 % 18446744073709551616 = 18446744073709551615 from by omega, xor_ones _ (by omega)]
    omega
  · rw [if_neg h0, show a / 9223372036854775808 % 18446744073709551616 = 0 from by omega, xor_zero _ (by omega)]
    omega
theorem zig_ref (a : Int) (h : In64 a) (h0 : a < 0) : IntKind.u64.wrap ((IntKind.u64.wrap ((IntKind.u64.wrap (wrap64 (-(wrap64 (a + 1))))) * 2)) + 1) = zig a := by
  unfold In64 at h
  unfold zig
  rw [if_pos h0, u64w, u64w, u64w]
  unfold wrap64
  omega
theorem zig_ref' (a : Int) (h : In64 a) (h0 : ¬ a < 0) : IntKind.u64.wrap ((IntKind.u64.wrap a) * 2) = zig a := by
  unfold In64 at h
  unfold zig
  rw [if_neg h0, u64w, u64w]
  omega
theorem zig_range (a : Int) (h : In64 a) : 0 ≤ zig a ∧ zig a < 18446744073709551616 := by
  unfold In64 at h
  unfold zig
  split <;> omega
theorem uvl_len : ∀ (f : Nat) (u : Int), (uvl f u).length ≤ f
  | 0, _ => Nat.le_refl _
  | f + 1, u => by
    unfold uvl
    split
    · have := uvl_len f (u / 128); simp; exact this
    · simp
theorem pow_step (f : Nat) (u : Int) (h : u < 128 ^ (f + 1)) : u / 128 < 128 ^ f := by
  rw [Int.pow_succ] at h
  exact Int.ediv_lt_of_lt_mul (by omega) h
theorem wire_loop : ∀ (f k : Nat) (x : List Int) (u : Int), 0 ≤ u → u < 128 ^ (f + 1) → x.length + f + 1 < 140737488355328 → wire_Int.l0 (k + f + 1) x u = some (x ++ uvl (f + 1) u) := by
  intro f
  induction f with
  | zero =>
    intro k x u h0 h1 hx
    rw [show (128 : Int) ^ (0 + 1) = 128 from rfl] at h1
    rw [wire_Int.l0, if_neg (by omega), if_pos (by omega), uvl, if_neg (by omega), Int.emod_eq_of_lt h0 (by omega)]
  | succ f ih =>
    intro k x u h0 h1 hx
    rw [show k + (f + 1) + 1 = (k + f + 1) + 1 from by omega, wire_Int.l0, uvl]
    by_cases h : u ≥ 128
    · rw [if_pos h, if_pos (by omega), if_pos h, or_spec u h0, ih k _ _ (by omega) (pow_step (f + 1) u h1) (by rw [List.length_append, List.length_singleton]; omega), List.append_assoc]; rfl
    · rw [if_neg h, if_pos (by omega), if_neg h, Int.emod_eq_of_lt h0 (by omega)]
theorem ref_loop : ∀ (f k : Nat) (x : List Int) (u : Int), 0 ≤ u → u < 18446744073709551616 → u < 128 ^ (f + 1) → x.length + f + 1 < 140737488355328 → dossierref02_Int.l0 (k + f + 1) u x = some (x ++ uvl (f + 1) u) := by
  intro f
  induction f with
  | zero =>
    intro k x u h0 hu h1 hx
    rw [show (128 : Int) ^ (0 + 1) = 128 from rfl] at h1
    rw [dossierref02_Int.l0, if_neg (by omega), if_pos (by omega), uvl, if_neg (by omega), Int.emod_eq_of_lt h0 (by omega)]
  | succ f ih =>
    intro k x u h0 hu h1 hx
    rw [show k + (f + 1) + 1 = (k + f + 1) + 1 from by omega, dossierref02_Int.l0, uvl]
    by_cases h : u ≥ 128
    · have e1 : ((Int.tmod u 128) + 128) % 256 = u % 128 + 128 := by rw [Int.tmod_eq_emod_of_nonneg h0]; omega
      have e2 : IntKind.u64.wrap (Int.tdiv u 128) = u / 128 := by rw [u64w, Int.tdiv_eq_ediv_of_nonneg h0]; omega
      rw [if_pos h, if_pos (by omega), if_pos h, e1, e2, ih k _ _ (by omega) (by omega) (pow_step (f + 1) u h1) (by rw [List.length_append, List.length_singleton]; omega), List.append_assoc]; rfl
    · rw [if_neg h, if_pos (by omega), if_neg h, Int.emod_eq_of_lt h0 (by omega)]
def intB (l : List Int) (a : Int) : List Int := l ++ uvl 10 (zig a)
theorem clone_spec (l : List Int) (h : l.length < 140737488355328) : slices_Clone_byte_byte.f l = some l := by
  unfold slices_Clone_byte_byte.f; rw [if_pos h]
theorem wire_spec (k : Nat) (l : List Int) (a : Int) (h : In64 a) (hl : l.length + 20 < 140737488355328) : wire_Int.f (k + 20) l a = some (intB l a) := by
  have hz := zig_range a h
  unfold wire_Int.f
  rw [clone_spec l (by omega), Option.bind_some, zig_prog a h, show k + 20 = (k + 10) + 9 + 1 from rfl, wire_loop 9 (k + 10) l (zig a) hz.1 (Int.lt_of_lt_of_le hz.2 (by decide)) (by omega)]
  rfl
theorem ref_int_spec (k : Nat) (l : List Int) (a : Int) (h : In64 a) (hl : l.length + 20 < 140737488355328) : dossierref02_Int.f (k + 20) l a = some (intB l a) := by
  have hz := zig_range a h
  have hj : dossierref02_Int.j0 (k + 20) l (zig a) = some (intB l a) := by
    rw [show k + 20 = (k + 19) + 1 from rfl, dossierref02_Int.j0, Option.bind_some, if_pos (by simp; omega), List.nil_append, show k + 19 = (k + 9) + 9 + 1 from rfl, ref_loop 9 (k + 9) l (zig a) hz.1 hz.2 (Int.lt_of_lt_of_le hz.2 (by decide)) (by omega)]
    rfl
  unfold dossierref02_Int.f
  by_cases h0 : a < 0
  · rw [if_pos h0, zig_ref a h h0]; exact hj
  · rw [if_neg h0, zig_ref' a h h0]; exact hj
theorem intB_len (l : List Int) (a : Int) : (intB l a).length ≤ l.length + 10 := by
  unfold intB
  rw [List.length_append]
  have := uvl_len 10 (zig a)
  omega

/-! ## A value's bytes -/
theorem flag_spec (l : List Int) (y : Bool) (hl : l.length + 20 < 140737488355328) : wire_Flag.f l y = some (l ++ [if y = true then 1 else 0]) := by
  unfold wire_Flag.f
  rw [clone_spec l (by omega), Option.bind_some, if_pos (by omega), Option.bind_some]
  have hlen : ((l ++ [0] : List Int).length : Int) = l.length + 1 := by simp
  have hw : wrap64 (((l ++ [0] : List Int).length : Int) - 1) = l.length := by rw [hlen]; unfold wrap64; omega
  cases y
  · rfl
  · rw [if_pos rfl, hw, if_pos (by omega), if_pos (by rw [hlen]; omega), Int.toNat_natCast, List.set_append_right _ _ (Nat.le_refl _), Nat.sub_self]
    rfl
theorem ref_flag_spec (l : List Int) (y : Bool) (hl : l.length + 20 < 140737488355328) : dossierref02_Flag.f l y = some (l ++ [if y = true then 1 else 0]) := by
  unfold dossierref02_Flag.f
  have e : ([] : List Int).length + l.length < 140737488355328 := by simp; omega
  cases y
  · rw [if_neg (by decide), Option.bind_some, if_pos e, Option.bind_some, if_pos (by simp; omega)]
    rfl
  · rw [if_pos rfl, Option.bind_some, if_pos e, Option.bind_some, if_pos (by simp; omega)]
    rfl
def textB (l : List Int) (s : ByteArray) : List Int := intB l (s.size : Int) ++ bytesOf s
theorem text_spec (k : Nat) (l : List Int) (s : ByteArray) (hl : l.length + s.size + 40 < 140737488355328) : wire_Text.f (k + 20) l s = some (textB l s) ∧ dossierref02_Text.f (k + 20) l s = some (textB l s) := by
  have hi : In64 (s.size : Int) := by unfold In64; omega
  have := intB_len l (s.size : Int)
  unfold wire_Text.f dossierref02_Text.f
  rw [wire_spec k l _ hi (by omega), ref_int_spec k l _ hi (by omega), Option.bind_some, if_pos (by omega)]
  exact ⟨rfl, rfl⟩
theorem write_same (k : Nat) (l : List Int) (n i : Int) (y : Bool) (s : ByteArray) (hn : In64 n) (hi : In64 i) (hl : l.length + s.size + 100 < 140737488355328) :
    ∃ r, value_Write.f (k + 20) l n i y s = some r ∧ dossierref07_Write.f (k + 20) l n i y s = some r := by
  have hb := intB_len l n
  unfold value_Write.f dossierref07_Write.f
  rw [wire_spec k l n hn (by omega), ref_int_spec k l n hn (by omega), Option.bind_some, Option.bind_some]
  by_cases h1 : n = 1
  · rw [if_pos h1, if_pos h1, wire_spec k _ i hi (by omega), ref_int_spec k _ i hi (by omega)]
    exact ⟨_, rfl, rfl⟩
  · rw [if_neg h1, if_neg h1]
    by_cases h2 : n = 2
    · rw [if_pos h2, if_pos h2, flag_spec _ y (by omega), ref_flag_spec _ y (by omega)]
      exact ⟨_, rfl, rfl⟩
    · rw [if_neg h2, if_neg h2]
      by_cases h3 : n = 3
      · have ht := text_spec k (intB l n) s (by omega)
        rw [if_pos h3, if_pos h3, ht.1, ht.2]
        exact ⟨_, rfl, rfl⟩
      · rw [if_neg h3, if_neg h3]
        exact ⟨_, rfl, rfl⟩

/-! ## A number's text -/
theorem digit_one (m : Nat) (h : m < 10) : (⟨#[48, 49, 50, 51, 52, 53, 54, 55, 56, 57]⟩ : ByteArray).extract m (m + 1) = strOfNums [48 + (m : Int)] := by
  have : ∀ y : Fin 10, (⟨#[48, 49, 50, 51, 52, 53, 54, 55, 56, 57]⟩ : ByteArray).extract y.val (y.val + 1) = strOfNums [48 + (y.val : Int)] := of_decide_eq_true (by kernel_rfl)
  exact this ⟨m, h⟩
theorem str_app {l m : List Int} : strOfNums (l ++ m) = strOfNums l ++ strOfNums m := by
  apply ByteArray.ext
  rw [ByteArray.data_append]
  unfold strOfNums
  apply Array.toList_inj.1
  simp
theorem dec10_len : ∀ f m, (dec10 f m).length ≤ f
  | 0, _ => Nat.le_refl _
  | f + 1, m => by
    unfold dec10
    rw [List.length_append, List.length_singleton]
    split
    · simp
    · have := dec10_len f (m / 10); omega
theorem ref_digit (k m : Nat) (h : m < 10) : dossierref01_Text.f (k + 1) (m : Int) = some (strOfNums [48 + (m : Int)]) := by
  have hw : wrap64 ((m : Int) + 1) = ((m + 1 : Nat) : Int) := by unfold wrap64; omega
  rw [dossierref01_Text.f, if_neg (by omega), if_pos (by omega), if_pos (by omega), hw, if_pos (by omega), if_pos (by omega), Int.toNat_natCast, Int.toNat_natCast, digit_one m h]
theorem ref_text_pos : ∀ (f k m : Nat), f ≤ 30 → m < 10 ^ (f + 1) → m < 9223372036854775808 → dossierref01_Text.f (k + f + 2) (m : Int) = some (strOfNums (dec10 (f + 1) m)) := by
  intro f
  induction f with
  | zero =>
    intro k m _ h _
    have h' : m < 10 := by simpa using h
    rw [show k + 0 + 2 = (k + 1) + 1 from rfl, ref_digit (k + 1) m h', dec10, if_pos h', Nat.mod_eq_of_lt h']
    rfl
  | succ f ih =>
    intro k m hf h hm
    by_cases h10 : m < 10
    · rw [show k + (f + 1) + 2 = (k + f + 2) + 1 from by omega, ref_digit _ m h10, dec10, if_pos h10, Nat.mod_eq_of_lt h10]
      rfl
    · have e1 : wrap64 (Int.tdiv (m : Int) 10) = ((m / 10 : Nat) : Int) := by rw [Int.tdiv_eq_ediv_of_nonneg (by omega)]; unfold wrap64; omega
      have e2 : Int.tmod (m : Int) 10 = ((m % 10 : Nat) : Int) := by rw [Int.tmod_eq_emod_of_nonneg (by omega)]; omega
      have hd : m / 10 < 10 ^ (f + 1) := by
        rw [Nat.div_lt_iff_lt_mul (by omega), ← Nat.pow_succ]; exact h
      have hl := dec10_len (f + 1) (m / 10)
      rw [show k + (f + 1) + 2 = (k + f + 2) + 1 from by omega, dossierref01_Text.f, if_neg (by omega), if_neg (by omega), e1, e2, ih k (m / 10) (by omega) hd (by omega), Option.bind_some, show k + f + 2 = (k + f + 1) + 1 from rfl, ref_digit _ (m % 10) (Nat.mod_lt _ (by omega)), Option.bind_some, if_pos (by rw [strOfNums_size, strOfNums_size]; simp; omega), ← str_app]
      conv => rhs; rw [dec10, if_neg h10]
theorem ref_text_neg : ∀ (f k m : Nat), f ≤ 30 → 0 < m → m < 10 ^ (f + 1) → m ≤ 9223372036854775808 → dossierref01_Text.f (k + f + 3) (-(m : Int)) = some (strOfNums (45 :: dec10 (f + 1) m)) := by
  intro f
  induction f with
  | zero =>
    intro k m _ h0 h _
    have h' : m < 10 := by simpa using h
    have hw : wrap64 (-(-(m : Int))) = (m : Int) := by unfold wrap64; omega
    rw [show k + 0 + 3 = (k + 2) + 1 from rfl, dossierref01_Text.f, if_pos (by omega), if_pos (by omega), hw, show k + 2 = (k + 1) + 1 from rfl, ref_digit (k + 1) m h', Option.bind_some, if_pos (by rw [strOfNums_size]; simp), dec10, if_pos h', Nat.mod_eq_of_lt h']
    rfl
  | succ f ih =>
    intro k m hf h0 h hm
    by_cases h10 : m < 10
    · have hw : wrap64 (-(-(m : Int))) = (m : Int) := by unfold wrap64; omega
      rw [show k + (f + 1) + 3 = (k + f + 2 + 1) + 1 from by omega, dossierref01_Text.f, if_pos (by omega), if_pos (by omega), hw, ref_digit (k + f + 2) m h10, Option.bind_some, if_pos (by rw [strOfNums_size]; simp), dec10, if_pos h10, Nat.mod_eq_of_lt h10]
      rfl
    · have e0 : Int.tdiv (-(m : Int)) 10 = -((m / 10 : Nat) : Int) := by rw [Int.neg_tdiv, Int.tdiv_eq_ediv_of_nonneg (by omega)]; omega
      have e1 : wrap64 (Int.tdiv (-(m : Int)) 10) = -((m / 10 : Nat) : Int) := by rw [e0]; unfold wrap64; omega
      have e2 : wrap64 (-(Int.tmod (-(m : Int)) 10)) = ((m % 10 : Nat) : Int) := by rw [Int.neg_tmod, Int.tmod_eq_emod_of_nonneg (by omega)]; unfold wrap64; omega
      have hd : m / 10 < 10 ^ (f + 1) := by
        rw [Nat.div_lt_iff_lt_mul (by omega), ← Nat.pow_succ]; exact h
      have hl := dec10_len (f + 1) (m / 10)
      rw [show k + (f + 1) + 3 = (k + f + 3) + 1 from by omega, dossierref01_Text.f, if_pos (by omega), if_neg (by omega), e1, e2, ih k (m / 10) (by omega) (by omega) hd (by omega), Option.bind_some, show k + f + 3 = (k + f + 2) + 1 from rfl, ref_digit _ (m % 10) (Nat.mod_lt _ (by omega)), Option.bind_some, if_pos (by rw [strOfNums_size, strOfNums_size]; simp; omega), ← str_app]
      conv => rhs; rw [dec10, if_neg h10]
      rfl
theorem ref_text_spec (k : Nat) (i : Int) (h : In64 i) : dossierref01_Text.f (k + 22) i = some (strOfNums (textOf i)) := by
  unfold In64 at h
  unfold textOf
  by_cases h0 : i < 0
  · have := ref_text_neg 19 k i.natAbs (by omega) (by omega) (by omega) (by omega)
    rw [show -(i.natAbs : Int) = i from by omega] at this
    rw [if_pos h0, this]; rfl
  · have := ref_text_pos 19 (k + 1) i.natAbs (by omega) (by omega) (by omega)
    rw [show (i.natAbs : Int) = i from by omega] at this
    rw [if_neg h0, show k + 22 = k + 1 + 19 + 2 from by omega, this]; rfl

/-! ## A text between quotes -/
theorem esc_cons (x : Int) (l : List Int) : esc (x :: l) = escB x ++ esc l := rfl
theorem quote_at (s : ByteArray) (hs : (bytesOf s).length ≤ 140737488351232) : ∀ (d i k : Nat) (out : ByteArray), i + d = (bytesOf s).length → out.size ≤ 2 * i + 1 →
    dossierref07_Quote.l0 (k + d + 1) s out (s.size : Int) (i : Int) = some (out ++ strOfNums (esc ((bytesOf s).drop i)) ++ ⟨#[34]⟩) := by
  intro d
  induction d with
  | zero =>
    intro i k out hi ho
    rw [dossierref07_Quote.l0, b_size, if_neg (by omega), if_pos (by omega), List.drop_of_length_le (by omega)]
    have : out ++ strOfNums (esc []) = out := by apply b_inj; rw [b_append]; exact List.append_nil _
    rw [this]
  | succ d ih =>
    intro i k out hi ho
    have hlt : i < (bytesOf s).length := by omega
    have hz := b_size s
    have e2 : wrap64 ((i : Int) + 1) = ((i + 1 : Nat) : Int) := by unfold wrap64; omega
    have hx : s.extract (i : Int).toNat (((i + 1 : Nat) : Int)).toNat = strOfNums [(bytesOf s)[i]] := by
      apply b_inj
      rw [b_extract, Int.toNat_natCast, Int.toNat_natCast, drop_cons hlt, show i + 1 - i = 1 from by omega, b_str]
      · rfl
      · intro x hx; simp at hx; rw [hx]; exact bytes_of s _ (List.getElem_mem hlt)
    have hsz : (strOfNums [(bytesOf s)[i]]).size = 1 := rfl
    have h92 : (⟨#[92]⟩ : ByteArray).size = 1 := rfl
    rw [show k + (d + 1) + 1 = (k + d + 1) + 1 from by omega, dossierref07_Quote.l0, if_pos (by omega), if_pos (by omega), if_pos (by omega), bt_at' hlt, e2, hx, drop_cons hlt, esc_cons]
    have hq : ∀ (c : Int), (bytesOf s)[i] = c → escB c = [92, c] → dossierref07_Quote.l0 (k + d + 1) s ((out ++ ⟨#[92]⟩) ++ strOfNums [(bytesOf s)[i]]) (s.size : Int) ((i + 1 : Nat) : Int) = some (out ++ strOfNums (escB (bytesOf s)[i] ++ esc ((bytesOf s).drop (i + 1))) ++ ⟨#[34]⟩) := by
      intro c hc hE
      rw [ih (i + 1) k _ (by omega) (by rw [ByteArray.size_append, ByteArray.size_append, hsz, h92]; omega), hc, hE]
      congr 2
      apply b_inj
      rw [str_app]
      simp only [b_append, List.append_assoc]
      rfl
    by_cases h1 : (bytesOf s)[i] = 34
    · rw [if_pos h1, if_pos (by omega), if_pos (by omega), if_pos (by omega), if_pos (by rw [ByteArray.size_append, hsz, h92]; omega)]
      exact hq 34 h1 rfl
    · rw [if_neg h1]
      by_cases h2 : (bytesOf s)[i] = 92
      · rw [if_pos h2, if_pos (by omega), if_pos (by omega), if_pos (by omega), if_pos (by rw [ByteArray.size_append, hsz, h92]; omega)]
        exact hq 92 h2 rfl
      · rw [if_neg h2, if_pos (by omega), if_pos (by omega), if_pos (by rw [hsz]; omega), ih (i + 1) k _ (by omega) (by rw [ByteArray.size_append, hsz]; omega)]
        have hE : escB (bytesOf s)[i] = [(bytesOf s)[i]] := by unfold escB; rw [if_neg h1, if_neg h2]
        rw [hE]
        congr 2
        apply b_inj
        rw [str_app]
        simp only [b_append, List.append_assoc]
theorem ref_quote_spec (s : ByteArray) (hs : s.size ≤ 140737488351232) (k : Nat) (hk : s.size + 1 ≤ k) : dossierref07_Quote.f k s = some (quoteV s) := by
  have hz := b_size s
  have := quote_at s (by omega) (bytesOf s).length 0 (k - (bytesOf s).length - 1) ⟨#[34]⟩ (Nat.zero_add _) (by decide)
  rw [show k - (bytesOf s).length - 1 + (bytesOf s).length + 1 = k from by omega, List.drop_zero] at this
  exact this
theorem print_same (k : Nat) (n i : Int) (y : Bool) (s : ByteArray) (hi : In64 i) (hs : s.size ≤ 140737488351232) (hk : s.size + 22 ≤ k) : ∃ r, value_Print.f n i y s = some r ∧ dossierref07_Print.f k n i y s = some r := by
  unfold value_Print.f dossierref07_Print.f
  by_cases h1 : n = 1
  · have := ref_text_spec (k - 22) i hi
    rw [show k - 22 + 22 = k from by omega] at this
    rw [if_pos h1, if_pos h1, if_pos (by unfold In64 at hi; omega), this]
    exact ⟨_, rfl, rfl⟩
  · rw [if_neg h1, if_neg h1]
    by_cases h2 : n = 2
    · rw [if_pos h2, if_pos h2]
      cases y
      · exact ⟨_, rfl, rfl⟩
      · exact ⟨_, rfl, rfl⟩
    · rw [if_neg h2, if_neg h2]
      by_cases h3 : n = 3
      · rw [if_pos h3, if_pos h3, if_pos hs, ref_quote_spec s hs k (by omega)]
        exact ⟨_, rfl, rfl⟩
      · rw [if_neg h3, if_neg h3]
        exact ⟨_, rfl, rfl⟩
end Go.Proofs.YtifgpigicgaadaaGreatDoor.Makes
end
section
namespace Go.Proofs.YtifgpigicgaadaaGreatDoor.Q
open Go.RowKit Go.Proofs.YtifgpigicgaadaaGreatDoorH Go.Proofs.YtifgpigicgaadaaGreatDoorW.PrintWords Go.Proofs.YtifgpigicgaadaaGreatDoorW.PrintLast Go.Proofs.YtifgpigicgaadaaGreatDoorW.PrintMore
attribute [local go_sem] max2_int min2_int max_two min_two max_three min_three max_four min_four
set_option linter.unusedVariables false
set_option linter.unusedSimpArgs false
section
attribute [local go_sem high] eqA23
/-! ### value_Same: function 14 -/
def value_Same.f (a0_0 : Int) (a0_1 : Int) (a0_2 : Bool) (a0_3 : ByteArray) (a1_0 : Int) (a1_1 : Int) (a1_2 : Bool) (a1_3 : ByteArray) : Option (Bool) := some (a0_0 == a1_0 && (a0_1 == a1_1 && (a0_2 == a1_2 && (a0_3.toList == a1_3.toList))))
set_option maxHeartbeats 8000000 in
set_option maxRecDepth 100000 in
theorem value_Same.calls (a0_0 : Int) (a0_1 : Int) (a0_2 : Bool) (a0_3 : ByteArray) (a1_0 : Int) (a1_1 : Int) (a1_2 : Bool) (a1_3 : ByteArray) (r : Bool) (w : World) (h : value_Same.f a0_0 a0_1 a0_2 a0_3 a1_0 a1_1 a1_2 a1_3 = some r) :
 Calls Tryz.prog 14 #[.agg #[.int .i64 a0_0,.int .i64 a0_1,.bool a0_2,.string a0_3],.agg #[.int .i64 a1_0,.int .i64 a1_1,.bool a1_2,.string a1_3]] w fun e w' => e = .returned (.bool r) ∧ Below w.heap.size w w' := by
 have hu23 := Tryz.underlying23
 have HB := Aside0.mk (Below.refl w.heap.size w)
 have H : (some (a0_0 == a1_0 && (a0_1 == a1_1 && (a0_2 == a1_2 && (a0_3.toList == a1_3.toList))))) = some r := h
 clear h
 obtain rfl := Option.some.inj H
 go_enter Tryz.func14,Tryz.ntmps14
 go_wp2_with (first | ((with_reducible refine gate_dst (N := 2) rfl ?_); refine box_event ?hg (N := 2) ?hd (cs := #[.int .i64 a0_0,.int .i64 a0_1,.bool a0_2,.string a0_3]) (t := 23) ?hr ?_; (case hd => rfl); (case hg => rfl); (case hr => first | (go_simp; done) | (go_simp; rfl)); intro gb171 hg w3 hbox hb; have n0_ := Aside0.mk (below_step (by repeat (first | (with_reducible first | exact HB.out | apply below_alloc | apply pw_below_drewN | apply below_drew1 | apply bytes_below1) | exact HB.out)) hb); have n1_ := Aside0.mk (hbox); have n2_ := Aside0.mk ((by rw [hg]; exact (below_size (by repeat (first | (with_reducible first | exact HB.out | apply below_alloc | apply pw_below_drewN | apply below_drew1 | apply bytes_below1) | exact HB.out))) : w.heap.size ≤ gb171)); have n3_ := Aside0.mk ((by rw [hg]; exact (below_size (by repeat (first | (with_reducible first | exact HB.out | apply below_alloc | apply pw_below_drewN | apply below_drew1 | apply bytes_below1) | exact HB.out))) : w.heap.size ≤ gb171)); clear HB; have HB := n0_; have BK171 := n1_; have GW171 := n2_; have GE171 := n3_; clear n0_ n1_ n2_ n3_; clear hb hbox hg) | ((with_reducible refine gate_dst (N := 3) rfl ?_); refine box_event ?hg (N := 3) ?hd (cs := #[.int .i64 a1_0,.int .i64 a1_1,.bool a1_2,.string a1_3]) (t := 23) ?hr ?_; (case hd => rfl); (case hg => rfl); (case hr => first | (go_simp; done) | (go_simp; rfl)); intro gb172 hg w4 hbox hb; have n0_ := Aside0.mk (blk_below (g := gb171) (o := .cells #[.int .i64 a0_0,.int .i64 a0_1,.bool a0_2,.string a0_3] 23 (0,0)) (by (with_reducible repeat (first | refine blk_bytes ?_ _ _ | refine blk_drewN ?_ _ | refine blk_drew ?_ | refine blk_alloc ?_ _)); exact BK171.out) hb); have n1_ := Aside0.mk (below_step (by repeat (first | (with_reducible first | exact HB.out | apply below_alloc | apply pw_below_drewN | apply below_drew1 | apply bytes_below1 | refine below_set ?_ GE171.out) | exact HB.out)) hb); have n2_ := Aside0.mk (hbox); have n3_ := Aside0.mk ((by rw [hg]; exact (below_size (by repeat (first | (with_reducible first | exact HB.out | apply below_alloc | apply pw_below_drewN | apply below_drew1 | apply bytes_below1 | refine below_set ?_ GE171.out) | exact HB.out))) : w.heap.size ≤ gb172)); have n4_ := Aside0.mk ((by rw [hg]; exact (below_size (by repeat (first | (with_reducible first | exact HB.out | apply below_alloc | apply pw_below_drewN | apply below_drew1 | apply bytes_below1 | refine below_set ?_ GE171.out) | exact HB.out))) : w.heap.size ≤ gb172)); have n5_ := Aside0.mk ((by rw [hg]; exact Nat.ne_of_lt (blk_lt (g := gb171) (o := .cells #[.int .i64 a0_0,.int .i64 a0_1,.bool a0_2,.string a0_3] 23 (0,0)) (by (with_reducible repeat (first | refine blk_bytes ?_ _ _ | refine blk_drewN ?_ _ | refine blk_drew ?_ | refine blk_alloc ?_ _)); exact BK171.out)) : gb171 ≠ gb172)); have n6_ := Aside0.mk ((by rw [hg]; exact Nat.ne_of_gt (blk_lt (g := gb171) (o := .cells #[.int .i64 a0_0,.int .i64 a0_1,.bool a0_2,.string a0_3] 23 (0,0)) (by (with_reducible repeat (first | refine blk_bytes ?_ _ _ | refine blk_drewN ?_ _ | refine blk_drew ?_ | refine blk_alloc ?_ _)); exact BK171.out)) : gb172 ≠ gb171)); clear BK171; clear HB; have BK171 := n0_; have HB := n1_; have BK172 := n2_; have GW172 := n3_; have GE172 := n4_; have NB171_172 := n5_; have NB172_171 := n6_; clear n0_ n1_ n2_ n3_ n4_ n5_ n6_; clear hb hbox hg; have hnb5 := NB171_172.out; have hnc5 := NB172_171.out; have hcz6_0 : w4.cell? ⟨gb171,0,none⟩ = some (.int .i64 a0_0) := (blk_cell BK171.out 0).trans rfl; have hcz6_1 : w4.cell? ⟨gb171,1,none⟩ = some (.int .i64 a0_1) := (blk_cell BK171.out 1).trans rfl; have hcz6_2 : w4.cell? ⟨gb171,2,none⟩ = some (.bool a0_2) := (blk_cell BK171.out 2).trans rfl; have hcz6_3 : w4.cell? ⟨gb171,3,none⟩ = some (.string a0_3) := (blk_cell BK171.out 3).trans rfl; have hfz6_0 := blk_frozen BK171.out 0; have hfz6_1 := blk_frozen BK171.out 1; have hfz6_2 := blk_frozen BK171.out 2; have hfz6_3 := blk_frozen BK171.out 3; have hcz7_0 : w4.cell? ⟨gb172,0,none⟩ = some (.int .i64 a1_0) := (blk_cell BK172.out 0).trans rfl; have hcz7_1 : w4.cell? ⟨gb172,1,none⟩ = some (.int .i64 a1_1) := (blk_cell BK172.out 1).trans rfl; have hcz7_2 : w4.cell? ⟨gb172,2,none⟩ = some (.bool a1_2) := (blk_cell BK172.out 2).trans rfl; have hcz7_3 : w4.cell? ⟨gb172,3,none⟩ = some (.string a1_3) := (blk_cell BK172.out 3).trans rfl; have hfz7_0 := blk_frozen BK172.out 0; have hfz7_1 := blk_frozen BK172.out 1; have hfz7_2 := blk_frozen BK172.out 2; have hfz7_3 := blk_frozen BK172.out 3))
 go_ret
 exact ⟨by first | rfl | (simp [errW_none,errW_some] <;> rfl) | (simp [*,errW_none,errW_some] <;> rfl),by repeat (first | (with_reducible first | exact HB.out | apply below_alloc | apply pw_below_drewN | apply below_drew1 | apply bytes_below1 | refine below_set ?_ GE171.out | refine below_set ?_ GE172.out) | exact HB.out)⟩
end
section
/-! ### bytes_Equal: function 15 -/
def bytes_Equal.f (l0 : List Int) (l1 : List Int) : Option (Bool) := some ((strOfNums l0).toList == (strOfNums l1).toList)
set_option maxHeartbeats 8000000 in
set_option maxRecDepth 100000 in
theorem bytes_Equal.calls (A0 : Option Addr) (c0 : Nat) (l0 : List Int) (A1 : Option Addr) (c1 : Nat) (l1 : List Int) (r : Bool) (w : World) (hr0 : Kd.C (Kd.int .u8) w A0 l0.length l0) (hc0 : l0.length ≤ c0) (hr1 : Kd.C (Kd.int .u8) w A1 l1.length l1) (hc1 : l1.length ≤ c1) (h : bytes_Equal.f l0 l1 = some r) :
 Calls Tryz.prog 15 #[.slice A0 l0.length c0,.slice A1 l1.length c1] w fun e w' => e = .returned (.bool r) ∧ Drawn0 w w' := by
 have HR0 := Aside0.mk hr0
 have HC0 := Aside0.mk hc0
 clear hr0 hc0
 have HR1 := Aside0.mk hr1
 have HC1 := Aside0.mk hc1
 clear hr1 hc1
 have H : (some ((strOfNums l0).toList == (strOfNums l1).toList)) = some r := h
 clear h
 obtain rfl := Option.some.inj H
 have hcv3 := Kd.C_string (P := Tryz.prog) (A := A0) (c := c0) Tryz.underlying24 Tryz.underlying5 Tryz.underlying9 HR0.out
 have hcv4 := Kd.C_string (P := Tryz.prog) (A := A1) (c := c1) Tryz.underlying24 Tryz.underlying5 Tryz.underlying9 HR1.out
 go_enter Tryz.func15,Tryz.ntmps15
 go_wp2
 go_ret
 exact ⟨by first | rfl | (simp; done) | (simp [*]; done),by repeat (first | exact Drawn0.refl _ | apply Drawn0.step)⟩
end
section
/-! ### value_Text: function 10 -/
def value_Text.f (a0 : ByteArray) : Option (Int × Int × Bool × ByteArray) := some (3,0,false,a0)
set_option maxHeartbeats 8000000 in
set_option maxRecDepth 100000 in
theorem value_Text.calls (a0 : ByteArray) (r1 : Int) (r2 : Int) (r3 : Bool) (r4 : ByteArray) (w : World) (h : value_Text.f a0 = some (r1,r2,r3,r4)) :
 Calls Tryz.prog 10 #[.string a0] w fun e w' => e = .returned (.agg #[.int .i64 r1,.int .i64 r2,.bool r3,.string r4]) ∧ Below w.heap.size w w' := by
 have hu23 := Tryz.underlying23
 have HB := Aside0.mk (Below.refl w.heap.size w)
 have H : (some (3,0,false,a0)) = some (r1,r2,r3,r4) := h
 clear h
 simp only [Option.some.injEq,Prod.mk.injEq] at H
 obtain ⟨rfl,rfl,rfl,rfl⟩ := H
 go_enter Tryz.func10,Tryz.ntmps10
 go_wp2_with (first | ((with_reducible refine gate_dst (N := 2) rfl ?_); refine box_event ?hg (N := 2) ?hd (cs := #[.int .i64 0,.int .i64 0,.bool false,.string (⟨#[]⟩ : ByteArray)]) (t := 23) ?hr ?_; (case hd => rfl); (case hg => rfl); (case hr => first | (go_simp; done) | (go_simp; rfl)); intro gb105 hg w2 hbox hb; have n0_ := Aside0.mk (below_step (by repeat (first | (with_reducible first | exact HB.out | apply below_alloc | apply pw_below_drewN | apply below_drew1 | apply bytes_below1) | exact HB.out)) hb); have n1_ := Aside0.mk (hbox); have n2_ := Aside0.mk ((by rw [hg]; exact (below_size (by repeat (first | (with_reducible first | exact HB.out | apply below_alloc | apply pw_below_drewN | apply below_drew1 | apply bytes_below1) | exact HB.out))) : w.heap.size ≤ gb105)); have n3_ := Aside0.mk ((by rw [hg]; exact (below_size (by repeat (first | (with_reducible first | exact HB.out | apply below_alloc | apply pw_below_drewN | apply below_drew1 | apply bytes_below1) | exact HB.out))) : w.heap.size ≤ gb105)); clear HB; have HB := n0_; have BK105 := n1_; have GW105 := n2_; have GE105 := n3_; clear n0_ n1_ n2_ n3_; clear hb hbox hg; have hcz3_0 : w2.cell? ⟨gb105,0,none⟩ = some (.int .i64 0) := (blk_cell BK105.out 0).trans rfl; have hcz3_1 : w2.cell? ⟨gb105,1,none⟩ = some (.int .i64 0) := (blk_cell BK105.out 1).trans rfl; have hcz3_2 : w2.cell? ⟨gb105,2,none⟩ = some (.bool false) := (blk_cell BK105.out 2).trans rfl; have hcz3_3 : w2.cell? ⟨gb105,3,none⟩ = some (.string (⟨#[]⟩ : ByteArray)) := (blk_cell BK105.out 3).trans rfl; have hfz3_0 := blk_frozen BK105.out 0; have hfz3_1 := blk_frozen BK105.out 1; have hfz3_2 := blk_frozen BK105.out 2; have hfz3_3 := blk_frozen BK105.out 3))
 refine bodyPost_ret (results_cell_row rfl _ _ gb105 23 #[.int .i64 3,.int .i64 0,.bool false,.string a0] (0,0) _ rfl (by (with_reducible repeat (first | refine blk_bytes ?_ _ _ | refine blk_drewN ?_ _ | refine blk_drew ?_ | refine blk_alloc ?_ _)); refine blk_put (cs := #[.int .i64 3,.int .i64 0,.bool false,.string (⟨#[]⟩ : ByteArray)]) ?_ 3 _ rfl; (with_reducible repeat (first | refine blk_bytes ?_ _ _ | refine blk_drewN ?_ _ | refine blk_drew ?_ | refine blk_alloc ?_ _)); refine blk_put (cs := #[.int .i64 3,.int .i64 0,.bool false,.string (⟨#[]⟩ : ByteArray)]) ?_ 2 _ rfl; (with_reducible repeat (first | refine blk_bytes ?_ _ _ | refine blk_drewN ?_ _ | refine blk_drew ?_ | refine blk_alloc ?_ _)); refine blk_put (cs := #[.int .i64 3,.int .i64 0,.bool false,.string (⟨#[]⟩ : ByteArray)]) ?_ 1 _ rfl; (with_reducible repeat (first | refine blk_bytes ?_ _ _ | refine blk_drewN ?_ _ | refine blk_drew ?_ | refine blk_alloc ?_ _)); refine blk_put (cs := #[.int .i64 0,.int .i64 0,.bool false,.string (⟨#[]⟩ : ByteArray)]) ?_ 0 _ rfl; (with_reducible repeat (first | refine blk_bytes ?_ _ _ | refine blk_drewN ?_ _ | refine blk_drew ?_ | refine blk_alloc ?_ _)); exact BK105.out) Tryz.underlying23 rfl (by kernel_rfl)) rfl ?_
 exact ⟨by first | rfl | (simp [errW_none,errW_some] <;> rfl) | (simp [*,errW_none,errW_some] <;> rfl),by repeat (first | (with_reducible first | exact HB.out | apply below_alloc | apply pw_below_drewN | apply below_drew1 | apply bytes_below1 | refine below_set ?_ GE105.out) | exact HB.out)⟩
end
end Go.Proofs.YtifgpigicgaadaaGreatDoor.Q
end
