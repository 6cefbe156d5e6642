import Derived.Test.YtifgpigicgaadaaGreatDoorBValueMakes2
import Derived.Test.YtifgpigicgaadaaGreatDoorBValueMakes4
import Derived.Test.YtifgpigicgaadaaGreatDoorBValueMakes6
namespace Go.Proofs.YtifgpigicgaadaaGreatDoor.Q
open Go.RowKit Go.Proofs.YtifgpigicgaadaaGreatDoorH Go.Proofs.YtifgpigicgaadaaGreatDoorW.PrintWords Go.Proofs.YtifgpigicgaadaaGreatDoorW.PrintLast Go.Proofs.YtifgpigicgaadaaGreatDoorW.PrintMore
attribute [local go_sem] max2_int min2_int max_two min_two max_three min_three max_four min_four
set_option linter.unusedVariables false
set_option linter.unusedSimpArgs false
attribute [local go_sem high] eqA23
/-! ### value_judge: function 53 -/
def value_judge.f (k : Nat) (a0 : Int) (a1_0 : Int) (a1_1 : Int) (a1_2 : Bool) (a1_3 : ByteArray) (a2_0 : Int) (a2_1 : Int) (a2_2 : Bool) (a2_3 : ByteArray) : Option (Bool) := (cmp_Compare_int.f a1_1 a2_1).bind fun t271 => ((strings_Compare.f a1_3 a2_3).bind fun t272 => ((cmp_Or_int.f k (([t271,t272] : List Int))).bind fun t276 => (if a0 = 5 then (some (!a1_2)) else (if a0 = 18 then (if a1_2 = true then (some a2_2) else (some false)) else (if a0 = 19 then (if a1_2 = true then (some true) else (some a2_2)) else (if a0 = 16 then (some (a1_0 == a2_0 && (a1_1 == a2_1 && (a1_2 == a2_2 && (a1_3.toList == a2_3.toList))))) else (if a0 = 17 then (some (!(a1_0 == a2_0) || (!(a1_1 == a2_1) || (!(a1_2 == a2_2) || (!(a1_3.toList == a2_3.toList)))))) else (if a0 = 12 then (some (decide (t276 < 0))) else (if a0 = 13 then (some (decide (t276 ≤ 0))) else (if a0 = 14 then (some (decide (t276 > 0))) else (some (decide (t276 ≥ 0)))))))))))))
def value_judge.T1 : Bool × List (List Nat × List Nat) := (true,[([],[]),([0],[0]),([],[]),([2],[2]),([1,3],[1,3]),([],[]),([5],[5]),([],[]),([7],[7]),([6,8,4],[6,8]),([4,9],[4,9]),([10,9],[10]),([11,11,0,1,2,3,4,5,6,7,8,9,10,11],[11])])
def value_judge.B1 : List Nat := [0,1,0,4,15,0,32,0,128,511,1023,2047,4095]
theorem value_judge.tab1 : rtab .any (opsOf Tryz.f53 1) = value_judge.T1 := by kernel_rfl
theorem value_judge.bits1 : waitsOk value_judge.T1.2 value_judge.B1 = true := by kernel_rfl
set_option maxHeartbeats 8000000 in
set_option maxRecDepth 100000 in
theorem value_judge.calls (k : Nat) (a0 : Int) (a1_0 : Int) (a1_1 : Int) (a1_2 : Bool) (a1_3 : ByteArray) (a2_0 : Int) (a2_1 : Int) (a2_2 : Bool) (a2_3 : ByteArray) (r : Bool) (w : World) (h : value_judge.f k a0 a1_0 a1_1 a1_2 a1_3 a2_0 a2_1 a2_2 a2_3 = some r) :
 Calls Tryz.prog 53 #[.int .i64 a0,.agg #[.int .i64 a1_0,.int .i64 a1_1,.bool a1_2,.string a1_3],.agg #[.int .i64 a2_0,.int .i64 a2_1,.bool a2_2,.string a2_3]] w fun e w' => e = .returned (.bool r) ∧ Below w.heap.size w w' := by
 have hu23 := Tryz.underlying23
 have HB := Aside0.mk (Below.refl w.heap.size w)
 have H : ((cmp_Compare_int.f a1_1 a2_1).bind fun t271 => ((strings_Compare.f a1_3 a2_3).bind fun t272 => ((cmp_Or_int.f k (([t271,t272] : List Int))).bind fun t276 => (if a0 = 5 then (some (!a1_2)) else (if a0 = 18 then (if a1_2 = true then (some a2_2) else (some false)) else (if a0 = 19 then (if a1_2 = true then (some true) else (some a2_2)) else (if a0 = 16 then (some (a1_0 == a2_0 && (a1_1 == a2_1 && (a1_2 == a2_2 && (a1_3.toList == a2_3.toList))))) else (if a0 = 17 then (some (!(a1_0 == a2_0) || (!(a1_1 == a2_1) || (!(a1_2 == a2_2) || (!(a1_3.toList == a2_3.toList)))))) else (if a0 = 12 then (some (decide (t276 < 0))) else (if a0 = 13 then (some (decide (t276 ≤ 0))) else (if a0 = 14 then (some (decide (t276 > 0))) else (some (decide (t276 ≥ 0)))))))))))))) = some r := h
 clear h
 replace H := Option.bind_eq_some_iff.mp H
 obtain ⟨t271,A40,H⟩ := H
 replace H : ((strings_Compare.f a1_3 a2_3).bind fun t272 => ((cmp_Or_int.f k (([t271,t272] : List Int))).bind fun t276 => (if a0 = 5 then (some (!a1_2)) else (if a0 = 18 then (if a1_2 = true then (some a2_2) else (some false)) else (if a0 = 19 then (if a1_2 = true then (some true) else (some a2_2)) else (if a0 = 16 then (some (a1_0 == a2_0 && (a1_1 == a2_1 && (a1_2 == a2_2 && (a1_3.toList == a2_3.toList))))) else (if a0 = 17 then (some (!(a1_0 == a2_0) || (!(a1_1 == a2_1) || (!(a1_2 == a2_2) || (!(a1_3.toList == a2_3.toList)))))) else (if a0 = 12 then (some (decide (t276 < 0))) else (if a0 = 13 then (some (decide (t276 ≤ 0))) else (if a0 = 14 then (some (decide (t276 > 0))) else (some (decide (t276 ≥ 0))))))))))))) = some r := H
 have A4 := Aside0.mk A40
 clear A40
 replace H := Option.bind_eq_some_iff.mp H
 obtain ⟨t272,A50,H⟩ := H
 replace H : ((cmp_Or_int.f k (([t271,t272] : List Int))).bind fun t276 => (if a0 = 5 then (some (!a1_2)) else (if a0 = 18 then (if a1_2 = true then (some a2_2) else (some false)) else (if a0 = 19 then (if a1_2 = true then (some true) else (some a2_2)) else (if a0 = 16 then (some (a1_0 == a2_0 && (a1_1 == a2_1 && (a1_2 == a2_2 && (a1_3.toList == a2_3.toList))))) else (if a0 = 17 then (some (!(a1_0 == a2_0) || (!(a1_1 == a2_1) || (!(a1_2 == a2_2) || (!(a1_3.toList == a2_3.toList)))))) else (if a0 = 12 then (some (decide (t276 < 0))) else (if a0 = 13 then (some (decide (t276 ≤ 0))) else (if a0 = 14 then (some (decide (t276 > 0))) else (some (decide (t276 ≥ 0)))))))))))) = some r := H
 have A5 := Aside0.mk A50
 clear A50
 obtain ⟨y273,hy273⟩ : ∃ y_ : List Int,y_ = (([t271,t272] : List Int)) := ⟨_,rfl⟩
 replace H : ((cmp_Or_int.f k y273).bind fun t276 => (if a0 = 5 then (some (!a1_2)) else (if a0 = 18 then (if a1_2 = true then (some a2_2) else (some false)) else (if a0 = 19 then (if a1_2 = true then (some true) else (some a2_2)) else (if a0 = 16 then (some (a1_0 == a2_0 && (a1_1 == a2_1 && (a1_2 == a2_2 && (a1_3.toList == a2_3.toList))))) else (if a0 = 17 then (some (!(a1_0 == a2_0) || (!(a1_1 == a2_1) || (!(a1_2 == a2_2) || (!(a1_3.toList == a2_3.toList)))))) else (if a0 = 12 then (some (decide (t276 < 0))) else (if a0 = 13 then (some (decide (t276 ≤ 0))) else (if a0 = 14 then (some (decide (t276 > 0))) else (some (decide (t276 ≥ 0)))))))))))) = some r := by first | (rw [hy273]; with_reducible exact H) | (have H2_ := (Option.bind_some _ _).symm.trans H; rw [hy273]; with_reducible exact H2_) | (have H2_ := (Option.bind_some _ _).symm.trans H; with_reducible exact H2_) | with_reducible exact H | (rw [hy273]; exact H) | exact H
 have Ny273 := Aside0.mk hy273
 clear hy273
 replace H := Option.bind_eq_some_iff.mp H
 obtain ⟨t276,A60,H⟩ := H
 replace H : (if a0 = 5 then (some (!a1_2)) else (if a0 = 18 then (if a1_2 = true then (some a2_2) else (some false)) else (if a0 = 19 then (if a1_2 = true then (some true) else (some a2_2)) else (if a0 = 16 then (some (a1_0 == a2_0 && (a1_1 == a2_1 && (a1_2 == a2_2 && (a1_3.toList == a2_3.toList))))) else (if a0 = 17 then (some (!(a1_0 == a2_0) || (!(a1_1 == a2_1) || (!(a1_2 == a2_2) || (!(a1_3.toList == a2_3.toList)))))) else (if a0 = 12 then (some (decide (t276 < 0))) else (if a0 = 13 then (some (decide (t276 ≤ 0))) else (if a0 = 14 then (some (decide (t276 > 0))) else (some (decide (t276 ≥ 0))))))))))) = some r := H
 have A6 := Aside0.mk A60
 clear A60
 by_cases c7 : a0 = 5
 · rw [if_pos c7] at H
   have c7b0 : (a0 == 5) = true := beq_iff_eq.mpr c7
   have c7b1 : (a0 != 5) = false := bne_eq_false_iff_eq.mpr c7
   clear c7
   obtain rfl := Option.some.inj H
   go_enter Tryz.func53,Tryz.ntmps53
   try go_wp2_with (first | ((with_reducible refine gate_dst (N := 4) rfl ?_); refine box_event ?hg (N := 4) ?hd (cs := #[.int .i64 a1_0,.int .i64 a1_1,.bool a1_2,.string a1_3]) (t := 23) ?hr ?_; (case hd => rfl); (case hg => rfl); (case hr => first | (go_simp; done) | (go_simp; rfl)); intro gb269 hg w8 hbox hb; have n0_ := Aside0.mk (below_step (by repeat (first | (with_reducible first | exact HB.out | apply below_alloc | apply pw_below_drewN | apply below_drew1 | apply bytes_below1) | exact HB.out)) hb); have n1_ := Aside0.mk (hbox); have n2_ := Aside0.mk ((by rw [hg]; exact (below_size (by repeat (first | (with_reducible first | exact HB.out | apply below_alloc | apply pw_below_drewN | apply below_drew1 | apply bytes_below1) | exact HB.out))) : w.heap.size ≤ gb269)); have n3_ := Aside0.mk ((by rw [hg]; exact (below_size (by repeat (first | (with_reducible first | exact HB.out | apply below_alloc | apply pw_below_drewN | apply below_drew1 | apply bytes_below1) | exact HB.out))) : w.heap.size ≤ gb269)); clear HB; have HB := n0_; have BK269 := n1_; have GW269 := n2_; have GE269 := n3_; clear n0_ n1_ n2_ n3_; clear hb hbox hg) | ((with_reducible refine gate_dst (N := 5) rfl ?_); refine box_event ?hg (N := 5) ?hd (cs := #[.int .i64 a2_0,.int .i64 a2_1,.bool a2_2,.string a2_3]) (t := 23) ?hr ?_; (case hd => rfl); (case hg => rfl); (case hr => first | (go_simp; done) | (go_simp; rfl)); intro gb270 hg w9 hbox hb; have n0_ := Aside0.mk (blk_below (g := gb269) (o := .cells #[.int .i64 a1_0,.int .i64 a1_1,.bool a1_2,.string a1_3] 23 (0,0)) (by (with_reducible repeat (first | refine blk_bytes ?_ _ _ | refine blk_drewN ?_ _ | refine blk_drew ?_ | refine blk_alloc ?_ _)); exact BK269.out) hb); have n1_ := Aside0.mk (below_step (by repeat (first | (with_reducible first | exact HB.out | apply below_alloc | apply pw_below_drewN | apply below_drew1 | apply bytes_below1 | refine below_set ?_ GE269.out) | exact HB.out)) hb); have n2_ := Aside0.mk (hbox); have n3_ := Aside0.mk ((by rw [hg]; exact (below_size (by repeat (first | (with_reducible first | exact HB.out | apply below_alloc | apply pw_below_drewN | apply below_drew1 | apply bytes_below1 | refine below_set ?_ GE269.out) | exact HB.out))) : w.heap.size ≤ gb270)); have n4_ := Aside0.mk ((by rw [hg]; exact (below_size (by repeat (first | (with_reducible first | exact HB.out | apply below_alloc | apply pw_below_drewN | apply below_drew1 | apply bytes_below1 | refine below_set ?_ GE269.out) | exact HB.out))) : w.heap.size ≤ gb270)); have n5_ := Aside0.mk ((by rw [hg]; exact Nat.ne_of_lt (blk_lt (g := gb269) (o := .cells #[.int .i64 a1_0,.int .i64 a1_1,.bool a1_2,.string a1_3] 23 (0,0)) (by (with_reducible repeat (first | refine blk_bytes ?_ _ _ | refine blk_drewN ?_ _ | refine blk_drew ?_ | refine blk_alloc ?_ _)); exact BK269.out)) : gb269 ≠ gb270)); have n6_ := Aside0.mk ((by rw [hg]; exact Nat.ne_of_gt (blk_lt (g := gb269) (o := .cells #[.int .i64 a1_0,.int .i64 a1_1,.bool a1_2,.string a1_3] 23 (0,0)) (by (with_reducible repeat (first | refine blk_bytes ?_ _ _ | refine blk_drewN ?_ _ | refine blk_drew ?_ | refine blk_alloc ?_ _)); exact BK269.out)) : gb270 ≠ gb269)); clear BK269; clear HB; have BK269 := n0_; have HB := n1_; have BK270 := n2_; have GW270 := n3_; have GE270 := n4_; have NB269_270 := n5_; have NB270_269 := n6_; clear n0_ n1_ n2_ n3_ n4_ n5_ n6_; clear hb hbox hg))
   have n0_ := Aside0.mk (blk_drew BK269.out)
   have n1_ := Aside0.mk (blk_drew BK270.out)
   have n2_ := Aside0.mk (below_drew1 HB.out)
   clear BK269
   clear BK270
   clear HB
   have BK269 := n0_
   have BK270 := n1_
   have HB := n2_
   clear n0_ n1_ n2_
   refine start_ (n := 13) (S := fun w' => w'.cell? ⟨gb269,0,none⟩ = some (.int .i64 a1_0) ∧ w'.cell? ⟨gb269,1,none⟩ = some (.int .i64 a1_1) ∧ w'.cell? ⟨gb269,2,none⟩ = some (.bool a1_2) ∧ w'.cell? ⟨gb269,3,none⟩ = some (.string a1_3) ∧ w'.cell? ⟨gb270,0,none⟩ = some (.int .i64 a2_0) ∧ w'.cell? ⟨gb270,1,none⟩ = some (.int .i64 a2_1) ∧ w'.cell? ⟨gb270,2,none⟩ = some (.bool a2_2) ∧ w'.cell? ⟨gb270,3,none⟩ = some (.string a2_3)) (ds := []) #[false,false,false,false,false,false,false,false,false,false,false,false,false] (by kernel_rfl) rfl rfl ⟨(blk_cell BK269.out 0).trans rfl,(blk_cell BK269.out 1).trans rfl,(blk_cell BK269.out 2).trans rfl,(blk_cell BK269.out 3).trans rfl,(blk_cell BK270.out 0).trans rfl,(blk_cell BK270.out 1).trans rfl,(blk_cell BK270.out 2).trans rfl,(blk_cell BK270.out 3).trans rfl⟩ (fun hHeld => ?_); refine with_tabW value_judge.tab1 value_judge.bits1 (fun HT_ HW_ => ?_)
   generalize w9.drew = w10 at BK269 BK270 HB hHeld ⊢
   refine pure_ (i := 0) (N := some 8) (v := ?_) (a' := ?_) #[true,false,false,false,false,false,false,false,false,false,false,false,false] rfl rfl (any_of HT_.out (by kernel_rfl)) (fun _ _ _ h => h) (Or.inl ⟨by rfl,?_⟩) ?_ ?_
   rotate_left
   · intro w'
     go_simp
     with_reducible rfl
   rotate_left
   · simp only [Act.put,List.setIfInBounds_toArray,List.set_cons_zero,List.set_cons_succ,i64_w,i32_w]
     rfl
   refine pure_ (i := 2) (N := some 10) (v := ?_) (a' := ?_) #[true,false,true,false,false,false,false,false,false,false,false,false,false] rfl rfl (any_of HT_.out (by kernel_rfl)) (fun _ _ _ h => h) (Or.inl ⟨by rfl,?_⟩) ?_ ?_
   rotate_left
   · intro w'
     go_simp
     with_reducible rfl
   rotate_left
   · simp only [Act.put,List.setIfInBounds_toArray,List.set_cons_zero,List.set_cons_succ,i64_w,i32_w]
     rfl
   refine pure_ (i := 5) (N := some 13) (v := ?_) (a' := ?_) #[true,false,true,false,false,true,false,false,false,false,false,false,false] rfl rfl (any_of HT_.out (by kernel_rfl)) (fun _ _ _ h => h) (Or.inl ⟨by rfl,?_⟩) ?_ ?_
   rotate_left
   · intro w'
     go_simp
     with_reducible rfl
   rotate_left
   · simp only [Act.put,List.setIfInBounds_toArray,List.set_cons_zero,List.set_cons_succ,i64_w,i32_w]
     rfl
   refine pure_ (i := 7) (N := some 15) (v := ?_) (a' := ?_) #[true,false,true,false,false,true,false,true,false,false,false,false,false] rfl rfl (any_of HT_.out (by kernel_rfl)) (fun _ _ _ h => h) (Or.inl ⟨by rfl,?_⟩) ?_ ?_
   rotate_left
   · intro w'
     go_simp
     with_reducible rfl
   rotate_left
   · simp only [Act.put,List.setIfInBounds_toArray,List.set_cons_zero,List.set_cons_succ,i64_w,i32_w]
     rfl
   refine take_ (i := 1) (N := some 9) (v := ?_) (a' := ?_) #[true,true,true,false,false,true,false,true,false,false,false,false,false] rfl rfl (take_ofW HT_.out HW_.out (by kernel_rfl)) (fun _ _ _ h => h) (Or.inl ⟨by rfl,?_⟩) hHeld ?_ ?_
   rotate_left
   · rintro w' ⟨s0,s1,s2,s3,s4,s5,s6,s7⟩
     go_simp
     with_reducible rfl
   rotate_left
   · simp only [Act.put,List.setIfInBounds_toArray,List.set_cons_zero,List.set_cons_succ,i64_w,i32_w]
     rfl
   refine take_ (i := 3) (N := some 11) (v := ?_) (a' := ?_) #[true,true,true,true,false,true,false,true,false,false,false,false,false] rfl rfl (take_ofW HT_.out HW_.out (by kernel_rfl)) (fun _ _ _ h => h) (Or.inl ⟨by rfl,?_⟩) hHeld ?_ ?_
   rotate_left
   · rintro w' ⟨s0,s1,s2,s3,s4,s5,s6,s7⟩
     go_simp
     with_reducible rfl
   rotate_left
   · simp only [Act.put,List.setIfInBounds_toArray,List.set_cons_zero,List.set_cons_succ,i64_w,i32_w]
     rfl
   refine take_ (i := 6) (N := some 14) (v := ?_) (a' := ?_) #[true,true,true,true,false,true,true,true,false,false,false,false,false] rfl rfl (take_ofW HT_.out HW_.out (by kernel_rfl)) (fun _ _ _ h => h) (Or.inl ⟨by rfl,?_⟩) hHeld ?_ ?_
   rotate_left
   · rintro w' ⟨s0,s1,s2,s3,s4,s5,s6,s7⟩
     go_simp
     with_reducible rfl
   rotate_left
   · simp only [Act.put,List.setIfInBounds_toArray,List.set_cons_zero,List.set_cons_succ,i64_w,i32_w]
     rfl
   refine take_ (i := 8) (N := some 16) (v := ?_) (a' := ?_) #[true,true,true,true,false,true,true,true,true,false,false,false,false] rfl rfl (take_ofW HT_.out HW_.out (by kernel_rfl)) (fun _ _ _ h => h) (Or.inl ⟨by rfl,?_⟩) hHeld ?_ ?_
   rotate_left
   · rintro w' ⟨s0,s1,s2,s3,s4,s5,s6,s7⟩
     go_simp
     with_reducible rfl
   rotate_left
   · simp only [Act.put,List.setIfInBounds_toArray,List.set_cons_zero,List.set_cons_succ,i64_w,i32_w]
     rfl
   refine one_ (i := 4) (N := some 12) #[true,true,true,true,true,true,true,true,true,false,false,false,false] rfl rfl (one_of HT_.out (by kernel_rfl)) (by decide) (fun K hK => ?_)
   refine goes_ Tryz.func81 (by kernel_rfl) rfl #[.int .i64 a1_1,.int .i64 a2_1] (by rfl) rfl rfl (by (try simp only [List.map_toArray,List.map_cons,List.map_nil]); first | done | rfl | (simp only [List.length_drop,List.length_take]; rfl)) ?_
   with_reducible refine (cmp_Compare_int.calls a1_1 a2_1 t271 _ A4.out).mono ?_
   rintro e w' ⟨rfl,⟨nd,rfl⟩⟩
   refine ⟨_,rfl,?_⟩
   refine hK.out _ _ ⟨(blk_cell BK269.out 0).trans rfl,(blk_cell BK269.out 1).trans rfl,(blk_cell BK269.out 2).trans rfl,(blk_cell BK269.out 3).trans rfl,(blk_cell BK270.out 0).trans rfl,(blk_cell BK270.out 1).trans rfl,(blk_cell BK270.out 2).trans rfl,(blk_cell BK270.out 3).trans rfl⟩ (fun hHeld => ?_)
   clear hK K
   refine norm_ (a' := ?_) ?_ ?_
   rotate_left
   · show Act.put _ (some 12) _ = _
     simp only [Act.put,List.setIfInBounds_toArray,List.set_cons_zero,List.set_cons_succ,i64_w,i32_w]
     rfl
   refine one_ (i := 9) (N := some 17) #[true,true,true,true,true,true,true,true,true,true,false,false,false] rfl rfl (one_of HT_.out (by kernel_rfl)) (by decide) (fun K hK => ?_)
   refine goes_ Tryz.func82 (by kernel_rfl) rfl #[.string a1_3,.string a2_3] (by rfl) rfl rfl (by (try simp only [List.map_toArray,List.map_cons,List.map_nil]); first | done | rfl | (simp only [List.length_drop,List.length_take]; rfl)) ?_
   with_reducible refine (strings_Compare.calls a1_3 a2_3 t272 _ A5.out).mono ?_
   rintro e w' ⟨rfl,⟨nd,rfl⟩⟩
   refine ⟨_,rfl,?_⟩
   refine hK.out _ _ ⟨(blk_cell BK269.out 0).trans rfl,(blk_cell BK269.out 1).trans rfl,(blk_cell BK269.out 2).trans rfl,(blk_cell BK269.out 3).trans rfl,(blk_cell BK270.out 0).trans rfl,(blk_cell BK270.out 1).trans rfl,(blk_cell BK270.out 2).trans rfl,(blk_cell BK270.out 3).trans rfl⟩ (fun hHeld => ?_)
   clear hK K
   refine norm_ (a' := ?_) ?_ ?_
   rotate_left
   · show Act.put _ (some 17) _ = _
     simp only [Act.put,List.setIfInBounds_toArray,List.set_cons_zero,List.set_cons_succ,i64_w,i32_w]
     rfl
   refine one_ (i := 10) (N := some 18) #[true,true,true,true,true,true,true,true,true,true,true,false,false] rfl rfl (one_of HT_.out (by kernel_rfl)) (by decide) (fun K hK => ?_)
   refine Kd.R_lit_step (Kd.int .i64) _ 3 ?hg (N := 18) ?hd (xs := ([t271,t272] : List Int)) (inner := [.int .i64 t271,.int .i64 t272]) (ok := fun _ => True) (okp := fun _ => True) ?hr ?hp (fun _ hk => hk) trivial (Below.refl _ _) (Nat.le_refl _) (by simp) ?_; (case hd => rfl); (case hg => rfl); (case hr => first | (go_simp; done) | (go_simp; rfl)); (case hp => exact (Reps.one (show Kd.M (Kd.int .i64) _ _ _ t271 [.int .i64 t271] from rfl) (Reps.one (show Kd.M (Kd.int .i64) _ _ _ t272 [.int .i64 t272] from rfl) (Reps.none _ _))))
   intro v274 w11 ho12 hb hg_ hnew_
   clear hg_ hnew_
   (first | rw [← Ny273.out] at ho12 | (simp only [Int.reduceToNat] at ho12; rw [← Ny273.out] at ho12))
   have n0_ := Aside0.mk (Kd.R_lower ho12 (below_size (by repeat (first | (with_reducible first | exact HB.out | apply below_alloc | apply pw_below_drewN | apply below_drew1 | apply bytes_below1 | refine below_set ?_ GE269.out | refine below_set ?_ GE270.out) | exact HB.out))))
   have n1_ := Aside0.mk (blk_below (g := gb269) (o := .cells #[.int .i64 a1_0,.int .i64 a1_1,.bool a1_2,.string a1_3] 23 (0,0)) (by (with_reducible repeat (first | refine blk_bytes ?_ _ _ | refine blk_drewN ?_ _ | refine blk_drew ?_ | refine blk_alloc ?_ _)); exact BK269.out) hb)
   have n2_ := Aside0.mk (blk_below (g := gb270) (o := .cells #[.int .i64 a2_0,.int .i64 a2_1,.bool a2_2,.string a2_3] 23 (0,0)) (by (with_reducible repeat (first | refine blk_bytes ?_ _ _ | refine blk_drewN ?_ _ | refine blk_drew ?_ | refine blk_alloc ?_ _)); exact BK270.out) hb)
   have n3_ := Aside0.mk (below_step (by repeat (first | (with_reducible first | exact HB.out | apply below_alloc | apply pw_below_drewN | apply below_drew1 | apply bytes_below1 | refine below_set ?_ GE269.out | refine below_set ?_ GE270.out) | exact HB.out)) hb)
   clear BK269
   clear BK270
   clear HB
   have HO275 := n0_
   have BK269 := n1_
   have BK270 := n2_
   have HB := n3_
   clear n0_ n1_ n2_ n3_
   clear hb ho12
   obtain ⟨Ao13,co13,eo13⟩ := Kd.R_slice HO275.out
   (first | subst eo13 | (injection eo13 with f1_ f2_ f3_; have f4_ := f1_.symm; have f5_ := f3_.symm; clear f1_ f2_ f3_; subst f4_; subst f5_))
   refine hK.out _ _ ⟨(blk_cell BK269.out 0).trans rfl,(blk_cell BK269.out 1).trans rfl,(blk_cell BK269.out 2).trans rfl,(blk_cell BK269.out 3).trans rfl,(blk_cell BK270.out 0).trans rfl,(blk_cell BK270.out 1).trans rfl,(blk_cell BK270.out 2).trans rfl,(blk_cell BK270.out 3).trans rfl⟩ (fun hHeld => ?_)
   clear hK K
   refine norm_ (a' := ?_) ?_ ?_
   rotate_left
   · show Act.put _ (some 18) _ = _
     simp only [Act.put,List.setIfInBounds_toArray,List.set_cons_zero,List.set_cons_succ,i64_w,i32_w]
     rfl
   refine one_ (i := 11) (N := some 19) #[true,true,true,true,true,true,true,true,true,true,true,true,false] rfl rfl (one_of HT_.out (by kernel_rfl)) (by decide) (fun K hK => ?_)
   refine goes_ Tryz.func80 (by kernel_rfl) rfl #[.slice Ao13 y273.length co13] (by rfl) rfl rfl (by (try simp only [List.map_toArray,List.map_cons,List.map_nil]); first | done | rfl | (simp only [List.length_drop,List.length_take]; rfl)) ?_
   with_reducible refine (cmp_Or_int.calls k _ _ y273 t276 _ ?side1 ?side2 A6.out).mono ?_
   (case side1 => repeat (first | exact (Kd.R_reads' HO275.out).2.2 | (with_reducible refine Kd.C_alloc ?_ _) | (with_reducible refine C_bytes ?_ _ _) | (with_reducible refine Kd.C_drewN ?_ _) | (with_reducible refine Kd.C_drew ?_)))
   (case side2 => exact (Kd.R_reads' HO275.out).2.1)
   rintro e w' ⟨rfl,⟨nd,rfl⟩⟩
   refine ⟨_,rfl,?_⟩
   refine hK.out _ _ ⟨(blk_cell BK269.out 0).trans rfl,(blk_cell BK269.out 1).trans rfl,(blk_cell BK269.out 2).trans rfl,(blk_cell BK269.out 3).trans rfl,(blk_cell BK270.out 0).trans rfl,(blk_cell BK270.out 1).trans rfl,(blk_cell BK270.out 2).trans rfl,(blk_cell BK270.out 3).trans rfl⟩ (fun hHeld => ?_)
   clear hK K
   refine norm_ (a' := ?_) ?_ ?_
   rotate_left
   · show Act.put _ (some 19) _ = _
     simp only [Act.put,List.setIfInBounds_toArray,List.set_cons_zero,List.set_cons_succ,i64_w,i32_w]
     rfl
   refine pure_ (i := 12) (N := some 7) (v := ?_) (a' := ?_) #[true,true,true,true,true,true,true,true,true,true,true,true,true] rfl rfl (any_of HT_.out (by kernel_rfl)) (fun _ _ _ h => h) (Or.inl ⟨by rfl,?_⟩) ?_ ?_
   rotate_left
   · intro w'
     go_simp
     with_reducible rfl
   rotate_left
   · simp only [Act.put,List.setIfInBounds_toArray,List.set_cons_zero,List.set_cons_succ,i64_w,i32_w]
     rfl
   refine done_ (done_of HT_.out (by kernel_rfl)) ?_
   have hnb14 := NB269_270.out
   have hnc14 := NB270_269.out
   have hcz15_0 : w11.cell? ⟨gb269,0,none⟩ = some (.int .i64 a1_0) := (blk_cell BK269.out 0).trans rfl
   have hcz15_1 : w11.cell? ⟨gb269,1,none⟩ = some (.int .i64 a1_1) := (blk_cell BK269.out 1).trans rfl
   have hcz15_2 : w11.cell? ⟨gb269,2,none⟩ = some (.bool a1_2) := (blk_cell BK269.out 2).trans rfl
   have hcz15_3 : w11.cell? ⟨gb269,3,none⟩ = some (.string a1_3) := (blk_cell BK269.out 3).trans rfl
   have hfz15_0 := blk_frozen BK269.out 0
   have hfz15_1 := blk_frozen BK269.out 1
   have hfz15_2 := blk_frozen BK269.out 2
   have hfz15_3 := blk_frozen BK269.out 3
   try go_wp2
   go_ret
   exact ⟨by first | rfl | (simp [errW_none,errW_some] <;> rfl) | (simp [*,errW_none,errW_some] <;> rfl),by repeat (first | (with_reducible first | exact HB.out | apply below_alloc | apply pw_below_drewN | apply below_drew1 | apply bytes_below1 | refine below_set ?_ GE269.out | refine below_set ?_ GE270.out) | exact HB.out)⟩
 · rw [if_neg c7] at H
   have c7b0 : (a0 == 5) = false := beq_eq_false_iff_ne.mpr c7
   have c7b1 : (a0 != 5) = true := bne_iff_ne.mpr c7
   by_cases c16 : a0 = 18
   · rw [if_pos c16] at H
     have c16b0 : (a0 == 18) = true := beq_iff_eq.mpr c16
     have c16b1 : (a0 != 18) = false := bne_eq_false_iff_eq.mpr c16
     clear c16
     by_cases c17 : a1_2 = true
     · subst c17
       have H1 : (some a2_2) = some r := by rw [if_pos rfl] at H; exact H
       clear H
       have H := H1
       clear H1
       obtain rfl := Option.some.inj H
       go_enter Tryz.func53,Tryz.ntmps53
       try go_wp2_with (first | ((with_reducible refine gate_dst (N := 4) rfl ?_); refine box_event ?hg (N := 4) ?hd (cs := #[.int .i64 a1_0,.int .i64 a1_1,.bool true,.string a1_3]) (t := 23) ?hr ?_; (case hd => rfl); (case hg => rfl); (case hr => first | (go_simp; done) | (go_simp; rfl)); intro gb269 hg w18 hbox hb; have n0_ := Aside0.mk (below_step (by repeat (first | (with_reducible first | exact HB.out | apply below_alloc | apply pw_below_drewN | apply below_drew1 | apply bytes_below1) | exact HB.out)) hb); have n1_ := Aside0.mk (hbox); have n2_ := Aside0.mk ((by rw [hg]; exact (below_size (by repeat (first | (with_reducible first | exact HB.out | apply below_alloc | apply pw_below_drewN | apply below_drew1 | apply bytes_below1) | exact HB.out))) : w.heap.size ≤ gb269)); have n3_ := Aside0.mk ((by rw [hg]; exact (below_size (by repeat (first | (with_reducible first | exact HB.out | apply below_alloc | apply pw_below_drewN | apply below_drew1 | apply bytes_below1) | exact HB.out))) : w.heap.size ≤ gb269)); clear HB; have HB := n0_; have BK269 := n1_; have GW269 := n2_; have GE269 := n3_; clear n0_ n1_ n2_ n3_; clear hb hbox hg) | ((with_reducible refine gate_dst (N := 5) rfl ?_); refine box_event ?hg (N := 5) ?hd (cs := #[.int .i64 a2_0,.int .i64 a2_1,.bool a2_2,.string a2_3]) (t := 23) ?hr ?_; (case hd => rfl); (case hg => rfl); (case hr => first | (go_simp; done) | (go_simp; rfl)); intro gb270 hg w19 hbox hb; have n0_ := Aside0.mk (blk_below (g := gb269) (o := .cells #[.int .i64 a1_0,.int .i64 a1_1,.bool true,.string a1_3] 23 (0,0)) (by (with_reducible repeat (first | refine blk_bytes ?_ _ _ | refine blk_drewN ?_ _ | refine blk_drew ?_ | refine blk_alloc ?_ _)); exact BK269.out) hb); have n1_ := Aside0.mk (below_step (by repeat (first | (with_reducible first | exact HB.out | apply below_alloc | apply pw_below_drewN | apply below_drew1 | apply bytes_below1 | refine below_set ?_ GE269.out) | exact HB.out)) hb); have n2_ := Aside0.mk (hbox); have n3_ := Aside0.mk ((by rw [hg]; exact (below_size (by repeat (first | (with_reducible first | exact HB.out | apply below_alloc | apply pw_below_drewN | apply below_drew1 | apply bytes_below1 | refine below_set ?_ GE269.out) | exact HB.out))) : w.heap.size ≤ gb270)); have n4_ := Aside0.mk ((by rw [hg]; exact (below_size (by repeat (first | (with_reducible first | exact HB.out | apply below_alloc | apply pw_below_drewN | apply below_drew1 | apply bytes_below1 | refine below_set ?_ GE269.out) | exact HB.out))) : w.heap.size ≤ gb270)); have n5_ := Aside0.mk ((by rw [hg]; exact Nat.ne_of_lt (blk_lt (g := gb269) (o := .cells #[.int .i64 a1_0,.int .i64 a1_1,.bool true,.string a1_3] 23 (0,0)) (by (with_reducible repeat (first | refine blk_bytes ?_ _ _ | refine blk_drewN ?_ _ | refine blk_drew ?_ | refine blk_alloc ?_ _)); exact BK269.out)) : gb269 ≠ gb270)); have n6_ := Aside0.mk ((by rw [hg]; exact Nat.ne_of_gt (blk_lt (g := gb269) (o := .cells #[.int .i64 a1_0,.int .i64 a1_1,.bool true,.string a1_3] 23 (0,0)) (by (with_reducible repeat (first | refine blk_bytes ?_ _ _ | refine blk_drewN ?_ _ | refine blk_drew ?_ | refine blk_alloc ?_ _)); exact BK269.out)) : gb270 ≠ gb269)); clear BK269; clear HB; have BK269 := n0_; have HB := n1_; have BK270 := n2_; have GW270 := n3_; have GE270 := n4_; have NB269_270 := n5_; have NB270_269 := n6_; clear n0_ n1_ n2_ n3_ n4_ n5_ n6_; clear hb hbox hg))
       have n0_ := Aside0.mk (blk_drew BK269.out)
       have n1_ := Aside0.mk (blk_drew BK270.out)
       have n2_ := Aside0.mk (below_drew1 HB.out)
       clear BK269
       clear BK270
       clear HB
       have BK269 := n0_
       have BK270 := n1_
       have HB := n2_
       clear n0_ n1_ n2_
       refine start_ (n := 13) (S := fun w' => w'.cell? ⟨gb269,0,none⟩ = some (.int .i64 a1_0) ∧ w'.cell? ⟨gb269,1,none⟩ = some (.int .i64 a1_1) ∧ w'.cell? ⟨gb269,2,none⟩ = some (.bool true) ∧ w'.cell? ⟨gb269,3,none⟩ = some (.string a1_3) ∧ w'.cell? ⟨gb270,0,none⟩ = some (.int .i64 a2_0) ∧ w'.cell? ⟨gb270,1,none⟩ = some (.int .i64 a2_1) ∧ w'.cell? ⟨gb270,2,none⟩ = some (.bool a2_2) ∧ w'.cell? ⟨gb270,3,none⟩ = some (.string a2_3)) (ds := []) #[false,false,false,false,false,false,false,false,false,false,false,false,false] (by kernel_rfl) rfl rfl ⟨(blk_cell BK269.out 0).trans rfl,(blk_cell BK269.out 1).trans rfl,(blk_cell BK269.out 2).trans rfl,(blk_cell BK269.out 3).trans rfl,(blk_cell BK270.out 0).trans rfl,(blk_cell BK270.out 1).trans rfl,(blk_cell BK270.out 2).trans rfl,(blk_cell BK270.out 3).trans rfl⟩ (fun hHeld => ?_); refine with_tabW value_judge.tab1 value_judge.bits1 (fun HT_ HW_ => ?_)
       generalize w19.drew = w20 at BK269 BK270 HB hHeld ⊢
       refine pure_ (i := 0) (N := some 8) (v := ?_) (a' := ?_) #[true,false,false,false,false,false,false,false,false,false,false,false,false] rfl rfl (any_of HT_.out (by kernel_rfl)) (fun _ _ _ h => h) (Or.inl ⟨by rfl,?_⟩) ?_ ?_
       rotate_left
       · intro w'
         go_simp
         with_reducible rfl
       rotate_left
       · simp only [Act.put,List.setIfInBounds_toArray,List.set_cons_zero,List.set_cons_succ,i64_w,i32_w]
         rfl
       refine pure_ (i := 2) (N := some 10) (v := ?_) (a' := ?_) #[true,false,true,false,false,false,false,false,false,false,false,false,false] rfl rfl (any_of HT_.out (by kernel_rfl)) (fun _ _ _ h => h) (Or.inl ⟨by rfl,?_⟩) ?_ ?_
       rotate_left
       · intro w'
         go_simp
         with_reducible rfl
       rotate_left
       · simp only [Act.put,List.setIfInBounds_toArray,List.set_cons_zero,List.set_cons_succ,i64_w,i32_w]
         rfl
       refine pure_ (i := 5) (N := some 13) (v := ?_) (a' := ?_) #[true,false,true,false,false,true,false,false,false,false,false,false,false] rfl rfl (any_of HT_.out (by kernel_rfl)) (fun _ _ _ h => h) (Or.inl ⟨by rfl,?_⟩) ?_ ?_
       rotate_left
       · intro w'
         go_simp
         with_reducible rfl
       rotate_left
       · simp only [Act.put,List.setIfInBounds_toArray,List.set_cons_zero,List.set_cons_succ,i64_w,i32_w]
         rfl
       refine pure_ (i := 7) (N := some 15) (v := ?_) (a' := ?_) #[true,false,true,false,false,true,false,true,false,false,false,false,false] rfl rfl (any_of HT_.out (by kernel_rfl)) (fun _ _ _ h => h) (Or.inl ⟨by rfl,?_⟩) ?_ ?_
       rotate_left
       · intro w'
         go_simp
         with_reducible rfl
       rotate_left
       · simp only [Act.put,List.setIfInBounds_toArray,List.set_cons_zero,List.set_cons_succ,i64_w,i32_w]
         rfl
       refine take_ (i := 1) (N := some 9) (v := ?_) (a' := ?_) #[true,true,true,false,false,true,false,true,false,false,false,false,false] rfl rfl (take_ofW HT_.out HW_.out (by kernel_rfl)) (fun _ _ _ h => h) (Or.inl ⟨by rfl,?_⟩) hHeld ?_ ?_
       rotate_left
       · rintro w' ⟨s0,s1,s2,s3,s4,s5,s6,s7⟩
         go_simp
         with_reducible rfl
       rotate_left
       · simp only [Act.put,List.setIfInBounds_toArray,List.set_cons_zero,List.set_cons_succ,i64_w,i32_w]
         rfl
       refine take_ (i := 3) (N := some 11) (v := ?_) (a' := ?_) #[true,true,true,true,false,true,false,true,false,false,false,false,false] rfl rfl (take_ofW HT_.out HW_.out (by kernel_rfl)) (fun _ _ _ h => h) (Or.inl ⟨by rfl,?_⟩) hHeld ?_ ?_
       rotate_left
       · rintro w' ⟨s0,s1,s2,s3,s4,s5,s6,s7⟩
         go_simp
         with_reducible rfl
       rotate_left
       · simp only [Act.put,List.setIfInBounds_toArray,List.set_cons_zero,List.set_cons_succ,i64_w,i32_w]
         rfl
       refine take_ (i := 6) (N := some 14) (v := ?_) (a' := ?_) #[true,true,true,true,false,true,true,true,false,false,false,false,false] rfl rfl (take_ofW HT_.out HW_.out (by kernel_rfl)) (fun _ _ _ h => h) (Or.inl ⟨by rfl,?_⟩) hHeld ?_ ?_
       rotate_left
       · rintro w' ⟨s0,s1,s2,s3,s4,s5,s6,s7⟩
         go_simp
         with_reducible rfl
       rotate_left
       · simp only [Act.put,List.setIfInBounds_toArray,List.set_cons_zero,List.set_cons_succ,i64_w,i32_w]
         rfl
       refine take_ (i := 8) (N := some 16) (v := ?_) (a' := ?_) #[true,true,true,true,false,true,true,true,true,false,false,false,false] rfl rfl (take_ofW HT_.out HW_.out (by kernel_rfl)) (fun _ _ _ h => h) (Or.inl ⟨by rfl,?_⟩) hHeld ?_ ?_
       rotate_left
       · rintro w' ⟨s0,s1,s2,s3,s4,s5,s6,s7⟩
         go_simp
         with_reducible rfl
       rotate_left
       · simp only [Act.put,List.setIfInBounds_toArray,List.set_cons_zero,List.set_cons_succ,i64_w,i32_w]
         rfl
       refine one_ (i := 4) (N := some 12) #[true,true,true,true,true,true,true,true,true,false,false,false,false] rfl rfl (one_of HT_.out (by kernel_rfl)) (by decide) (fun K hK => ?_)
       refine goes_ Tryz.func81 (by kernel_rfl) rfl #[.int .i64 a1_1,.int .i64 a2_1] (by rfl) rfl rfl (by (try simp only [List.map_toArray,List.map_cons,List.map_nil]); first | done | rfl | (simp only [List.length_drop,List.length_take]; rfl)) ?_
       with_reducible refine (cmp_Compare_int.calls a1_1 a2_1 t271 _ A4.out).mono ?_
       rintro e w' ⟨rfl,⟨nd,rfl⟩⟩
       refine ⟨_,rfl,?_⟩
       refine hK.out _ _ ⟨(blk_cell BK269.out 0).trans rfl,(blk_cell BK269.out 1).trans rfl,(blk_cell BK269.out 2).trans rfl,(blk_cell BK269.out 3).trans rfl,(blk_cell BK270.out 0).trans rfl,(blk_cell BK270.out 1).trans rfl,(blk_cell BK270.out 2).trans rfl,(blk_cell BK270.out 3).trans rfl⟩ (fun hHeld => ?_)
       clear hK K
       refine norm_ (a' := ?_) ?_ ?_
       rotate_left
       · show Act.put _ (some 12) _ = _
         simp only [Act.put,List.setIfInBounds_toArray,List.set_cons_zero,List.set_cons_succ,i64_w,i32_w]
         rfl
       refine one_ (i := 9) (N := some 17) #[true,true,true,true,true,true,true,true,true,true,false,false,false] rfl rfl (one_of HT_.out (by kernel_rfl)) (by decide) (fun K hK => ?_)
       refine goes_ Tryz.func82 (by kernel_rfl) rfl #[.string a1_3,.string a2_3] (by rfl) rfl rfl (by (try simp only [List.map_toArray,List.map_cons,List.map_nil]); first | done | rfl | (simp only [List.length_drop,List.length_take]; rfl)) ?_
       with_reducible refine (strings_Compare.calls a1_3 a2_3 t272 _ A5.out).mono ?_
       rintro e w' ⟨rfl,⟨nd,rfl⟩⟩
       refine ⟨_,rfl,?_⟩
       refine hK.out _ _ ⟨(blk_cell BK269.out 0).trans rfl,(blk_cell BK269.out 1).trans rfl,(blk_cell BK269.out 2).trans rfl,(blk_cell BK269.out 3).trans rfl,(blk_cell BK270.out 0).trans rfl,(blk_cell BK270.out 1).trans rfl,(blk_cell BK270.out 2).trans rfl,(blk_cell BK270.out 3).trans rfl⟩ (fun hHeld => ?_)
       clear hK K
       refine norm_ (a' := ?_) ?_ ?_
       rotate_left
       · show Act.put _ (some 17) _ = _
         simp only [Act.put,List.setIfInBounds_toArray,List.set_cons_zero,List.set_cons_succ,i64_w,i32_w]
         rfl
       refine one_ (i := 10) (N := some 18) #[true,true,true,true,true,true,true,true,true,true,true,false,false] rfl rfl (one_of HT_.out (by kernel_rfl)) (by decide) (fun K hK => ?_)
       refine Kd.R_lit_step (Kd.int .i64) _ 3 ?hg (N := 18) ?hd (xs := ([t271,t272] : List Int)) (inner := [.int .i64 t271,.int .i64 t272]) (ok := fun _ => True) (okp := fun _ => True) ?hr ?hp (fun _ hk => hk) trivial (Below.refl _ _) (Nat.le_refl _) (by simp) ?_; (case hd => rfl); (case hg => rfl); (case hr => first | (go_simp; done) | (go_simp; rfl)); (case hp => exact (Reps.one (show Kd.M (Kd.int .i64) _ _ _ t271 [.int .i64 t271] from rfl) (Reps.one (show Kd.M (Kd.int .i64) _ _ _ t272 [.int .i64 t272] from rfl) (Reps.none _ _))))
       intro v274 w21 ho22 hb hg_ hnew_
       clear hg_ hnew_
       (first | rw [← Ny273.out] at ho22 | (simp only [Int.reduceToNat] at ho22; rw [← Ny273.out] at ho22))
       have n0_ := Aside0.mk (Kd.R_lower ho22 (below_size (by repeat (first | (with_reducible first | exact HB.out | apply below_alloc | apply pw_below_drewN | apply below_drew1 | apply bytes_below1 | refine below_set ?_ GE269.out | refine below_set ?_ GE270.out) | exact HB.out))))
       have n1_ := Aside0.mk (blk_below (g := gb269) (o := .cells #[.int .i64 a1_0,.int .i64 a1_1,.bool true,.string a1_3] 23 (0,0)) (by (with_reducible repeat (first | refine blk_bytes ?_ _ _ | refine blk_drewN ?_ _ | refine blk_drew ?_ | refine blk_alloc ?_ _)); exact BK269.out) hb)
       have n2_ := Aside0.mk (blk_below (g := gb270) (o := .cells #[.int .i64 a2_0,.int .i64 a2_1,.bool a2_2,.string a2_3] 23 (0,0)) (by (with_reducible repeat (first | refine blk_bytes ?_ _ _ | refine blk_drewN ?_ _ | refine blk_drew ?_ | refine blk_alloc ?_ _)); exact BK270.out) hb)
       have n3_ := Aside0.mk (below_step (by repeat (first | (with_reducible first | exact HB.out | apply below_alloc | apply pw_below_drewN | apply below_drew1 | apply bytes_below1 | refine below_set ?_ GE269.out | refine below_set ?_ GE270.out) | exact HB.out)) hb)
       clear BK269
       clear BK270
       clear HB
       have HO275 := n0_
       have BK269 := n1_
       have BK270 := n2_
       have HB := n3_
       clear n0_ n1_ n2_ n3_
       clear hb ho22
       obtain ⟨Ao23,co23,eo23⟩ := Kd.R_slice HO275.out
       (first | subst eo23 | (injection eo23 with f1_ f2_ f3_; have f4_ := f1_.symm; have f5_ := f3_.symm; clear f1_ f2_ f3_; subst f4_; subst f5_))
       refine hK.out _ _ ⟨(blk_cell BK269.out 0).trans rfl,(blk_cell BK269.out 1).trans rfl,(blk_cell BK269.out 2).trans rfl,(blk_cell BK269.out 3).trans rfl,(blk_cell BK270.out 0).trans rfl,(blk_cell BK270.out 1).trans rfl,(blk_cell BK270.out 2).trans rfl,(blk_cell BK270.out 3).trans rfl⟩ (fun hHeld => ?_)
       clear hK K
       refine norm_ (a' := ?_) ?_ ?_
       rotate_left
       · show Act.put _ (some 18) _ = _
         simp only [Act.put,List.setIfInBounds_toArray,List.set_cons_zero,List.set_cons_succ,i64_w,i32_w]
         rfl
       refine one_ (i := 11) (N := some 19) #[true,true,true,true,true,true,true,true,true,true,true,true,false] rfl rfl (one_of HT_.out (by kernel_rfl)) (by decide) (fun K hK => ?_)
       refine goes_ Tryz.func80 (by kernel_rfl) rfl #[.slice Ao23 y273.length co23] (by rfl) rfl rfl (by (try simp only [List.map_toArray,List.map_cons,List.map_nil]); first | done | rfl | (simp only [List.length_drop,List.length_take]; rfl)) ?_
       with_reducible refine (cmp_Or_int.calls k _ _ y273 t276 _ ?side1 ?side2 A6.out).mono ?_
       (case side1 => repeat (first | exact (Kd.R_reads' HO275.out).2.2 | (with_reducible refine Kd.C_alloc ?_ _) | (with_reducible refine C_bytes ?_ _ _) | (with_reducible refine Kd.C_drewN ?_ _) | (with_reducible refine Kd.C_drew ?_)))
       (case side2 => exact (Kd.R_reads' HO275.out).2.1)
       rintro e w' ⟨rfl,⟨nd,rfl⟩⟩
       refine ⟨_,rfl,?_⟩
       refine hK.out _ _ ⟨(blk_cell BK269.out 0).trans rfl,(blk_cell BK269.out 1).trans rfl,(blk_cell BK269.out 2).trans rfl,(blk_cell BK269.out 3).trans rfl,(blk_cell BK270.out 0).trans rfl,(blk_cell BK270.out 1).trans rfl,(blk_cell BK270.out 2).trans rfl,(blk_cell BK270.out 3).trans rfl⟩ (fun hHeld => ?_)
       clear hK K
       refine norm_ (a' := ?_) ?_ ?_
       rotate_left
       · show Act.put _ (some 19) _ = _
         simp only [Act.put,List.setIfInBounds_toArray,List.set_cons_zero,List.set_cons_succ,i64_w,i32_w]
         rfl
       refine pure_ (i := 12) (N := some 7) (v := ?_) (a' := ?_) #[true,true,true,true,true,true,true,true,true,true,true,true,true] rfl rfl (any_of HT_.out (by kernel_rfl)) (fun _ _ _ h => h) (Or.inl ⟨by rfl,?_⟩) ?_ ?_
       rotate_left
       · intro w'
         go_simp
         with_reducible rfl
       rotate_left
       · simp only [Act.put,List.setIfInBounds_toArray,List.set_cons_zero,List.set_cons_succ,i64_w,i32_w]
         rfl
       refine done_ (done_of HT_.out (by kernel_rfl)) ?_
       have hnb24 := NB269_270.out
       have hnc24 := NB270_269.out
       have hcz25_0 : w21.cell? ⟨gb269,0,none⟩ = some (.int .i64 a1_0) := (blk_cell BK269.out 0).trans rfl
       have hcz25_1 : w21.cell? ⟨gb269,1,none⟩ = some (.int .i64 a1_1) := (blk_cell BK269.out 1).trans rfl
       have hcz25_2 : w21.cell? ⟨gb269,2,none⟩ = some (.bool true) := (blk_cell BK269.out 2).trans rfl
       have hcz25_3 : w21.cell? ⟨gb269,3,none⟩ = some (.string a1_3) := (blk_cell BK269.out 3).trans rfl
       have hfz25_0 := blk_frozen BK269.out 0
       have hfz25_1 := blk_frozen BK269.out 1
       have hfz25_2 := blk_frozen BK269.out 2
       have hfz25_3 := blk_frozen BK269.out 3
       have hcz26_0 : w21.cell? ⟨gb270,0,none⟩ = some (.int .i64 a2_0) := (blk_cell BK270.out 0).trans rfl
       have hcz26_1 : w21.cell? ⟨gb270,1,none⟩ = some (.int .i64 a2_1) := (blk_cell BK270.out 1).trans rfl
       have hcz26_2 : w21.cell? ⟨gb270,2,none⟩ = some (.bool a2_2) := (blk_cell BK270.out 2).trans rfl
       have hcz26_3 : w21.cell? ⟨gb270,3,none⟩ = some (.string a2_3) := (blk_cell BK270.out 3).trans rfl
       have hfz26_0 := blk_frozen BK270.out 0
       have hfz26_1 := blk_frozen BK270.out 1
       have hfz26_2 := blk_frozen BK270.out 2
       have hfz26_3 := blk_frozen BK270.out 3
       try go_wp2
       go_ret
       exact ⟨by first | rfl | (simp [errW_none,errW_some] <;> rfl) | (simp [*,errW_none,errW_some] <;> rfl),by repeat (first | (with_reducible first | exact HB.out | apply below_alloc | apply pw_below_drewN | apply below_drew1 | apply bytes_below1 | refine below_set ?_ GE269.out | refine below_set ?_ GE270.out) | exact HB.out)⟩
     · replace c17 := Bool.eq_false_iff.mpr c17
       subst c17
       have H1 : (some false) = some r := by rw [if_neg (show ¬ (false = true) by decide)] at H; exact H
       clear H
       have H := H1
       clear H1
       obtain rfl := Option.some.inj H
       go_enter Tryz.func53,Tryz.ntmps53
       try go_wp2_with (first | ((with_reducible refine gate_dst (N := 4) rfl ?_); refine box_event ?hg (N := 4) ?hd (cs := #[.int .i64 a1_0,.int .i64 a1_1,.bool false,.string a1_3]) (t := 23) ?hr ?_; (case hd => rfl); (case hg => rfl); (case hr => first | (go_simp; done) | (go_simp; rfl)); intro gb269 hg w27 hbox hb; have n0_ := Aside0.mk (below_step (by repeat (first | (with_reducible first | exact HB.out | apply below_alloc | apply pw_below_drewN | apply below_drew1 | apply bytes_below1) | exact HB.out)) hb); have n1_ := Aside0.mk (hbox); have n2_ := Aside0.mk ((by rw [hg]; exact (below_size (by repeat (first | (with_reducible first | exact HB.out | apply below_alloc | apply pw_below_drewN | apply below_drew1 | apply bytes_below1) | exact HB.out))) : w.heap.size ≤ gb269)); have n3_ := Aside0.mk ((by rw [hg]; exact (below_size (by repeat (first | (with_reducible first | exact HB.out | apply below_alloc | apply pw_below_drewN | apply below_drew1 | apply bytes_below1) | exact HB.out))) : w.heap.size ≤ gb269)); clear HB; have HB := n0_; have BK269 := n1_; have GW269 := n2_; have GE269 := n3_; clear n0_ n1_ n2_ n3_; clear hb hbox hg) | ((with_reducible refine gate_dst (N := 5) rfl ?_); refine box_event ?hg (N := 5) ?hd (cs := #[.int .i64 a2_0,.int .i64 a2_1,.bool a2_2,.string a2_3]) (t := 23) ?hr ?_; (case hd => rfl); (case hg => rfl); (case hr => first | (go_simp; done) | (go_simp; rfl)); intro gb270 hg w28 hbox hb; have n0_ := Aside0.mk (blk_below (g := gb269) (o := .cells #[.int .i64 a1_0,.int .i64 a1_1,.bool false,.string a1_3] 23 (0,0)) (by (with_reducible repeat (first | refine blk_bytes ?_ _ _ | refine blk_drewN ?_ _ | refine blk_drew ?_ | refine blk_alloc ?_ _)); exact BK269.out) hb); have n1_ := Aside0.mk (below_step (by repeat (first | (with_reducible first | exact HB.out | apply below_alloc | apply pw_below_drewN | apply below_drew1 | apply bytes_below1 | refine below_set ?_ GE269.out) | exact HB.out)) hb); have n2_ := Aside0.mk (hbox); have n3_ := Aside0.mk ((by rw [hg]; exact (below_size (by repeat (first | (with_reducible first | exact HB.out | apply below_alloc | apply pw_below_drewN | apply below_drew1 | apply bytes_below1 | refine below_set ?_ GE269.out) | exact HB.out))) : w.heap.size ≤ gb270)); have n4_ := Aside0.mk ((by rw [hg]; exact (below_size (by repeat (first | (with_reducible first | exact HB.out | apply below_alloc | apply pw_below_drewN | apply below_drew1 | apply bytes_below1 | refine below_set ?_ GE269.out) | exact HB.out))) : w.heap.size ≤ gb270)); have n5_ := Aside0.mk ((by rw [hg]; exact Nat.ne_of_lt (blk_lt (g := gb269) (o := .cells #[.int .i64 a1_0,.int .i64 a1_1,.bool false,.string a1_3] 23 (0,0)) (by (with_reducible repeat (first | refine blk_bytes ?_ _ _ | refine blk_drewN ?_ _ | refine blk_drew ?_ | refine blk_alloc ?_ _)); exact BK269.out)) : gb269 ≠ gb270)); have n6_ := Aside0.mk ((by rw [hg]; exact Nat.ne_of_gt (blk_lt (g := gb269) (o := .cells #[.int .i64 a1_0,.int .i64 a1_1,.bool false,.string a1_3] 23 (0,0)) (by (with_reducible repeat (first | refine blk_bytes ?_ _ _ | refine blk_drewN ?_ _ | refine blk_drew ?_ | refine blk_alloc ?_ _)); exact BK269.out)) : gb270 ≠ gb269)); clear BK269; clear HB; have BK269 := n0_; have HB := n1_; have BK270 := n2_; have GW270 := n3_; have GE270 := n4_; have NB269_270 := n5_; have NB270_269 := n6_; clear n0_ n1_ n2_ n3_ n4_ n5_ n6_; clear hb hbox hg))
       have n0_ := Aside0.mk (blk_drew BK269.out)
       have n1_ := Aside0.mk (blk_drew BK270.out)
       have n2_ := Aside0.mk (below_drew1 HB.out)
       clear BK269
       clear BK270
       clear HB
       have BK269 := n0_
       have BK270 := n1_
       have HB := n2_
       clear n0_ n1_ n2_
       refine start_ (n := 13) (S := fun w' => w'.cell? ⟨gb269,0,none⟩ = some (.int .i64 a1_0) ∧ w'.cell? ⟨gb269,1,none⟩ = some (.int .i64 a1_1) ∧ w'.cell? ⟨gb269,2,none⟩ = some (.bool false) ∧ w'.cell? ⟨gb269,3,none⟩ = some (.string a1_3) ∧ w'.cell? ⟨gb270,0,none⟩ = some (.int .i64 a2_0) ∧ w'.cell? ⟨gb270,1,none⟩ = some (.int .i64 a2_1) ∧ w'.cell? ⟨gb270,2,none⟩ = some (.bool a2_2) ∧ w'.cell? ⟨gb270,3,none⟩ = some (.string a2_3)) (ds := []) #[false,false,false,false,false,false,false,false,false,false,false,false,false] (by kernel_rfl) rfl rfl ⟨(blk_cell BK269.out 0).trans rfl,(blk_cell BK269.out 1).trans rfl,(blk_cell BK269.out 2).trans rfl,(blk_cell BK269.out 3).trans rfl,(blk_cell BK270.out 0).trans rfl,(blk_cell BK270.out 1).trans rfl,(blk_cell BK270.out 2).trans rfl,(blk_cell BK270.out 3).trans rfl⟩ (fun hHeld => ?_); refine with_tabW value_judge.tab1 value_judge.bits1 (fun HT_ HW_ => ?_)
       generalize w28.drew = w29 at BK269 BK270 HB hHeld ⊢
       refine pure_ (i := 0) (N := some 8) (v := ?_) (a' := ?_) #[true,false,false,false,false,false,false,false,false,false,false,false,false] rfl rfl (any_of HT_.out (by kernel_rfl)) (fun _ _ _ h => h) (Or.inl ⟨by rfl,?_⟩) ?_ ?_
       rotate_left
       · intro w'
         go_simp
         with_reducible rfl
       rotate_left
       · simp only [Act.put,List.setIfInBounds_toArray,List.set_cons_zero,List.set_cons_succ,i64_w,i32_w]
         rfl
       refine pure_ (i := 2) (N := some 10) (v := ?_) (a' := ?_) #[true,false,true,false,false,false,false,false,false,false,false,false,false] rfl rfl (any_of HT_.out (by kernel_rfl)) (fun _ _ _ h => h) (Or.inl ⟨by rfl,?_⟩) ?_ ?_
       rotate_left
       · intro w'
         go_simp
         with_reducible rfl
       rotate_left
       · simp only [Act.put,List.setIfInBounds_toArray,List.set_cons_zero,List.set_cons_succ,i64_w,i32_w]
         rfl
       refine pure_ (i := 5) (N := some 13) (v := ?_) (a' := ?_) #[true,false,true,false,false,true,false,false,false,false,false,false,false] rfl rfl (any_of HT_.out (by kernel_rfl)) (fun _ _ _ h => h) (Or.inl ⟨by rfl,?_⟩) ?_ ?_
       rotate_left
       · intro w'
         go_simp
         with_reducible rfl
       rotate_left
       · simp only [Act.put,List.setIfInBounds_toArray,List.set_cons_zero,List.set_cons_succ,i64_w,i32_w]
         rfl
       refine pure_ (i := 7) (N := some 15) (v := ?_) (a' := ?_) #[true,false,true,false,false,true,false,true,false,false,false,false,false] rfl rfl (any_of HT_.out (by kernel_rfl)) (fun _ _ _ h => h) (Or.inl ⟨by rfl,?_⟩) ?_ ?_
       rotate_left
       · intro w'
         go_simp
         with_reducible rfl
       rotate_left
       · simp only [Act.put,List.setIfInBounds_toArray,List.set_cons_zero,List.set_cons_succ,i64_w,i32_w]
         rfl
       refine take_ (i := 1) (N := some 9) (v := ?_) (a' := ?_) #[true,true,true,false,false,true,false,true,false,false,false,false,false] rfl rfl (take_ofW HT_.out HW_.out (by kernel_rfl)) (fun _ _ _ h => h) (Or.inl ⟨by rfl,?_⟩) hHeld ?_ ?_
       rotate_left
       · rintro w' ⟨s0,s1,s2,s3,s4,s5,s6,s7⟩
         go_simp
         with_reducible rfl
       rotate_left
       · simp only [Act.put,List.setIfInBounds_toArray,List.set_cons_zero,List.set_cons_succ,i64_w,i32_w]
         rfl
       refine take_ (i := 3) (N := some 11) (v := ?_) (a' := ?_) #[true,true,true,true,false,true,false,true,false,false,false,false,false] rfl rfl (take_ofW HT_.out HW_.out (by kernel_rfl)) (fun _ _ _ h => h) (Or.inl ⟨by rfl,?_⟩) hHeld ?_ ?_
       rotate_left
       · rintro w' ⟨s0,s1,s2,s3,s4,s5,s6,s7⟩
         go_simp
         with_reducible rfl
       rotate_left
       · simp only [Act.put,List.setIfInBounds_toArray,List.set_cons_zero,List.set_cons_succ,i64_w,i32_w]
         rfl
       refine take_ (i := 6) (N := some 14) (v := ?_) (a' := ?_) #[true,true,true,true,false,true,true,true,false,false,false,false,false] rfl rfl (take_ofW HT_.out HW_.out (by kernel_rfl)) (fun _ _ _ h => h) (Or.inl ⟨by rfl,?_⟩) hHeld ?_ ?_
       rotate_left
       · rintro w' ⟨s0,s1,s2,s3,s4,s5,s6,s7⟩
         go_simp
         with_reducible rfl
       rotate_left
       · simp only [Act.put,List.setIfInBounds_toArray,List.set_cons_zero,List.set_cons_succ,i64_w,i32_w]
         rfl
       refine take_ (i := 8) (N := some 16) (v := ?_) (a' := ?_) #[true,true,true,true,false,true,true,true,true,false,false,false,false] rfl rfl (take_ofW HT_.out HW_.out (by kernel_rfl)) (fun _ _ _ h => h) (Or.inl ⟨by rfl,?_⟩) hHeld ?_ ?_
       rotate_left
       · rintro w' ⟨s0,s1,s2,s3,s4,s5,s6,s7⟩
         go_simp
         with_reducible rfl
       rotate_left
       · simp only [Act.put,List.setIfInBounds_toArray,List.set_cons_zero,List.set_cons_succ,i64_w,i32_w]
         rfl
       refine one_ (i := 4) (N := some 12) #[true,true,true,true,true,true,true,true,true,false,false,false,false] rfl rfl (one_of HT_.out (by kernel_rfl)) (by decide) (fun K hK => ?_)
       refine goes_ Tryz.func81 (by kernel_rfl) rfl #[.int .i64 a1_1,.int .i64 a2_1] (by rfl) rfl rfl (by (try simp only [List.map_toArray,List.map_cons,List.map_nil]); first | done | rfl | (simp only [List.length_drop,List.length_take]; rfl)) ?_
       with_reducible refine (cmp_Compare_int.calls a1_1 a2_1 t271 _ A4.out).mono ?_
       rintro e w' ⟨rfl,⟨nd,rfl⟩⟩
       refine ⟨_,rfl,?_⟩
       refine hK.out _ _ ⟨(blk_cell BK269.out 0).trans rfl,(blk_cell BK269.out 1).trans rfl,(blk_cell BK269.out 2).trans rfl,(blk_cell BK269.out 3).trans rfl,(blk_cell BK270.out 0).trans rfl,(blk_cell BK270.out 1).trans rfl,(blk_cell BK270.out 2).trans rfl,(blk_cell BK270.out 3).trans rfl⟩ (fun hHeld => ?_)
       clear hK K
       refine norm_ (a' := ?_) ?_ ?_
       rotate_left
       · show Act.put _ (some 12) _ = _
         simp only [Act.put,List.setIfInBounds_toArray,List.set_cons_zero,List.set_cons_succ,i64_w,i32_w]
         rfl
       refine one_ (i := 9) (N := some 17) #[true,true,true,true,true,true,true,true,true,true,false,false,false] rfl rfl (one_of HT_.out (by kernel_rfl)) (by decide) (fun K hK => ?_)
       refine goes_ Tryz.func82 (by kernel_rfl) rfl #[.string a1_3,.string a2_3] (by rfl) rfl rfl (by (try simp only [List.map_toArray,List.map_cons,List.map_nil]); first | done | rfl | (simp only [List.length_drop,List.length_take]; rfl)) ?_
       with_reducible refine (strings_Compare.calls a1_3 a2_3 t272 _ A5.out).mono ?_
       rintro e w' ⟨rfl,⟨nd,rfl⟩⟩
       refine ⟨_,rfl,?_⟩
       refine hK.out _ _ ⟨(blk_cell BK269.out 0).trans rfl,(blk_cell BK269.out 1).trans rfl,(blk_cell BK269.out 2).trans rfl,(blk_cell BK269.out 3).trans rfl,(blk_cell BK270.out 0).trans rfl,(blk_cell BK270.out 1).trans rfl,(blk_cell BK270.out 2).trans rfl,(blk_cell BK270.out 3).trans rfl⟩ (fun hHeld => ?_)
       clear hK K
       refine norm_ (a' := ?_) ?_ ?_
       rotate_left
       · show Act.put _ (some 17) _ = _
         simp only [Act.put,List.setIfInBounds_toArray,List.set_cons_zero,List.set_cons_succ,i64_w,i32_w]
         rfl
       refine one_ (i := 10) (N := some 18) #[true,true,true,true,true,true,true,true,true,true,true,false,false] rfl rfl (one_of HT_.out (by kernel_rfl)) (by decide) (fun K hK => ?_)
       refine Kd.R_lit_step (Kd.int .i64) _ 3 ?hg (N := 18) ?hd (xs := ([t271,t272] : List Int)) (inner := [.int .i64 t271,.int .i64 t272]) (ok := fun _ => True) (okp := fun _ => True) ?hr ?hp (fun _ hk => hk) trivial (Below.refl _ _) (Nat.le_refl _) (by simp) ?_; (case hd => rfl); (case hg => rfl); (case hr => first | (go_simp; done) | (go_simp; rfl)); (case hp => exact (Reps.one (show Kd.M (Kd.int .i64) _ _ _ t271 [.int .i64 t271] from rfl) (Reps.one (show Kd.M (Kd.int .i64) _ _ _ t272 [.int .i64 t272] from rfl) (Reps.none _ _))))
       intro v274 w30 ho31 hb hg_ hnew_
       clear hg_ hnew_
       (first | rw [← Ny273.out] at ho31 | (simp only [Int.reduceToNat] at ho31; rw [← Ny273.out] at ho31))
       have n0_ := Aside0.mk (Kd.R_lower ho31 (below_size (by repeat (first | (with_reducible first | exact HB.out | apply below_alloc | apply pw_below_drewN | apply below_drew1 | apply bytes_below1 | refine below_set ?_ GE269.out | refine below_set ?_ GE270.out) | exact HB.out))))
       have n1_ := Aside0.mk (blk_below (g := gb269) (o := .cells #[.int .i64 a1_0,.int .i64 a1_1,.bool false,.string a1_3] 23 (0,0)) (by (with_reducible repeat (first | refine blk_bytes ?_ _ _ | refine blk_drewN ?_ _ | refine blk_drew ?_ | refine blk_alloc ?_ _)); exact BK269.out) hb)
       have n2_ := Aside0.mk (blk_below (g := gb270) (o := .cells #[.int .i64 a2_0,.int .i64 a2_1,.bool a2_2,.string a2_3] 23 (0,0)) (by (with_reducible repeat (first | refine blk_bytes ?_ _ _ | refine blk_drewN ?_ _ | refine blk_drew ?_ | refine blk_alloc ?_ _)); exact BK270.out) hb)
       have n3_ := Aside0.mk (below_step (by repeat (first | (with_reducible first | exact HB.out | apply below_alloc | apply pw_below_drewN | apply below_drew1 | apply bytes_below1 | refine below_set ?_ GE269.out | refine below_set ?_ GE270.out) | exact HB.out)) hb)
       clear BK269
       clear BK270
       clear HB
       have HO275 := n0_
       have BK269 := n1_
       have BK270 := n2_
       have HB := n3_
       clear n0_ n1_ n2_ n3_
       clear hb ho31
       obtain ⟨Ao32,co32,eo32⟩ := Kd.R_slice HO275.out
       (first | subst eo32 | (injection eo32 with f1_ f2_ f3_; have f4_ := f1_.symm; have f5_ := f3_.symm; clear f1_ f2_ f3_; subst f4_; subst f5_))
       refine hK.out _ _ ⟨(blk_cell BK269.out 0).trans rfl,(blk_cell BK269.out 1).trans rfl,(blk_cell BK269.out 2).trans rfl,(blk_cell BK269.out 3).trans rfl,(blk_cell BK270.out 0).trans rfl,(blk_cell BK270.out 1).trans rfl,(blk_cell BK270.out 2).trans rfl,(blk_cell BK270.out 3).trans rfl⟩ (fun hHeld => ?_)
       clear hK K
       refine norm_ (a' := ?_) ?_ ?_
       rotate_left
       · show Act.put _ (some 18) _ = _
         simp only [Act.put,List.setIfInBounds_toArray,List.set_cons_zero,List.set_cons_succ,i64_w,i32_w]
         rfl
       refine one_ (i := 11) (N := some 19) #[true,true,true,true,true,true,true,true,true,true,true,true,false] rfl rfl (one_of HT_.out (by kernel_rfl)) (by decide) (fun K hK => ?_)
       refine goes_ Tryz.func80 (by kernel_rfl) rfl #[.slice Ao32 y273.length co32] (by rfl) rfl rfl (by (try simp only [List.map_toArray,List.map_cons,List.map_nil]); first | done | rfl | (simp only [List.length_drop,List.length_take]; rfl)) ?_
       with_reducible refine (cmp_Or_int.calls k _ _ y273 t276 _ ?side1 ?side2 A6.out).mono ?_
       (case side1 => repeat (first | exact (Kd.R_reads' HO275.out).2.2 | (with_reducible refine Kd.C_alloc ?_ _) | (with_reducible refine C_bytes ?_ _ _) | (with_reducible refine Kd.C_drewN ?_ _) | (with_reducible refine Kd.C_drew ?_)))
       (case side2 => exact (Kd.R_reads' HO275.out).2.1)
       rintro e w' ⟨rfl,⟨nd,rfl⟩⟩
       refine ⟨_,rfl,?_⟩
       refine hK.out _ _ ⟨(blk_cell BK269.out 0).trans rfl,(blk_cell BK269.out 1).trans rfl,(blk_cell BK269.out 2).trans rfl,(blk_cell BK269.out 3).trans rfl,(blk_cell BK270.out 0).trans rfl,(blk_cell BK270.out 1).trans rfl,(blk_cell BK270.out 2).trans rfl,(blk_cell BK270.out 3).trans rfl⟩ (fun hHeld => ?_)
       clear hK K
       refine norm_ (a' := ?_) ?_ ?_
       rotate_left
       · show Act.put _ (some 19) _ = _
         simp only [Act.put,List.setIfInBounds_toArray,List.set_cons_zero,List.set_cons_succ,i64_w,i32_w]
         rfl
       refine pure_ (i := 12) (N := some 7) (v := ?_) (a' := ?_) #[true,true,true,true,true,true,true,true,true,true,true,true,true] rfl rfl (any_of HT_.out (by kernel_rfl)) (fun _ _ _ h => h) (Or.inl ⟨by rfl,?_⟩) ?_ ?_
       rotate_left
       · intro w'
         go_simp
         with_reducible rfl
       rotate_left
       · simp only [Act.put,List.setIfInBounds_toArray,List.set_cons_zero,List.set_cons_succ,i64_w,i32_w]
         rfl
       refine done_ (done_of HT_.out (by kernel_rfl)) ?_
       have hnb33 := NB269_270.out
       have hnc33 := NB270_269.out
       have hcz34_0 : w30.cell? ⟨gb269,0,none⟩ = some (.int .i64 a1_0) := (blk_cell BK269.out 0).trans rfl
       have hcz34_1 : w30.cell? ⟨gb269,1,none⟩ = some (.int .i64 a1_1) := (blk_cell BK269.out 1).trans rfl
       have hcz34_2 : w30.cell? ⟨gb269,2,none⟩ = some (.bool false) := (blk_cell BK269.out 2).trans rfl
       have hcz34_3 : w30.cell? ⟨gb269,3,none⟩ = some (.string a1_3) := (blk_cell BK269.out 3).trans rfl
       have hfz34_0 := blk_frozen BK269.out 0
       have hfz34_1 := blk_frozen BK269.out 1
       have hfz34_2 := blk_frozen BK269.out 2
       have hfz34_3 := blk_frozen BK269.out 3
       try go_wp2
       go_ret
       exact ⟨by first | rfl | (simp [errW_none,errW_some] <;> rfl) | (simp [*,errW_none,errW_some] <;> rfl),by repeat (first | (with_reducible first | exact HB.out | apply below_alloc | apply pw_below_drewN | apply below_drew1 | apply bytes_below1 | refine below_set ?_ GE269.out | refine below_set ?_ GE270.out) | exact HB.out)⟩
   · rw [if_neg c16] at H
     have c16b0 : (a0 == 18) = false := beq_eq_false_iff_ne.mpr c16
     have c16b1 : (a0 != 18) = true := bne_iff_ne.mpr c16
     by_cases c35 : a0 = 19
     · rw [if_pos c35] at H
       have c35b0 : (a0 == 19) = true := beq_iff_eq.mpr c35
       have c35b1 : (a0 != 19) = false := bne_eq_false_iff_eq.mpr c35
       clear c35
       by_cases c36 : a1_2 = true
       · subst c36
         have H1 : (some true) = some r := by rw [if_pos rfl] at H; exact H
         clear H
         have H := H1
         clear H1
         obtain rfl := Option.some.inj H
         go_enter Tryz.func53,Tryz.ntmps53
         try go_wp2_with (first | ((with_reducible refine gate_dst (N := 4) rfl ?_); refine box_event ?hg (N := 4) ?hd (cs := #[.int .i64 a1_0,.int .i64 a1_1,.bool true,.string a1_3]) (t := 23) ?hr ?_; (case hd => rfl); (case hg => rfl); (case hr => first | (go_simp; done) | (go_simp; rfl)); intro gb269 hg w37 hbox hb; have n0_ := Aside0.mk (below_step (by repeat (first | (with_reducible first | exact HB.out | apply below_alloc | apply pw_below_drewN | apply below_drew1 | apply bytes_below1) | exact HB.out)) hb); have n1_ := Aside0.mk (hbox); have n2_ := Aside0.mk ((by rw [hg]; exact (below_size (by repeat (first | (with_reducible first | exact HB.out | apply below_alloc | apply pw_below_drewN | apply below_drew1 | apply bytes_below1) | exact HB.out))) : w.heap.size ≤ gb269)); have n3_ := Aside0.mk ((by rw [hg]; exact (below_size (by repeat (first | (with_reducible first | exact HB.out | apply below_alloc | apply pw_below_drewN | apply below_drew1 | apply bytes_below1) | exact HB.out))) : w.heap.size ≤ gb269)); clear HB; have HB := n0_; have BK269 := n1_; have GW269 := n2_; have GE269 := n3_; clear n0_ n1_ n2_ n3_; clear hb hbox hg) | ((with_reducible refine gate_dst (N := 5) rfl ?_); refine box_event ?hg (N := 5) ?hd (cs := #[.int .i64 a2_0,.int .i64 a2_1,.bool a2_2,.string a2_3]) (t := 23) ?hr ?_; (case hd => rfl); (case hg => rfl); (case hr => first | (go_simp; done) | (go_simp; rfl)); intro gb270 hg w38 hbox hb; have n0_ := Aside0.mk (blk_below (g := gb269) (o := .cells #[.int .i64 a1_0,.int .i64 a1_1,.bool true,.string a1_3] 23 (0,0)) (by (with_reducible repeat (first | refine blk_bytes ?_ _ _ | refine blk_drewN ?_ _ | refine blk_drew ?_ | refine blk_alloc ?_ _)); exact BK269.out) hb); have n1_ := Aside0.mk (below_step (by repeat (first | (with_reducible first | exact HB.out | apply below_alloc | apply pw_below_drewN | apply below_drew1 | apply bytes_below1 | refine below_set ?_ GE269.out) | exact HB.out)) hb); have n2_ := Aside0.mk (hbox); have n3_ := Aside0.mk ((by rw [hg]; exact (below_size (by repeat (first | (with_reducible first | exact HB.out | apply below_alloc | apply pw_below_drewN | apply below_drew1 | apply bytes_below1 | refine below_set ?_ GE269.out) | exact HB.out))) : w.heap.size ≤ gb270)); have n4_ := Aside0.mk ((by rw [hg]; exact (below_size (by repeat (first | (with_reducible first | exact HB.out | apply below_alloc | apply pw_below_drewN | apply below_drew1 | apply bytes_below1 | refine below_set ?_ GE269.out) | exact HB.out))) : w.heap.size ≤ gb270)); have n5_ := Aside0.mk ((by rw [hg]; exact Nat.ne_of_lt (blk_lt (g := gb269) (o := .cells #[.int .i64 a1_0,.int .i64 a1_1,.bool true,.string a1_3] 23 (0,0)) (by (with_reducible repeat (first | refine blk_bytes ?_ _ _ | refine blk_drewN ?_ _ | refine blk_drew ?_ | refine blk_alloc ?_ _)); exact BK269.out)) : gb269 ≠ gb270)); have n6_ := Aside0.mk ((by rw [hg]; exact Nat.ne_of_gt (blk_lt (g := gb269) (o := .cells #[.int .i64 a1_0,.int .i64 a1_1,.bool true,.string a1_3] 23 (0,0)) (by (with_reducible repeat (first | refine blk_bytes ?_ _ _ | refine blk_drewN ?_ _ | refine blk_drew ?_ | refine blk_alloc ?_ _)); exact BK269.out)) : gb270 ≠ gb269)); clear BK269; clear HB; have BK269 := n0_; have HB := n1_; have BK270 := n2_; have GW270 := n3_; have GE270 := n4_; have NB269_270 := n5_; have NB270_269 := n6_; clear n0_ n1_ n2_ n3_ n4_ n5_ n6_; clear hb hbox hg))
         have n0_ := Aside0.mk (blk_drew BK269.out)
         have n1_ := Aside0.mk (blk_drew BK270.out)
         have n2_ := Aside0.mk (below_drew1 HB.out)
         clear BK269
         clear BK270
         clear HB
         have BK269 := n0_
         have BK270 := n1_
         have HB := n2_
         clear n0_ n1_ n2_
         refine start_ (n := 13) (S := fun w' => w'.cell? ⟨gb269,0,none⟩ = some (.int .i64 a1_0) ∧ w'.cell? ⟨gb269,1,none⟩ = some (.int .i64 a1_1) ∧ w'.cell? ⟨gb269,2,none⟩ = some (.bool true) ∧ w'.cell? ⟨gb269,3,none⟩ = some (.string a1_3) ∧ w'.cell? ⟨gb270,0,none⟩ = some (.int .i64 a2_0) ∧ w'.cell? ⟨gb270,1,none⟩ = some (.int .i64 a2_1) ∧ w'.cell? ⟨gb270,2,none⟩ = some (.bool a2_2) ∧ w'.cell? ⟨gb270,3,none⟩ = some (.string a2_3)) (ds := []) #[false,false,false,false,false,false,false,false,false,false,false,false,false] (by kernel_rfl) rfl rfl ⟨(blk_cell BK269.out 0).trans rfl,(blk_cell BK269.out 1).trans rfl,(blk_cell BK269.out 2).trans rfl,(blk_cell BK269.out 3).trans rfl,(blk_cell BK270.out 0).trans rfl,(blk_cell BK270.out 1).trans rfl,(blk_cell BK270.out 2).trans rfl,(blk_cell BK270.out 3).trans rfl⟩ (fun hHeld => ?_); refine with_tabW value_judge.tab1 value_judge.bits1 (fun HT_ HW_ => ?_)
         generalize w38.drew = w39 at BK269 BK270 HB hHeld ⊢
         refine pure_ (i := 0) (N := some 8) (v := ?_) (a' := ?_) #[true,false,false,false,false,false,false,false,false,false,false,false,false] rfl rfl (any_of HT_.out (by kernel_rfl)) (fun _ _ _ h => h) (Or.inl ⟨by rfl,?_⟩) ?_ ?_
         rotate_left
         · intro w'
           go_simp
           with_reducible rfl
         rotate_left
         · simp only [Act.put,List.setIfInBounds_toArray,List.set_cons_zero,List.set_cons_succ,i64_w,i32_w]
           rfl
         refine pure_ (i := 2) (N := some 10) (v := ?_) (a' := ?_) #[true,false,true,false,false,false,false,false,false,false,false,false,false] rfl rfl (any_of HT_.out (by kernel_rfl)) (fun _ _ _ h => h) (Or.inl ⟨by rfl,?_⟩) ?_ ?_
         rotate_left
         · intro w'
           go_simp
           with_reducible rfl
         rotate_left
         · simp only [Act.put,List.setIfInBounds_toArray,List.set_cons_zero,List.set_cons_succ,i64_w,i32_w]
           rfl
         refine pure_ (i := 5) (N := some 13) (v := ?_) (a' := ?_) #[true,false,true,false,false,true,false,false,false,false,false,false,false] rfl rfl (any_of HT_.out (by kernel_rfl)) (fun _ _ _ h => h) (Or.inl ⟨by rfl,?_⟩) ?_ ?_
         rotate_left
         · intro w'
           go_simp
           with_reducible rfl
         rotate_left
         · simp only [Act.put,List.setIfInBounds_toArray,List.set_cons_zero,List.set_cons_succ,i64_w,i32_w]
           rfl
         refine pure_ (i := 7) (N := some 15) (v := ?_) (a' := ?_) #[true,false,true,false,false,true,false,true,false,false,false,false,false] rfl rfl (any_of HT_.out (by kernel_rfl)) (fun _ _ _ h => h) (Or.inl ⟨by rfl,?_⟩) ?_ ?_
         rotate_left
         · intro w'
           go_simp
           with_reducible rfl
         rotate_left
         · simp only [Act.put,List.setIfInBounds_toArray,List.set_cons_zero,List.set_cons_succ,i64_w,i32_w]
           rfl
         refine take_ (i := 1) (N := some 9) (v := ?_) (a' := ?_) #[true,true,true,false,false,true,false,true,false,false,false,false,false] rfl rfl (take_ofW HT_.out HW_.out (by kernel_rfl)) (fun _ _ _ h => h) (Or.inl ⟨by rfl,?_⟩) hHeld ?_ ?_
         rotate_left
         · rintro w' ⟨s0,s1,s2,s3,s4,s5,s6,s7⟩
           go_simp
           with_reducible rfl
         rotate_left
         · simp only [Act.put,List.setIfInBounds_toArray,List.set_cons_zero,List.set_cons_succ,i64_w,i32_w]
           rfl
         refine take_ (i := 3) (N := some 11) (v := ?_) (a' := ?_) #[true,true,true,true,false,true,false,true,false,false,false,false,false] rfl rfl (take_ofW HT_.out HW_.out (by kernel_rfl)) (fun _ _ _ h => h) (Or.inl ⟨by rfl,?_⟩) hHeld ?_ ?_
         rotate_left
         · rintro w' ⟨s0,s1,s2,s3,s4,s5,s6,s7⟩
           go_simp
           with_reducible rfl
         rotate_left
         · simp only [Act.put,List.setIfInBounds_toArray,List.set_cons_zero,List.set_cons_succ,i64_w,i32_w]
           rfl
         refine take_ (i := 6) (N := some 14) (v := ?_) (a' := ?_) #[true,true,true,true,false,true,true,true,false,false,false,false,false] rfl rfl (take_ofW HT_.out HW_.out (by kernel_rfl)) (fun _ _ _ h => h) (Or.inl ⟨by rfl,?_⟩) hHeld ?_ ?_
         rotate_left
         · rintro w' ⟨s0,s1,s2,s3,s4,s5,s6,s7⟩
           go_simp
           with_reducible rfl
         rotate_left
         · simp only [Act.put,List.setIfInBounds_toArray,List.set_cons_zero,List.set_cons_succ,i64_w,i32_w]
           rfl
         refine take_ (i := 8) (N := some 16) (v := ?_) (a' := ?_) #[true,true,true,true,false,true,true,true,true,false,false,false,false] rfl rfl (take_ofW HT_.out HW_.out (by kernel_rfl)) (fun _ _ _ h => h) (Or.inl ⟨by rfl,?_⟩) hHeld ?_ ?_
         rotate_left
         · rintro w' ⟨s0,s1,s2,s3,s4,s5,s6,s7⟩
           go_simp
           with_reducible rfl
         rotate_left
         · simp only [Act.put,List.setIfInBounds_toArray,List.set_cons_zero,List.set_cons_succ,i64_w,i32_w]
           rfl
         refine one_ (i := 4) (N := some 12) #[true,true,true,true,true,true,true,true,true,false,false,false,false] rfl rfl (one_of HT_.out (by kernel_rfl)) (by decide) (fun K hK => ?_)
         refine goes_ Tryz.func81 (by kernel_rfl) rfl #[.int .i64 a1_1,.int .i64 a2_1] (by rfl) rfl rfl (by (try simp only [List.map_toArray,List.map_cons,List.map_nil]); first | done | rfl | (simp only [List.length_drop,List.length_take]; rfl)) ?_
         with_reducible refine (cmp_Compare_int.calls a1_1 a2_1 t271 _ A4.out).mono ?_
         rintro e w' ⟨rfl,⟨nd,rfl⟩⟩
         refine ⟨_,rfl,?_⟩
         refine hK.out _ _ ⟨(blk_cell BK269.out 0).trans rfl,(blk_cell BK269.out 1).trans rfl,(blk_cell BK269.out 2).trans rfl,(blk_cell BK269.out 3).trans rfl,(blk_cell BK270.out 0).trans rfl,(blk_cell BK270.out 1).trans rfl,(blk_cell BK270.out 2).trans rfl,(blk_cell BK270.out 3).trans rfl⟩ (fun hHeld => ?_)
         clear hK K
         refine norm_ (a' := ?_) ?_ ?_
         rotate_left
         · show Act.put _ (some 12) _ = _
           simp only [Act.put,List.setIfInBounds_toArray,List.set_cons_zero,List.set_cons_succ,i64_w,i32_w]
           rfl
         refine one_ (i := 9) (N := some 17) #[true,true,true,true,true,true,true,true,true,true,false,false,false] rfl rfl (one_of HT_.out (by kernel_rfl)) (by decide) (fun K hK => ?_)
         refine goes_ Tryz.func82 (by kernel_rfl) rfl #[.string a1_3,.string a2_3] (by rfl) rfl rfl (by (try simp only [List.map_toArray,List.map_cons,List.map_nil]); first | done | rfl | (simp only [List.length_drop,List.length_take]; rfl)) ?_
         with_reducible refine (strings_Compare.calls a1_3 a2_3 t272 _ A5.out).mono ?_
         rintro e w' ⟨rfl,⟨nd,rfl⟩⟩
         refine ⟨_,rfl,?_⟩
         refine hK.out _ _ ⟨(blk_cell BK269.out 0).trans rfl,(blk_cell BK269.out 1).trans rfl,(blk_cell BK269.out 2).trans rfl,(blk_cell BK269.out 3).trans rfl,(blk_cell BK270.out 0).trans rfl,(blk_cell BK270.out 1).trans rfl,(blk_cell BK270.out 2).trans rfl,(blk_cell BK270.out 3).trans rfl⟩ (fun hHeld => ?_)
         clear hK K
         refine norm_ (a' := ?_) ?_ ?_
         rotate_left
         · show Act.put _ (some 17) _ = _
           simp only [Act.put,List.setIfInBounds_toArray,List.set_cons_zero,List.set_cons_succ,i64_w,i32_w]
           rfl
         refine one_ (i := 10) (N := some 18) #[true,true,true,true,true,true,true,true,true,true,true,false,false] rfl rfl (one_of HT_.out (by kernel_rfl)) (by decide) (fun K hK => ?_)
         refine Kd.R_lit_step (Kd.int .i64) _ 3 ?hg (N := 18) ?hd (xs := ([t271,t272] : List Int)) (inner := [.int .i64 t271,.int .i64 t272]) (ok := fun _ => True) (okp := fun _ => True) ?hr ?hp (fun _ hk => hk) trivial (Below.refl _ _) (Nat.le_refl _) (by simp) ?_; (case hd => rfl); (case hg => rfl); (case hr => first | (go_simp; done) | (go_simp; rfl)); (case hp => exact (Reps.one (show Kd.M (Kd.int .i64) _ _ _ t271 [.int .i64 t271] from rfl) (Reps.one (show Kd.M (Kd.int .i64) _ _ _ t272 [.int .i64 t272] from rfl) (Reps.none _ _))))
         intro v274 w40 ho41 hb hg_ hnew_
         clear hg_ hnew_
         (first | rw [← Ny273.out] at ho41 | (simp only [Int.reduceToNat] at ho41; rw [← Ny273.out] at ho41))
         have n0_ := Aside0.mk (Kd.R_lower ho41 (below_size (by repeat (first | (with_reducible first | exact HB.out | apply below_alloc | apply pw_below_drewN | apply below_drew1 | apply bytes_below1 | refine below_set ?_ GE269.out | refine below_set ?_ GE270.out) | exact HB.out))))
         have n1_ := Aside0.mk (blk_below (g := gb269) (o := .cells #[.int .i64 a1_0,.int .i64 a1_1,.bool true,.string a1_3] 23 (0,0)) (by (with_reducible repeat (first | refine blk_bytes ?_ _ _ | refine blk_drewN ?_ _ | refine blk_drew ?_ | refine blk_alloc ?_ _)); exact BK269.out) hb)
         have n2_ := Aside0.mk (blk_below (g := gb270) (o := .cells #[.int .i64 a2_0,.int .i64 a2_1,.bool a2_2,.string a2_3] 23 (0,0)) (by (with_reducible repeat (first | refine blk_bytes ?_ _ _ | refine blk_drewN ?_ _ | refine blk_drew ?_ | refine blk_alloc ?_ _)); exact BK270.out) hb)
         have n3_ := Aside0.mk (below_step (by repeat (first | (with_reducible first | exact HB.out | apply below_alloc | apply pw_below_drewN | apply below_drew1 | apply bytes_below1 | refine below_set ?_ GE269.out | refine below_set ?_ GE270.out) | exact HB.out)) hb)
         clear BK269
         clear BK270
         clear HB
         have HO275 := n0_
         have BK269 := n1_
         have BK270 := n2_
         have HB := n3_
         clear n0_ n1_ n2_ n3_
         clear hb ho41
         obtain ⟨Ao42,co42,eo42⟩ := Kd.R_slice HO275.out
         (first | subst eo42 | (injection eo42 with f1_ f2_ f3_; have f4_ := f1_.symm; have f5_ := f3_.symm; clear f1_ f2_ f3_; subst f4_; subst f5_))
         refine hK.out _ _ ⟨(blk_cell BK269.out 0).trans rfl,(blk_cell BK269.out 1).trans rfl,(blk_cell BK269.out 2).trans rfl,(blk_cell BK269.out 3).trans rfl,(blk_cell BK270.out 0).trans rfl,(blk_cell BK270.out 1).trans rfl,(blk_cell BK270.out 2).trans rfl,(blk_cell BK270.out 3).trans rfl⟩ (fun hHeld => ?_)
         clear hK K
         refine norm_ (a' := ?_) ?_ ?_
         rotate_left
         · show Act.put _ (some 18) _ = _
           simp only [Act.put,List.setIfInBounds_toArray,List.set_cons_zero,List.set_cons_succ,i64_w,i32_w]
           rfl
         refine one_ (i := 11) (N := some 19) #[true,true,true,true,true,true,true,true,true,true,true,true,false] rfl rfl (one_of HT_.out (by kernel_rfl)) (by decide) (fun K hK => ?_)
         refine goes_ Tryz.func80 (by kernel_rfl) rfl #[.slice Ao42 y273.length co42] (by rfl) rfl rfl (by (try simp only [List.map_toArray,List.map_cons,List.map_nil]); first | done | rfl | (simp only [List.length_drop,List.length_take]; rfl)) ?_
         with_reducible refine (cmp_Or_int.calls k _ _ y273 t276 _ ?side1 ?side2 A6.out).mono ?_
         (case side1 => repeat (first | exact (Kd.R_reads' HO275.out).2.2 | (with_reducible refine Kd.C_alloc ?_ _) | (with_reducible refine C_bytes ?_ _ _) | (with_reducible refine Kd.C_drewN ?_ _) | (with_reducible refine Kd.C_drew ?_)))
         (case side2 => exact (Kd.R_reads' HO275.out).2.1)
         rintro e w' ⟨rfl,⟨nd,rfl⟩⟩
         refine ⟨_,rfl,?_⟩
         refine hK.out _ _ ⟨(blk_cell BK269.out 0).trans rfl,(blk_cell BK269.out 1).trans rfl,(blk_cell BK269.out 2).trans rfl,(blk_cell BK269.out 3).trans rfl,(blk_cell BK270.out 0).trans rfl,(blk_cell BK270.out 1).trans rfl,(blk_cell BK270.out 2).trans rfl,(blk_cell BK270.out 3).trans rfl⟩ (fun hHeld => ?_)
         clear hK K
         refine norm_ (a' := ?_) ?_ ?_
         rotate_left
         · show Act.put _ (some 19) _ = _
           simp only [Act.put,List.setIfInBounds_toArray,List.set_cons_zero,List.set_cons_succ,i64_w,i32_w]
           rfl
         refine pure_ (i := 12) (N := some 7) (v := ?_) (a' := ?_) #[true,true,true,true,true,true,true,true,true,true,true,true,true] rfl rfl (any_of HT_.out (by kernel_rfl)) (fun _ _ _ h => h) (Or.inl ⟨by rfl,?_⟩) ?_ ?_
         rotate_left
         · intro w'
           go_simp
           with_reducible rfl
         rotate_left
         · simp only [Act.put,List.setIfInBounds_toArray,List.set_cons_zero,List.set_cons_succ,i64_w,i32_w]
           rfl
         refine done_ (done_of HT_.out (by kernel_rfl)) ?_
         have hnb43 := NB269_270.out
         have hnc43 := NB270_269.out
         have hcz44_0 : w40.cell? ⟨gb269,0,none⟩ = some (.int .i64 a1_0) := (blk_cell BK269.out 0).trans rfl
         have hcz44_1 : w40.cell? ⟨gb269,1,none⟩ = some (.int .i64 a1_1) := (blk_cell BK269.out 1).trans rfl
         have hcz44_2 : w40.cell? ⟨gb269,2,none⟩ = some (.bool true) := (blk_cell BK269.out 2).trans rfl
         have hcz44_3 : w40.cell? ⟨gb269,3,none⟩ = some (.string a1_3) := (blk_cell BK269.out 3).trans rfl
         have hfz44_0 := blk_frozen BK269.out 0
         have hfz44_1 := blk_frozen BK269.out 1
         have hfz44_2 := blk_frozen BK269.out 2
         have hfz44_3 := blk_frozen BK269.out 3
         try go_wp2
         go_ret
         exact ⟨by first | rfl | (simp [errW_none,errW_some] <;> rfl) | (simp [*,errW_none,errW_some] <;> rfl),by repeat (first | (with_reducible first | exact HB.out | apply below_alloc | apply pw_below_drewN | apply below_drew1 | apply bytes_below1 | refine below_set ?_ GE269.out | refine below_set ?_ GE270.out) | exact HB.out)⟩
       · replace c36 := Bool.eq_false_iff.mpr c36
         subst c36
         have H1 : (some a2_2) = some r := by rw [if_neg (show ¬ (false = true) by decide)] at H; exact H
         clear H
         have H := H1
         clear H1
         obtain rfl := Option.some.inj H
         go_enter Tryz.func53,Tryz.ntmps53
         try go_wp2_with (first | ((with_reducible refine gate_dst (N := 4) rfl ?_); refine box_event ?hg (N := 4) ?hd (cs := #[.int .i64 a1_0,.int .i64 a1_1,.bool false,.string a1_3]) (t := 23) ?hr ?_; (case hd => rfl); (case hg => rfl); (case hr => first | (go_simp; done) | (go_simp; rfl)); intro gb269 hg w45 hbox hb; have n0_ := Aside0.mk (below_step (by repeat (first | (with_reducible first | exact HB.out | apply below_alloc | apply pw_below_drewN | apply below_drew1 | apply bytes_below1) | exact HB.out)) hb); have n1_ := Aside0.mk (hbox); have n2_ := Aside0.mk ((by rw [hg]; exact (below_size (by repeat (first | (with_reducible first | exact HB.out | apply below_alloc | apply pw_below_drewN | apply below_drew1 | apply bytes_below1) | exact HB.out))) : w.heap.size ≤ gb269)); have n3_ := Aside0.mk ((by rw [hg]; exact (below_size (by repeat (first | (with_reducible first | exact HB.out | apply below_alloc | apply pw_below_drewN | apply below_drew1 | apply bytes_below1) | exact HB.out))) : w.heap.size ≤ gb269)); clear HB; have HB := n0_; have BK269 := n1_; have GW269 := n2_; have GE269 := n3_; clear n0_ n1_ n2_ n3_; clear hb hbox hg) | ((with_reducible refine gate_dst (N := 5) rfl ?_); refine box_event ?hg (N := 5) ?hd (cs := #[.int .i64 a2_0,.int .i64 a2_1,.bool a2_2,.string a2_3]) (t := 23) ?hr ?_; (case hd => rfl); (case hg => rfl); (case hr => first | (go_simp; done) | (go_simp; rfl)); intro gb270 hg w46 hbox hb; have n0_ := Aside0.mk (blk_below (g := gb269) (o := .cells #[.int .i64 a1_0,.int .i64 a1_1,.bool false,.string a1_3] 23 (0,0)) (by (with_reducible repeat (first | refine blk_bytes ?_ _ _ | refine blk_drewN ?_ _ | refine blk_drew ?_ | refine blk_alloc ?_ _)); exact BK269.out) hb); have n1_ := Aside0.mk (below_step (by repeat (first | (with_reducible first | exact HB.out | apply below_alloc | apply pw_below_drewN | apply below_drew1 | apply bytes_below1 | refine below_set ?_ GE269.out) | exact HB.out)) hb); have n2_ := Aside0.mk (hbox); have n3_ := Aside0.mk ((by rw [hg]; exact (below_size (by repeat (first | (with_reducible first | exact HB.out | apply below_alloc | apply pw_below_drewN | apply below_drew1 | apply bytes_below1 | refine below_set ?_ GE269.out) | exact HB.out))) : w.heap.size ≤ gb270)); have n4_ := Aside0.mk ((by rw [hg]; exact (below_size (by repeat (first | (with_reducible first | exact HB.out | apply below_alloc | apply pw_below_drewN | apply below_drew1 | apply bytes_below1 | refine below_set ?_ GE269.out) | exact HB.out))) : w.heap.size ≤ gb270)); have n5_ := Aside0.mk ((by rw [hg]; exact Nat.ne_of_lt (blk_lt (g := gb269) (o := .cells #[.int .i64 a1_0,.int .i64 a1_1,.bool false,.string a1_3] 23 (0,0)) (by (with_reducible repeat (first | refine blk_bytes ?_ _ _ | refine blk_drewN ?_ _ | refine blk_drew ?_ | refine blk_alloc ?_ _)); exact BK269.out)) : gb269 ≠ gb270)); have n6_ := Aside0.mk ((by rw [hg]; exact Nat.ne_of_gt (blk_lt (g := gb269) (o := .cells #[.int .i64 a1_0,.int .i64 a1_1,.bool false,.string a1_3] 23 (0,0)) (by (with_reducible repeat (first | refine blk_bytes ?_ _ _ | refine blk_drewN ?_ _ | refine blk_drew ?_ | refine blk_alloc ?_ _)); exact BK269.out)) : gb270 ≠ gb269)); clear BK269; clear HB; have BK269 := n0_; have HB := n1_; have BK270 := n2_; have GW270 := n3_; have GE270 := n4_; have NB269_270 := n5_; have NB270_269 := n6_; clear n0_ n1_ n2_ n3_ n4_ n5_ n6_; clear hb hbox hg))
         have n0_ := Aside0.mk (blk_drew BK269.out)
         have n1_ := Aside0.mk (blk_drew BK270.out)
         have n2_ := Aside0.mk (below_drew1 HB.out)
         clear BK269
         clear BK270
         clear HB
         have BK269 := n0_
         have BK270 := n1_
         have HB := n2_
         clear n0_ n1_ n2_
         refine start_ (n := 13) (S := fun w' => w'.cell? ⟨gb269,0,none⟩ = some (.int .i64 a1_0) ∧ w'.cell? ⟨gb269,1,none⟩ = some (.int .i64 a1_1) ∧ w'.cell? ⟨gb269,2,none⟩ = some (.bool false) ∧ w'.cell? ⟨gb269,3,none⟩ = some (.string a1_3) ∧ w'.cell? ⟨gb270,0,none⟩ = some (.int .i64 a2_0) ∧ w'.cell? ⟨gb270,1,none⟩ = some (.int .i64 a2_1) ∧ w'.cell? ⟨gb270,2,none⟩ = some (.bool a2_2) ∧ w'.cell? ⟨gb270,3,none⟩ = some (.string a2_3)) (ds := []) #[false,false,false,false,false,false,false,false,false,false,false,false,false] (by kernel_rfl) rfl rfl ⟨(blk_cell BK269.out 0).trans rfl,(blk_cell BK269.out 1).trans rfl,(blk_cell BK269.out 2).trans rfl,(blk_cell BK269.out 3).trans rfl,(blk_cell BK270.out 0).trans rfl,(blk_cell BK270.out 1).trans rfl,(blk_cell BK270.out 2).trans rfl,(blk_cell BK270.out 3).trans rfl⟩ (fun hHeld => ?_); refine with_tabW value_judge.tab1 value_judge.bits1 (fun HT_ HW_ => ?_)
         generalize w46.drew = w47 at BK269 BK270 HB hHeld ⊢
         refine pure_ (i := 0) (N := some 8) (v := ?_) (a' := ?_) #[true,false,false,false,false,false,false,false,false,false,false,false,false] rfl rfl (any_of HT_.out (by kernel_rfl)) (fun _ _ _ h => h) (Or.inl ⟨by rfl,?_⟩) ?_ ?_
         rotate_left
         · intro w'
           go_simp
           with_reducible rfl
         rotate_left
         · simp only [Act.put,List.setIfInBounds_toArray,List.set_cons_zero,List.set_cons_succ,i64_w,i32_w]
           rfl
         refine pure_ (i := 2) (N := some 10) (v := ?_) (a' := ?_) #[true,false,true,false,false,false,false,false,false,false,false,false,false] rfl rfl (any_of HT_.out (by kernel_rfl)) (fun _ _ _ h => h) (Or.inl ⟨by rfl,?_⟩) ?_ ?_
         rotate_left
         · intro w'
           go_simp
           with_reducible rfl
         rotate_left
         · simp only [Act.put,List.setIfInBounds_toArray,List.set_cons_zero,List.set_cons_succ,i64_w,i32_w]
           rfl
         refine pure_ (i := 5) (N := some 13) (v := ?_) (a' := ?_) #[true,false,true,false,false,true,false,false,false,false,false,false,false] rfl rfl (any_of HT_.out (by kernel_rfl)) (fun _ _ _ h => h) (Or.inl ⟨by rfl,?_⟩) ?_ ?_
         rotate_left
         · intro w'
           go_simp
           with_reducible rfl
         rotate_left
         · simp only [Act.put,List.setIfInBounds_toArray,List.set_cons_zero,List.set_cons_succ,i64_w,i32_w]
           rfl
         refine pure_ (i := 7) (N := some 15) (v := ?_) (a' := ?_) #[true,false,true,false,false,true,false,true,false,false,false,false,false] rfl rfl (any_of HT_.out (by kernel_rfl)) (fun _ _ _ h => h) (Or.inl ⟨by rfl,?_⟩) ?_ ?_
         rotate_left
         · intro w'
           go_simp
           with_reducible rfl
         rotate_left
         · simp only [Act.put,List.setIfInBounds_toArray,List.set_cons_zero,List.set_cons_succ,i64_w,i32_w]
           rfl
         refine take_ (i := 1) (N := some 9) (v := ?_) (a' := ?_) #[true,true,true,false,false,true,false,true,false,false,false,false,false] rfl rfl (take_ofW HT_.out HW_.out (by kernel_rfl)) (fun _ _ _ h => h) (Or.inl ⟨by rfl,?_⟩) hHeld ?_ ?_
         rotate_left
         · rintro w' ⟨s0,s1,s2,s3,s4,s5,s6,s7⟩
           go_simp
           with_reducible rfl
         rotate_left
         · simp only [Act.put,List.setIfInBounds_toArray,List.set_cons_zero,List.set_cons_succ,i64_w,i32_w]
           rfl
         refine take_ (i := 3) (N := some 11) (v := ?_) (a' := ?_) #[true,true,true,true,false,true,false,true,false,false,false,false,false] rfl rfl (take_ofW HT_.out HW_.out (by kernel_rfl)) (fun _ _ _ h => h) (Or.inl ⟨by rfl,?_⟩) hHeld ?_ ?_
         rotate_left
         · rintro w' ⟨s0,s1,s2,s3,s4,s5,s6,s7⟩
           go_simp
           with_reducible rfl
         rotate_left
         · simp only [Act.put,List.setIfInBounds_toArray,List.set_cons_zero,List.set_cons_succ,i64_w,i32_w]
           rfl
         refine take_ (i := 6) (N := some 14) (v := ?_) (a' := ?_) #[true,true,true,true,false,true,true,true,false,false,false,false,false] rfl rfl (take_ofW HT_.out HW_.out (by kernel_rfl)) (fun _ _ _ h => h) (Or.inl ⟨by rfl,?_⟩) hHeld ?_ ?_
         rotate_left
         · rintro w' ⟨s0,s1,s2,s3,s4,s5,s6,s7⟩
           go_simp
           with_reducible rfl
         rotate_left
         · simp only [Act.put,List.setIfInBounds_toArray,List.set_cons_zero,List.set_cons_succ,i64_w,i32_w]
           rfl
         refine take_ (i := 8) (N := some 16) (v := ?_) (a' := ?_) #[true,true,true,true,false,true,true,true,true,false,false,false,false] rfl rfl (take_ofW HT_.out HW_.out (by kernel_rfl)) (fun _ _ _ h => h) (Or.inl ⟨by rfl,?_⟩) hHeld ?_ ?_
         rotate_left
         · rintro w' ⟨s0,s1,s2,s3,s4,s5,s6,s7⟩
           go_simp
           with_reducible rfl
         rotate_left
         · simp only [Act.put,List.setIfInBounds_toArray,List.set_cons_zero,List.set_cons_succ,i64_w,i32_w]
           rfl
         refine one_ (i := 4) (N := some 12) #[true,true,true,true,true,true,true,true,true,false,false,false,false] rfl rfl (one_of HT_.out (by kernel_rfl)) (by decide) (fun K hK => ?_)
         refine goes_ Tryz.func81 (by kernel_rfl) rfl #[.int .i64 a1_1,.int .i64 a2_1] (by rfl) rfl rfl (by (try simp only [List.map_toArray,List.map_cons,List.map_nil]); first | done | rfl | (simp only [List.length_drop,List.length_take]; rfl)) ?_
         with_reducible refine (cmp_Compare_int.calls a1_1 a2_1 t271 _ A4.out).mono ?_
         rintro e w' ⟨rfl,⟨nd,rfl⟩⟩
         refine ⟨_,rfl,?_⟩
         refine hK.out _ _ ⟨(blk_cell BK269.out 0).trans rfl,(blk_cell BK269.out 1).trans rfl,(blk_cell BK269.out 2).trans rfl,(blk_cell BK269.out 3).trans rfl,(blk_cell BK270.out 0).trans rfl,(blk_cell BK270.out 1).trans rfl,(blk_cell BK270.out 2).trans rfl,(blk_cell BK270.out 3).trans rfl⟩ (fun hHeld => ?_)
         clear hK K
         refine norm_ (a' := ?_) ?_ ?_
         rotate_left
         · show Act.put _ (some 12) _ = _
           simp only [Act.put,List.setIfInBounds_toArray,List.set_cons_zero,List.set_cons_succ,i64_w,i32_w]
           rfl
         refine one_ (i := 9) (N := some 17) #[true,true,true,true,true,true,true,true,true,true,false,false,false] rfl rfl (one_of HT_.out (by kernel_rfl)) (by decide) (fun K hK => ?_)
         refine goes_ Tryz.func82 (by kernel_rfl) rfl #[.string a1_3,.string a2_3] (by rfl) rfl rfl (by (try simp only [List.map_toArray,List.map_cons,List.map_nil]); first | done | rfl | (simp only [List.length_drop,List.length_take]; rfl)) ?_
         with_reducible refine (strings_Compare.calls a1_3 a2_3 t272 _ A5.out).mono ?_
         rintro e w' ⟨rfl,⟨nd,rfl⟩⟩
         refine ⟨_,rfl,?_⟩
         refine hK.out _ _ ⟨(blk_cell BK269.out 0).trans rfl,(blk_cell BK269.out 1).trans rfl,(blk_cell BK269.out 2).trans rfl,(blk_cell BK269.out 3).trans rfl,(blk_cell BK270.out 0).trans rfl,(blk_cell BK270.out 1).trans rfl,(blk_cell BK270.out 2).trans rfl,(blk_cell BK270.out 3).trans rfl⟩ (fun hHeld => ?_)
         clear hK K
         refine norm_ (a' := ?_) ?_ ?_
         rotate_left
         · show Act.put _ (some 17) _ = _
           simp only [Act.put,List.setIfInBounds_toArray,List.set_cons_zero,List.set_cons_succ,i64_w,i32_w]
           rfl
         refine one_ (i := 10) (N := some 18) #[true,true,true,true,true,true,true,true,true,true,true,false,false] rfl rfl (one_of HT_.out (by kernel_rfl)) (by decide) (fun K hK => ?_)
         refine Kd.R_lit_step (Kd.int .i64) _ 3 ?hg (N := 18) ?hd (xs := ([t271,t272] : List Int)) (inner := [.int .i64 t271,.int .i64 t272]) (ok := fun _ => True) (okp := fun _ => True) ?hr ?hp (fun _ hk => hk) trivial (Below.refl _ _) (Nat.le_refl _) (by simp) ?_; (case hd => rfl); (case hg => rfl); (case hr => first | (go_simp; done) | (go_simp; rfl)); (case hp => exact (Reps.one (show Kd.M (Kd.int .i64) _ _ _ t271 [.int .i64 t271] from rfl) (Reps.one (show Kd.M (Kd.int .i64) _ _ _ t272 [.int .i64 t272] from rfl) (Reps.none _ _))))
         intro v274 w48 ho49 hb hg_ hnew_
         clear hg_ hnew_
         (first | rw [← Ny273.out] at ho49 | (simp only [Int.reduceToNat] at ho49; rw [← Ny273.out] at ho49))
         have n0_ := Aside0.mk (Kd.R_lower ho49 (below_size (by repeat (first | (with_reducible first | exact HB.out | apply below_alloc | apply pw_below_drewN | apply below_drew1 | apply bytes_below1 | refine below_set ?_ GE269.out | refine below_set ?_ GE270.out) | exact HB.out))))
         have n1_ := Aside0.mk (blk_below (g := gb269) (o := .cells #[.int .i64 a1_0,.int .i64 a1_1,.bool false,.string a1_3] 23 (0,0)) (by (with_reducible repeat (first | refine blk_bytes ?_ _ _ | refine blk_drewN ?_ _ | refine blk_drew ?_ | refine blk_alloc ?_ _)); exact BK269.out) hb)
         have n2_ := Aside0.mk (blk_below (g := gb270) (o := .cells #[.int .i64 a2_0,.int .i64 a2_1,.bool a2_2,.string a2_3] 23 (0,0)) (by (with_reducible repeat (first | refine blk_bytes ?_ _ _ | refine blk_drewN ?_ _ | refine blk_drew ?_ | refine blk_alloc ?_ _)); exact BK270.out) hb)
         have n3_ := Aside0.mk (below_step (by repeat (first | (with_reducible first | exact HB.out | apply below_alloc | apply pw_below_drewN | apply below_drew1 | apply bytes_below1 | refine below_set ?_ GE269.out | refine below_set ?_ GE270.out) | exact HB.out)) hb)
         clear BK269
         clear BK270
         clear HB
         have HO275 := n0_
         have BK269 := n1_
         have BK270 := n2_
         have HB := n3_
         clear n0_ n1_ n2_ n3_
         clear hb ho49
         obtain ⟨Ao50,co50,eo50⟩ := Kd.R_slice HO275.out
         (first | subst eo50 | (injection eo50 with f1_ f2_ f3_; have f4_ := f1_.symm; have f5_ := f3_.symm; clear f1_ f2_ f3_; subst f4_; subst f5_))
         refine hK.out _ _ ⟨(blk_cell BK269.out 0).trans rfl,(blk_cell BK269.out 1).trans rfl,(blk_cell BK269.out 2).trans rfl,(blk_cell BK269.out 3).trans rfl,(blk_cell BK270.out 0).trans rfl,(blk_cell BK270.out 1).trans rfl,(blk_cell BK270.out 2).trans rfl,(blk_cell BK270.out 3).trans rfl⟩ (fun hHeld => ?_)
         clear hK K
         refine norm_ (a' := ?_) ?_ ?_
         rotate_left
         · show Act.put _ (some 18) _ = _
           simp only [Act.put,List.setIfInBounds_toArray,List.set_cons_zero,List.set_cons_succ,i64_w,i32_w]
           rfl
         refine one_ (i := 11) (N := some 19) #[true,true,true,true,true,true,true,true,true,true,true,true,false] rfl rfl (one_of HT_.out (by kernel_rfl)) (by decide) (fun K hK => ?_)
         refine goes_ Tryz.func80 (by kernel_rfl) rfl #[.slice Ao50 y273.length co50] (by rfl) rfl rfl (by (try simp only [List.map_toArray,List.map_cons,List.map_nil]); first | done | rfl | (simp only [List.length_drop,List.length_take]; rfl)) ?_
         with_reducible refine (cmp_Or_int.calls k _ _ y273 t276 _ ?side1 ?side2 A6.out).mono ?_
         (case side1 => repeat (first | exact (Kd.R_reads' HO275.out).2.2 | (with_reducible refine Kd.C_alloc ?_ _) | (with_reducible refine C_bytes ?_ _ _) | (with_reducible refine Kd.C_drewN ?_ _) | (with_reducible refine Kd.C_drew ?_)))
         (case side2 => exact (Kd.R_reads' HO275.out).2.1)
         rintro e w' ⟨rfl,⟨nd,rfl⟩⟩
         refine ⟨_,rfl,?_⟩
         refine hK.out _ _ ⟨(blk_cell BK269.out 0).trans rfl,(blk_cell BK269.out 1).trans rfl,(blk_cell BK269.out 2).trans rfl,(blk_cell BK269.out 3).trans rfl,(blk_cell BK270.out 0).trans rfl,(blk_cell BK270.out 1).trans rfl,(blk_cell BK270.out 2).trans rfl,(blk_cell BK270.out 3).trans rfl⟩ (fun hHeld => ?_)
         clear hK K
         refine norm_ (a' := ?_) ?_ ?_
         rotate_left
         · show Act.put _ (some 19) _ = _
           simp only [Act.put,List.setIfInBounds_toArray,List.set_cons_zero,List.set_cons_succ,i64_w,i32_w]
           rfl
         refine pure_ (i := 12) (N := some 7) (v := ?_) (a' := ?_) #[true,true,true,true,true,true,true,true,true,true,true,true,true] rfl rfl (any_of HT_.out (by kernel_rfl)) (fun _ _ _ h => h) (Or.inl ⟨by rfl,?_⟩) ?_ ?_
         rotate_left
         · intro w'
           go_simp
           with_reducible rfl
         rotate_left
         · simp only [Act.put,List.setIfInBounds_toArray,List.set_cons_zero,List.set_cons_succ,i64_w,i32_w]
           rfl
         refine done_ (done_of HT_.out (by kernel_rfl)) ?_
         have hnb51 := NB269_270.out
         have hnc51 := NB270_269.out
         have hcz52_0 : w48.cell? ⟨gb269,0,none⟩ = some (.int .i64 a1_0) := (blk_cell BK269.out 0).trans rfl
         have hcz52_1 : w48.cell? ⟨gb269,1,none⟩ = some (.int .i64 a1_1) := (blk_cell BK269.out 1).trans rfl
         have hcz52_2 : w48.cell? ⟨gb269,2,none⟩ = some (.bool false) := (blk_cell BK269.out 2).trans rfl
         have hcz52_3 : w48.cell? ⟨gb269,3,none⟩ = some (.string a1_3) := (blk_cell BK269.out 3).trans rfl
         have hfz52_0 := blk_frozen BK269.out 0
         have hfz52_1 := blk_frozen BK269.out 1
         have hfz52_2 := blk_frozen BK269.out 2
         have hfz52_3 := blk_frozen BK269.out 3
         have hcz53_0 : w48.cell? ⟨gb270,0,none⟩ = some (.int .i64 a2_0) := (blk_cell BK270.out 0).trans rfl
         have hcz53_1 : w48.cell? ⟨gb270,1,none⟩ = some (.int .i64 a2_1) := (blk_cell BK270.out 1).trans rfl
         have hcz53_2 : w48.cell? ⟨gb270,2,none⟩ = some (.bool a2_2) := (blk_cell BK270.out 2).trans rfl
         have hcz53_3 : w48.cell? ⟨gb270,3,none⟩ = some (.string a2_3) := (blk_cell BK270.out 3).trans rfl
         have hfz53_0 := blk_frozen BK270.out 0
         have hfz53_1 := blk_frozen BK270.out 1
         have hfz53_2 := blk_frozen BK270.out 2
         have hfz53_3 := blk_frozen BK270.out 3
         try go_wp2
         go_ret
         exact ⟨by first | rfl | (simp [errW_none,errW_some] <;> rfl) | (simp [*,errW_none,errW_some] <;> rfl),by repeat (first | (with_reducible first | exact HB.out | apply below_alloc | apply pw_below_drewN | apply below_drew1 | apply bytes_below1 | refine below_set ?_ GE269.out | refine below_set ?_ GE270.out) | exact HB.out)⟩
     · rw [if_neg c35] at H
       have c35b0 : (a0 == 19) = false := beq_eq_false_iff_ne.mpr c35
       have c35b1 : (a0 != 19) = true := bne_iff_ne.mpr c35
       by_cases c54 : a0 = 16
       · rw [if_pos c54] at H
         have c54b0 : (a0 == 16) = true := beq_iff_eq.mpr c54
         have c54b1 : (a0 != 16) = false := bne_eq_false_iff_eq.mpr c54
         clear c54
         obtain rfl := Option.some.inj H
         go_enter Tryz.func53,Tryz.ntmps53
         try go_wp2_with (first | ((with_reducible refine gate_dst (N := 4) rfl ?_); refine box_event ?hg (N := 4) ?hd (cs := #[.int .i64 a1_0,.int .i64 a1_1,.bool a1_2,.string a1_3]) (t := 23) ?hr ?_; (case hd => rfl); (case hg => rfl); (case hr => first | (go_simp; done) | (go_simp; rfl)); intro gb269 hg w55 hbox hb; have n0_ := Aside0.mk (below_step (by repeat (first | (with_reducible first | exact HB.out | apply below_alloc | apply pw_below_drewN | apply below_drew1 | apply bytes_below1) | exact HB.out)) hb); have n1_ := Aside0.mk (hbox); have n2_ := Aside0.mk ((by rw [hg]; exact (below_size (by repeat (first | (with_reducible first | exact HB.out | apply below_alloc | apply pw_below_drewN | apply below_drew1 | apply bytes_below1) | exact HB.out))) : w.heap.size ≤ gb269)); have n3_ := Aside0.mk ((by rw [hg]; exact (below_size (by repeat (first | (with_reducible first | exact HB.out | apply below_alloc | apply pw_below_drewN | apply below_drew1 | apply bytes_below1) | exact HB.out))) : w.heap.size ≤ gb269)); clear HB; have HB := n0_; have BK269 := n1_; have GW269 := n2_; have GE269 := n3_; clear n0_ n1_ n2_ n3_; clear hb hbox hg) | ((with_reducible refine gate_dst (N := 5) rfl ?_); refine box_event ?hg (N := 5) ?hd (cs := #[.int .i64 a2_0,.int .i64 a2_1,.bool a2_2,.string a2_3]) (t := 23) ?hr ?_; (case hd => rfl); (case hg => rfl); (case hr => first | (go_simp; done) | (go_simp; rfl)); intro gb270 hg w56 hbox hb; have n0_ := Aside0.mk (blk_below (g := gb269) (o := .cells #[.int .i64 a1_0,.int .i64 a1_1,.bool a1_2,.string a1_3] 23 (0,0)) (by (with_reducible repeat (first | refine blk_bytes ?_ _ _ | refine blk_drewN ?_ _ | refine blk_drew ?_ | refine blk_alloc ?_ _)); exact BK269.out) hb); have n1_ := Aside0.mk (below_step (by repeat (first | (with_reducible first | exact HB.out | apply below_alloc | apply pw_below_drewN | apply below_drew1 | apply bytes_below1 | refine below_set ?_ GE269.out) | exact HB.out)) hb); have n2_ := Aside0.mk (hbox); have n3_ := Aside0.mk ((by rw [hg]; exact (below_size (by repeat (first | (with_reducible first | exact HB.out | apply below_alloc | apply pw_below_drewN | apply below_drew1 | apply bytes_below1 | refine below_set ?_ GE269.out) | exact HB.out))) : w.heap.size ≤ gb270)); have n4_ := Aside0.mk ((by rw [hg]; exact (below_size (by repeat (first | (with_reducible first | exact HB.out | apply below_alloc | apply pw_below_drewN | apply below_drew1 | apply bytes_below1 | refine below_set ?_ GE269.out) | exact HB.out))) : w.heap.size ≤ gb270)); have n5_ := Aside0.mk ((by rw [hg]; exact Nat.ne_of_lt (blk_lt (g := gb269) (o := .cells #[.int .i64 a1_0,.int .i64 a1_1,.bool a1_2,.string a1_3] 23 (0,0)) (by (with_reducible repeat (first | refine blk_bytes ?_ _ _ | refine blk_drewN ?_ _ | refine blk_drew ?_ | refine blk_alloc ?_ _)); exact BK269.out)) : gb269 ≠ gb270)); have n6_ := Aside0.mk ((by rw [hg]; exact Nat.ne_of_gt (blk_lt (g := gb269) (o := .cells #[.int .i64 a1_0,.int .i64 a1_1,.bool a1_2,.string a1_3] 23 (0,0)) (by (with_reducible repeat (first | refine blk_bytes ?_ _ _ | refine blk_drewN ?_ _ | refine blk_drew ?_ | refine blk_alloc ?_ _)); exact BK269.out)) : gb270 ≠ gb269)); clear BK269; clear HB; have BK269 := n0_; have HB := n1_; have BK270 := n2_; have GW270 := n3_; have GE270 := n4_; have NB269_270 := n5_; have NB270_269 := n6_; clear n0_ n1_ n2_ n3_ n4_ n5_ n6_; clear hb hbox hg))
         have n0_ := Aside0.mk (blk_drew BK269.out)
         have n1_ := Aside0.mk (blk_drew BK270.out)
         have n2_ := Aside0.mk (below_drew1 HB.out)
         clear BK269
         clear BK270
         clear HB
         have BK269 := n0_
         have BK270 := n1_
         have HB := n2_
         clear n0_ n1_ n2_
         refine start_ (n := 13) (S := fun w' => w'.cell? ⟨gb269,0,none⟩ = some (.int .i64 a1_0) ∧ w'.cell? ⟨gb269,1,none⟩ = some (.int .i64 a1_1) ∧ w'.cell? ⟨gb269,2,none⟩ = some (.bool a1_2) ∧ w'.cell? ⟨gb269,3,none⟩ = some (.string a1_3) ∧ w'.cell? ⟨gb270,0,none⟩ = some (.int .i64 a2_0) ∧ w'.cell? ⟨gb270,1,none⟩ = some (.int .i64 a2_1) ∧ w'.cell? ⟨gb270,2,none⟩ = some (.bool a2_2) ∧ w'.cell? ⟨gb270,3,none⟩ = some (.string a2_3)) (ds := []) #[false,false,false,false,false,false,false,false,false,false,false,false,false] (by kernel_rfl) rfl rfl ⟨(blk_cell BK269.out 0).trans rfl,(blk_cell BK269.out 1).trans rfl,(blk_cell BK269.out 2).trans rfl,(blk_cell BK269.out 3).trans rfl,(blk_cell BK270.out 0).trans rfl,(blk_cell BK270.out 1).trans rfl,(blk_cell BK270.out 2).trans rfl,(blk_cell BK270.out 3).trans rfl⟩ (fun hHeld => ?_); refine with_tabW value_judge.tab1 value_judge.bits1 (fun HT_ HW_ => ?_)
         generalize w56.drew = w57 at BK269 BK270 HB hHeld ⊢
         refine pure_ (i := 0) (N := some 8) (v := ?_) (a' := ?_) #[true,false,false,false,false,false,false,false,false,false,false,false,false] rfl rfl (any_of HT_.out (by kernel_rfl)) (fun _ _ _ h => h) (Or.inl ⟨by rfl,?_⟩) ?_ ?_
         rotate_left
         · intro w'
           go_simp
           with_reducible rfl
         rotate_left
         · simp only [Act.put,List.setIfInBounds_toArray,List.set_cons_zero,List.set_cons_succ,i64_w,i32_w]
           rfl
         refine pure_ (i := 2) (N := some 10) (v := ?_) (a' := ?_) #[true,false,true,false,false,false,false,false,false,false,false,false,false] rfl rfl (any_of HT_.out (by kernel_rfl)) (fun _ _ _ h => h) (Or.inl ⟨by rfl,?_⟩) ?_ ?_
         rotate_left
         · intro w'
           go_simp
           with_reducible rfl
         rotate_left
         · simp only [Act.put,List.setIfInBounds_toArray,List.set_cons_zero,List.set_cons_succ,i64_w,i32_w]
           rfl
         refine pure_ (i := 5) (N := some 13) (v := ?_) (a' := ?_) #[true,false,true,false,false,true,false,false,false,false,false,false,false] rfl rfl (any_of HT_.out (by kernel_rfl)) (fun _ _ _ h => h) (Or.inl ⟨by rfl,?_⟩) ?_ ?_
         rotate_left
         · intro w'
           go_simp
           with_reducible rfl
         rotate_left
         · simp only [Act.put,List.setIfInBounds_toArray,List.set_cons_zero,List.set_cons_succ,i64_w,i32_w]
           rfl
         refine pure_ (i := 7) (N := some 15) (v := ?_) (a' := ?_) #[true,false,true,false,false,true,false,true,false,false,false,false,false] rfl rfl (any_of HT_.out (by kernel_rfl)) (fun _ _ _ h => h) (Or.inl ⟨by rfl,?_⟩) ?_ ?_
         rotate_left
         · intro w'
           go_simp
           with_reducible rfl
         rotate_left
         · simp only [Act.put,List.setIfInBounds_toArray,List.set_cons_zero,List.set_cons_succ,i64_w,i32_w]
           rfl
         refine take_ (i := 1) (N := some 9) (v := ?_) (a' := ?_) #[true,true,true,false,false,true,false,true,false,false,false,false,false] rfl rfl (take_ofW HT_.out HW_.out (by kernel_rfl)) (fun _ _ _ h => h) (Or.inl ⟨by rfl,?_⟩) hHeld ?_ ?_
         rotate_left
         · rintro w' ⟨s0,s1,s2,s3,s4,s5,s6,s7⟩
           go_simp
           with_reducible rfl
         rotate_left
         · simp only [Act.put,List.setIfInBounds_toArray,List.set_cons_zero,List.set_cons_succ,i64_w,i32_w]
           rfl
         refine take_ (i := 3) (N := some 11) (v := ?_) (a' := ?_) #[true,true,true,true,false,true,false,true,false,false,false,false,false] rfl rfl (take_ofW HT_.out HW_.out (by kernel_rfl)) (fun _ _ _ h => h) (Or.inl ⟨by rfl,?_⟩) hHeld ?_ ?_
         rotate_left
         · rintro w' ⟨s0,s1,s2,s3,s4,s5,s6,s7⟩
           go_simp
           with_reducible rfl
         rotate_left
         · simp only [Act.put,List.setIfInBounds_toArray,List.set_cons_zero,List.set_cons_succ,i64_w,i32_w]
           rfl
         refine take_ (i := 6) (N := some 14) (v := ?_) (a' := ?_) #[true,true,true,true,false,true,true,true,false,false,false,false,false] rfl rfl (take_ofW HT_.out HW_.out (by kernel_rfl)) (fun _ _ _ h => h) (Or.inl ⟨by rfl,?_⟩) hHeld ?_ ?_
         rotate_left
         · rintro w' ⟨s0,s1,s2,s3,s4,s5,s6,s7⟩
           go_simp
           with_reducible rfl
         rotate_left
         · simp only [Act.put,List.setIfInBounds_toArray,List.set_cons_zero,List.set_cons_succ,i64_w,i32_w]
           rfl
         refine take_ (i := 8) (N := some 16) (v := ?_) (a' := ?_) #[true,true,true,true,false,true,true,true,true,false,false,false,false] rfl rfl (take_ofW HT_.out HW_.out (by kernel_rfl)) (fun _ _ _ h => h) (Or.inl ⟨by rfl,?_⟩) hHeld ?_ ?_
         rotate_left
         · rintro w' ⟨s0,s1,s2,s3,s4,s5,s6,s7⟩
           go_simp
           with_reducible rfl
         rotate_left
         · simp only [Act.put,List.setIfInBounds_toArray,List.set_cons_zero,List.set_cons_succ,i64_w,i32_w]
           rfl
         refine one_ (i := 4) (N := some 12) #[true,true,true,true,true,true,true,true,true,false,false,false,false] rfl rfl (one_of HT_.out (by kernel_rfl)) (by decide) (fun K hK => ?_)
         refine goes_ Tryz.func81 (by kernel_rfl) rfl #[.int .i64 a1_1,.int .i64 a2_1] (by rfl) rfl rfl (by (try simp only [List.map_toArray,List.map_cons,List.map_nil]); first | done | rfl | (simp only [List.length_drop,List.length_take]; rfl)) ?_
         with_reducible refine (cmp_Compare_int.calls a1_1 a2_1 t271 _ A4.out).mono ?_
         rintro e w' ⟨rfl,⟨nd,rfl⟩⟩
         refine ⟨_,rfl,?_⟩
         refine hK.out _ _ ⟨(blk_cell BK269.out 0).trans rfl,(blk_cell BK269.out 1).trans rfl,(blk_cell BK269.out 2).trans rfl,(blk_cell BK269.out 3).trans rfl,(blk_cell BK270.out 0).trans rfl,(blk_cell BK270.out 1).trans rfl,(blk_cell BK270.out 2).trans rfl,(blk_cell BK270.out 3).trans rfl⟩ (fun hHeld => ?_)
         clear hK K
         refine norm_ (a' := ?_) ?_ ?_
         rotate_left
         · show Act.put _ (some 12) _ = _
           simp only [Act.put,List.setIfInBounds_toArray,List.set_cons_zero,List.set_cons_succ,i64_w,i32_w]
           rfl
         refine one_ (i := 9) (N := some 17) #[true,true,true,true,true,true,true,true,true,true,false,false,false] rfl rfl (one_of HT_.out (by kernel_rfl)) (by decide) (fun K hK => ?_)
         refine goes_ Tryz.func82 (by kernel_rfl) rfl #[.string a1_3,.string a2_3] (by rfl) rfl rfl (by (try simp only [List.map_toArray,List.map_cons,List.map_nil]); first | done | rfl | (simp only [List.length_drop,List.length_take]; rfl)) ?_
         with_reducible refine (strings_Compare.calls a1_3 a2_3 t272 _ A5.out).mono ?_
         rintro e w' ⟨rfl,⟨nd,rfl⟩⟩
         refine ⟨_,rfl,?_⟩
         refine hK.out _ _ ⟨(blk_cell BK269.out 0).trans rfl,(blk_cell BK269.out 1).trans rfl,(blk_cell BK269.out 2).trans rfl,(blk_cell BK269.out 3).trans rfl,(blk_cell BK270.out 0).trans rfl,(blk_cell BK270.out 1).trans rfl,(blk_cell BK270.out 2).trans rfl,(blk_cell BK270.out 3).trans rfl⟩ (fun hHeld => ?_)
         clear hK K
         refine norm_ (a' := ?_) ?_ ?_
         rotate_left
         · show Act.put _ (some 17) _ = _
           simp only [Act.put,List.setIfInBounds_toArray,List.set_cons_zero,List.set_cons_succ,i64_w,i32_w]
           rfl
         refine one_ (i := 10) (N := some 18) #[true,true,true,true,true,true,true,true,true,true,true,false,false] rfl rfl (one_of HT_.out (by kernel_rfl)) (by decide) (fun K hK => ?_)
         refine Kd.R_lit_step (Kd.int .i64) _ 3 ?hg (N := 18) ?hd (xs := ([t271,t272] : List Int)) (inner := [.int .i64 t271,.int .i64 t272]) (ok := fun _ => True) (okp := fun _ => True) ?hr ?hp (fun _ hk => hk) trivial (Below.refl _ _) (Nat.le_refl _) (by simp) ?_; (case hd => rfl); (case hg => rfl); (case hr => first | (go_simp; done) | (go_simp; rfl)); (case hp => exact (Reps.one (show Kd.M (Kd.int .i64) _ _ _ t271 [.int .i64 t271] from rfl) (Reps.one (show Kd.M (Kd.int .i64) _ _ _ t272 [.int .i64 t272] from rfl) (Reps.none _ _))))
         intro v274 w58 ho59 hb hg_ hnew_
         clear hg_ hnew_
         (first | rw [← Ny273.out] at ho59 | (simp only [Int.reduceToNat] at ho59; rw [← Ny273.out] at ho59))
         have n0_ := Aside0.mk (Kd.R_lower ho59 (below_size (by repeat (first | (with_reducible first | exact HB.out | apply below_alloc | apply pw_below_drewN | apply below_drew1 | apply bytes_below1 | refine below_set ?_ GE269.out | refine below_set ?_ GE270.out) | exact HB.out))))
         have n1_ := Aside0.mk (blk_below (g := gb269) (o := .cells #[.int .i64 a1_0,.int .i64 a1_1,.bool a1_2,.string a1_3] 23 (0,0)) (by (with_reducible repeat (first | refine blk_bytes ?_ _ _ | refine blk_drewN ?_ _ | refine blk_drew ?_ | refine blk_alloc ?_ _)); exact BK269.out) hb)
         have n2_ := Aside0.mk (blk_below (g := gb270) (o := .cells #[.int .i64 a2_0,.int .i64 a2_1,.bool a2_2,.string a2_3] 23 (0,0)) (by (with_reducible repeat (first | refine blk_bytes ?_ _ _ | refine blk_drewN ?_ _ | refine blk_drew ?_ | refine blk_alloc ?_ _)); exact BK270.out) hb)
         have n3_ := Aside0.mk (below_step (by repeat (first | (with_reducible first | exact HB.out | apply below_alloc | apply pw_below_drewN | apply below_drew1 | apply bytes_below1 | refine below_set ?_ GE269.out | refine below_set ?_ GE270.out) | exact HB.out)) hb)
         clear BK269
         clear BK270
         clear HB
         have HO275 := n0_
         have BK269 := n1_
         have BK270 := n2_
         have HB := n3_
         clear n0_ n1_ n2_ n3_
         clear hb ho59
         obtain ⟨Ao60,co60,eo60⟩ := Kd.R_slice HO275.out
         (first | subst eo60 | (injection eo60 with f1_ f2_ f3_; have f4_ := f1_.symm; have f5_ := f3_.symm; clear f1_ f2_ f3_; subst f4_; subst f5_))
         refine hK.out _ _ ⟨(blk_cell BK269.out 0).trans rfl,(blk_cell BK269.out 1).trans rfl,(blk_cell BK269.out 2).trans rfl,(blk_cell BK269.out 3).trans rfl,(blk_cell BK270.out 0).trans rfl,(blk_cell BK270.out 1).trans rfl,(blk_cell BK270.out 2).trans rfl,(blk_cell BK270.out 3).trans rfl⟩ (fun hHeld => ?_)
         clear hK K
         refine norm_ (a' := ?_) ?_ ?_
         rotate_left
         · show Act.put _ (some 18) _ = _
           simp only [Act.put,List.setIfInBounds_toArray,List.set_cons_zero,List.set_cons_succ,i64_w,i32_w]
           rfl
         refine one_ (i := 11) (N := some 19) #[true,true,true,true,true,true,true,true,true,true,true,true,false] rfl rfl (one_of HT_.out (by kernel_rfl)) (by decide) (fun K hK => ?_)
         refine goes_ Tryz.func80 (by kernel_rfl) rfl #[.slice Ao60 y273.length co60] (by rfl) rfl rfl (by (try simp only [List.map_toArray,List.map_cons,List.map_nil]); first | done | rfl | (simp only [List.length_drop,List.length_take]; rfl)) ?_
         with_reducible refine (cmp_Or_int.calls k _ _ y273 t276 _ ?side1 ?side2 A6.out).mono ?_
         (case side1 => repeat (first | exact (Kd.R_reads' HO275.out).2.2 | (with_reducible refine Kd.C_alloc ?_ _) | (with_reducible refine C_bytes ?_ _ _) | (with_reducible refine Kd.C_drewN ?_ _) | (with_reducible refine Kd.C_drew ?_)))
         (case side2 => exact (Kd.R_reads' HO275.out).2.1)
         rintro e w' ⟨rfl,⟨nd,rfl⟩⟩
         refine ⟨_,rfl,?_⟩
         refine hK.out _ _ ⟨(blk_cell BK269.out 0).trans rfl,(blk_cell BK269.out 1).trans rfl,(blk_cell BK269.out 2).trans rfl,(blk_cell BK269.out 3).trans rfl,(blk_cell BK270.out 0).trans rfl,(blk_cell BK270.out 1).trans rfl,(blk_cell BK270.out 2).trans rfl,(blk_cell BK270.out 3).trans rfl⟩ (fun hHeld => ?_)
         clear hK K
         refine norm_ (a' := ?_) ?_ ?_
         rotate_left
         · show Act.put _ (some 19) _ = _
           simp only [Act.put,List.setIfInBounds_toArray,List.set_cons_zero,List.set_cons_succ,i64_w,i32_w]
           rfl
         refine pure_ (i := 12) (N := some 7) (v := ?_) (a' := ?_) #[true,true,true,true,true,true,true,true,true,true,true,true,true] rfl rfl (any_of HT_.out (by kernel_rfl)) (fun _ _ _ h => h) (Or.inl ⟨by rfl,?_⟩) ?_ ?_
         rotate_left
         · intro w'
           go_simp
           with_reducible rfl
         rotate_left
         · simp only [Act.put,List.setIfInBounds_toArray,List.set_cons_zero,List.set_cons_succ,i64_w,i32_w]
           rfl
         refine done_ (done_of HT_.out (by kernel_rfl)) ?_
         have hnb61 := NB269_270.out
         have hnc61 := NB270_269.out
         have hcz62_0 : w58.cell? ⟨gb269,0,none⟩ = some (.int .i64 a1_0) := (blk_cell BK269.out 0).trans rfl
         have hcz62_1 : w58.cell? ⟨gb269,1,none⟩ = some (.int .i64 a1_1) := (blk_cell BK269.out 1).trans rfl
         have hcz62_2 : w58.cell? ⟨gb269,2,none⟩ = some (.bool a1_2) := (blk_cell BK269.out 2).trans rfl
         have hcz62_3 : w58.cell? ⟨gb269,3,none⟩ = some (.string a1_3) := (blk_cell BK269.out 3).trans rfl
         have hfz62_0 := blk_frozen BK269.out 0
         have hfz62_1 := blk_frozen BK269.out 1
         have hfz62_2 := blk_frozen BK269.out 2
         have hfz62_3 := blk_frozen BK269.out 3
         have hcz63_0 : w58.cell? ⟨gb270,0,none⟩ = some (.int .i64 a2_0) := (blk_cell BK270.out 0).trans rfl
         have hcz63_1 : w58.cell? ⟨gb270,1,none⟩ = some (.int .i64 a2_1) := (blk_cell BK270.out 1).trans rfl
         have hcz63_2 : w58.cell? ⟨gb270,2,none⟩ = some (.bool a2_2) := (blk_cell BK270.out 2).trans rfl
         have hcz63_3 : w58.cell? ⟨gb270,3,none⟩ = some (.string a2_3) := (blk_cell BK270.out 3).trans rfl
         have hfz63_0 := blk_frozen BK270.out 0
         have hfz63_1 := blk_frozen BK270.out 1
         have hfz63_2 := blk_frozen BK270.out 2
         have hfz63_3 := blk_frozen BK270.out 3
         try go_wp2
         go_ret
         exact ⟨by first | rfl | (simp [errW_none,errW_some] <;> rfl) | (simp [*,errW_none,errW_some] <;> rfl),by repeat (first | (with_reducible first | exact HB.out | apply below_alloc | apply pw_below_drewN | apply below_drew1 | apply bytes_below1 | refine below_set ?_ GE269.out | refine below_set ?_ GE270.out) | exact HB.out)⟩
       · rw [if_neg c54] at H
         have c54b0 : (a0 == 16) = false := beq_eq_false_iff_ne.mpr c54
         have c54b1 : (a0 != 16) = true := bne_iff_ne.mpr c54
         by_cases c64 : a0 = 17
         · rw [if_pos c64] at H
           have c64b0 : (a0 == 17) = true := beq_iff_eq.mpr c64
           have c64b1 : (a0 != 17) = false := bne_eq_false_iff_eq.mpr c64
           clear c64
           obtain rfl := Option.some.inj H
           go_enter Tryz.func53,Tryz.ntmps53
           try go_wp2_with (first | ((with_reducible refine gate_dst (N := 4) rfl ?_); refine box_event ?hg (N := 4) ?hd (cs := #[.int .i64 a1_0,.int .i64 a1_1,.bool a1_2,.string a1_3]) (t := 23) ?hr ?_; (case hd => rfl); (case hg => rfl); (case hr => first | (go_simp; done) | (go_simp; rfl)); intro gb269 hg w65 hbox hb; have n0_ := Aside0.mk (below_step (by repeat (first | (with_reducible first | exact HB.out | apply below_alloc | apply pw_below_drewN | apply below_drew1 | apply bytes_below1) | exact HB.out)) hb); have n1_ := Aside0.mk (hbox); have n2_ := Aside0.mk ((by rw [hg]; exact (below_size (by repeat (first | (with_reducible first | exact HB.out | apply below_alloc | apply pw_below_drewN | apply below_drew1 | apply bytes_below1) | exact HB.out))) : w.heap.size ≤ gb269)); have n3_ := Aside0.mk ((by rw [hg]; exact (below_size (by repeat (first | (with_reducible first | exact HB.out | apply below_alloc | apply pw_below_drewN | apply below_drew1 | apply bytes_below1) | exact HB.out))) : w.heap.size ≤ gb269)); clear HB; have HB := n0_; have BK269 := n1_; have GW269 := n2_; have GE269 := n3_; clear n0_ n1_ n2_ n3_; clear hb hbox hg) | ((with_reducible refine gate_dst (N := 5) rfl ?_); refine box_event ?hg (N := 5) ?hd (cs := #[.int .i64 a2_0,.int .i64 a2_1,.bool a2_2,.string a2_3]) (t := 23) ?hr ?_; (case hd => rfl); (case hg => rfl); (case hr => first | (go_simp; done) | (go_simp; rfl)); intro gb270 hg w66 hbox hb; have n0_ := Aside0.mk (blk_below (g := gb269) (o := .cells #[.int .i64 a1_0,.int .i64 a1_1,.bool a1_2,.string a1_3] 23 (0,0)) (by (with_reducible repeat (first | refine blk_bytes ?_ _ _ | refine blk_drewN ?_ _ | refine blk_drew ?_ | refine blk_alloc ?_ _)); exact BK269.out) hb); have n1_ := Aside0.mk (below_step (by repeat (first | (with_reducible first | exact HB.out | apply below_alloc | apply pw_below_drewN | apply below_drew1 | apply bytes_below1 | refine below_set ?_ GE269.out) | exact HB.out)) hb); have n2_ := Aside0.mk (hbox); have n3_ := Aside0.mk ((by rw [hg]; exact (below_size (by repeat (first | (with_reducible first | exact HB.out | apply below_alloc | apply pw_below_drewN | apply below_drew1 | apply bytes_below1 | refine below_set ?_ GE269.out) | exact HB.out))) : w.heap.size ≤ gb270)); have n4_ := Aside0.mk ((by rw [hg]; exact (below_size (by repeat (first | (with_reducible first | exact HB.out | apply below_alloc | apply pw_below_drewN | apply below_drew1 | apply bytes_below1 | refine below_set ?_ GE269.out) | exact HB.out))) : w.heap.size ≤ gb270)); have n5_ := Aside0.mk ((by rw [hg]; exact Nat.ne_of_lt (blk_lt (g := gb269) (o := .cells #[.int .i64 a1_0,.int .i64 a1_1,.bool a1_2,.string a1_3] 23 (0,0)) (by (with_reducible repeat (first | refine blk_bytes ?_ _ _ | refine blk_drewN ?_ _ | refine blk_drew ?_ | refine blk_alloc ?_ _)); exact BK269.out)) : gb269 ≠ gb270)); have n6_ := Aside0.mk ((by rw [hg]; exact Nat.ne_of_gt (blk_lt (g := gb269) (o := .cells #[.int .i64 a1_0,.int .i64 a1_1,.bool a1_2,.string a1_3] 23 (0,0)) (by (with_reducible repeat (first | refine blk_bytes ?_ _ _ | refine blk_drewN ?_ _ | refine blk_drew ?_ | refine blk_alloc ?_ _)); exact BK269.out)) : gb270 ≠ gb269)); clear BK269; clear HB; have BK269 := n0_; have HB := n1_; have BK270 := n2_; have GW270 := n3_; have GE270 := n4_; have NB269_270 := n5_; have NB270_269 := n6_; clear n0_ n1_ n2_ n3_ n4_ n5_ n6_; clear hb hbox hg))
           have n0_ := Aside0.mk (blk_drew BK269.out)
           have n1_ := Aside0.mk (blk_drew BK270.out)
           have n2_ := Aside0.mk (below_drew1 HB.out)
           clear BK269
           clear BK270
           clear HB
           have BK269 := n0_
           have BK270 := n1_
           have HB := n2_
           clear n0_ n1_ n2_
           refine start_ (n := 13) (S := fun w' => w'.cell? ⟨gb269,0,none⟩ = some (.int .i64 a1_0) ∧ w'.cell? ⟨gb269,1,none⟩ = some (.int .i64 a1_1) ∧ w'.cell? ⟨gb269,2,none⟩ = some (.bool a1_2) ∧ w'.cell? ⟨gb269,3,none⟩ = some (.string a1_3) ∧ w'.cell? ⟨gb270,0,none⟩ = some (.int .i64 a2_0) ∧ w'.cell? ⟨gb270,1,none⟩ = some (.int .i64 a2_1) ∧ w'.cell? ⟨gb270,2,none⟩ = some (.bool a2_2) ∧ w'.cell? ⟨gb270,3,none⟩ = some (.string a2_3)) (ds := []) #[false,false,false,false,false,false,false,false,false,false,false,false,false] (by kernel_rfl) rfl rfl ⟨(blk_cell BK269.out 0).trans rfl,(blk_cell BK269.out 1).trans rfl,(blk_cell BK269.out 2).trans rfl,(blk_cell BK269.out 3).trans rfl,(blk_cell BK270.out 0).trans rfl,(blk_cell BK270.out 1).trans rfl,(blk_cell BK270.out 2).trans rfl,(blk_cell BK270.out 3).trans rfl⟩ (fun hHeld => ?_); refine with_tabW value_judge.tab1 value_judge.bits1 (fun HT_ HW_ => ?_)
           generalize w66.drew = w67 at BK269 BK270 HB hHeld ⊢
           refine pure_ (i := 0) (N := some 8) (v := ?_) (a' := ?_) #[true,false,false,false,false,false,false,false,false,false,false,false,false] rfl rfl (any_of HT_.out (by kernel_rfl)) (fun _ _ _ h => h) (Or.inl ⟨by rfl,?_⟩) ?_ ?_
           rotate_left
           · intro w'
             go_simp
             with_reducible rfl
           rotate_left
           · simp only [Act.put,List.setIfInBounds_toArray,List.set_cons_zero,List.set_cons_succ,i64_w,i32_w]
             rfl
           refine pure_ (i := 2) (N := some 10) (v := ?_) (a' := ?_) #[true,false,true,false,false,false,false,false,false,false,false,false,false] rfl rfl (any_of HT_.out (by kernel_rfl)) (fun _ _ _ h => h) (Or.inl ⟨by rfl,?_⟩) ?_ ?_
           rotate_left
           · intro w'
             go_simp
             with_reducible rfl
           rotate_left
           · simp only [Act.put,List.setIfInBounds_toArray,List.set_cons_zero,List.set_cons_succ,i64_w,i32_w]
             rfl
           refine pure_ (i := 5) (N := some 13) (v := ?_) (a' := ?_) #[true,false,true,false,false,true,false,false,false,false,false,false,false] rfl rfl (any_of HT_.out (by kernel_rfl)) (fun _ _ _ h => h) (Or.inl ⟨by rfl,?_⟩) ?_ ?_
           rotate_left
           · intro w'
             go_simp
             with_reducible rfl
           rotate_left
           · simp only [Act.put,List.setIfInBounds_toArray,List.set_cons_zero,List.set_cons_succ,i64_w,i32_w]
             rfl
           refine pure_ (i := 7) (N := some 15) (v := ?_) (a' := ?_) #[true,false,true,false,false,true,false,true,false,false,false,false,false] rfl rfl (any_of HT_.out (by kernel_rfl)) (fun _ _ _ h => h) (Or.inl ⟨by rfl,?_⟩) ?_ ?_
           rotate_left
           · intro w'
             go_simp
             with_reducible rfl
           rotate_left
           · simp only [Act.put,List.setIfInBounds_toArray,List.set_cons_zero,List.set_cons_succ,i64_w,i32_w]
             rfl
           refine take_ (i := 1) (N := some 9) (v := ?_) (a' := ?_) #[true,true,true,false,false,true,false,true,false,false,false,false,false] rfl rfl (take_ofW HT_.out HW_.out (by kernel_rfl)) (fun _ _ _ h => h) (Or.inl ⟨by rfl,?_⟩) hHeld ?_ ?_
           rotate_left
           · rintro w' ⟨s0,s1,s2,s3,s4,s5,s6,s7⟩
             go_simp
             with_reducible rfl
           rotate_left
           · simp only [Act.put,List.setIfInBounds_toArray,List.set_cons_zero,List.set_cons_succ,i64_w,i32_w]
             rfl
           refine take_ (i := 3) (N := some 11) (v := ?_) (a' := ?_) #[true,true,true,true,false,true,false,true,false,false,false,false,false] rfl rfl (take_ofW HT_.out HW_.out (by kernel_rfl)) (fun _ _ _ h => h) (Or.inl ⟨by rfl,?_⟩) hHeld ?_ ?_
           rotate_left
           · rintro w' ⟨s0,s1,s2,s3,s4,s5,s6,s7⟩
             go_simp
             with_reducible rfl
           rotate_left
           · simp only [Act.put,List.setIfInBounds_toArray,List.set_cons_zero,List.set_cons_succ,i64_w,i32_w]
             rfl
           refine take_ (i := 6) (N := some 14) (v := ?_) (a' := ?_) #[true,true,true,true,false,true,true,true,false,false,false,false,false] rfl rfl (take_ofW HT_.out HW_.out (by kernel_rfl)) (fun _ _ _ h => h) (Or.inl ⟨by rfl,?_⟩) hHeld ?_ ?_
           rotate_left
           · rintro w' ⟨s0,s1,s2,s3,s4,s5,s6,s7⟩
             go_simp
             with_reducible rfl
           rotate_left
           · simp only [Act.put,List.setIfInBounds_toArray,List.set_cons_zero,List.set_cons_succ,i64_w,i32_w]
             rfl
           refine take_ (i := 8) (N := some 16) (v := ?_) (a' := ?_) #[true,true,true,true,false,true,true,true,true,false,false,false,false] rfl rfl (take_ofW HT_.out HW_.out (by kernel_rfl)) (fun _ _ _ h => h) (Or.inl ⟨by rfl,?_⟩) hHeld ?_ ?_
           rotate_left
           · rintro w' ⟨s0,s1,s2,s3,s4,s5,s6,s7⟩
             go_simp
             with_reducible rfl
           rotate_left
           · simp only [Act.put,List.setIfInBounds_toArray,List.set_cons_zero,List.set_cons_succ,i64_w,i32_w]
             rfl
           refine one_ (i := 4) (N := some 12) #[true,true,true,true,true,true,true,true,true,false,false,false,false] rfl rfl (one_of HT_.out (by kernel_rfl)) (by decide) (fun K hK => ?_)
           refine goes_ Tryz.func81 (by kernel_rfl) rfl #[.int .i64 a1_1,.int .i64 a2_1] (by rfl) rfl rfl (by (try simp only [List.map_toArray,List.map_cons,List.map_nil]); first | done | rfl | (simp only [List.length_drop,List.length_take]; rfl)) ?_
           with_reducible refine (cmp_Compare_int.calls a1_1 a2_1 t271 _ A4.out).mono ?_
           rintro e w' ⟨rfl,⟨nd,rfl⟩⟩
           refine ⟨_,rfl,?_⟩
           refine hK.out _ _ ⟨(blk_cell BK269.out 0).trans rfl,(blk_cell BK269.out 1).trans rfl,(blk_cell BK269.out 2).trans rfl,(blk_cell BK269.out 3).trans rfl,(blk_cell BK270.out 0).trans rfl,(blk_cell BK270.out 1).trans rfl,(blk_cell BK270.out 2).trans rfl,(blk_cell BK270.out 3).trans rfl⟩ (fun hHeld => ?_)
           clear hK K
           refine norm_ (a' := ?_) ?_ ?_
           rotate_left
           · show Act.put _ (some 12) _ = _
             simp only [Act.put,List.setIfInBounds_toArray,List.set_cons_zero,List.set_cons_succ,i64_w,i32_w]
             rfl
           refine one_ (i := 9) (N := some 17) #[true,true,true,true,true,true,true,true,true,true,false,false,false] rfl rfl (one_of HT_.out (by kernel_rfl)) (by decide) (fun K hK => ?_)
           refine goes_ Tryz.func82 (by kernel_rfl) rfl #[.string a1_3,.string a2_3] (by rfl) rfl rfl (by (try simp only [List.map_toArray,List.map_cons,List.map_nil]); first | done | rfl | (simp only [List.length_drop,List.length_take]; rfl)) ?_
           with_reducible refine (strings_Compare.calls a1_3 a2_3 t272 _ A5.out).mono ?_
           rintro e w' ⟨rfl,⟨nd,rfl⟩⟩
           refine ⟨_,rfl,?_⟩
           refine hK.out _ _ ⟨(blk_cell BK269.out 0).trans rfl,(blk_cell BK269.out 1).trans rfl,(blk_cell BK269.out 2).trans rfl,(blk_cell BK269.out 3).trans rfl,(blk_cell BK270.out 0).trans rfl,(blk_cell BK270.out 1).trans rfl,(blk_cell BK270.out 2).trans rfl,(blk_cell BK270.out 3).trans rfl⟩ (fun hHeld => ?_)
           clear hK K
           refine norm_ (a' := ?_) ?_ ?_
           rotate_left
           · show Act.put _ (some 17) _ = _
             simp only [Act.put,List.setIfInBounds_toArray,List.set_cons_zero,List.set_cons_succ,i64_w,i32_w]
             rfl
           refine one_ (i := 10) (N := some 18) #[true,true,true,true,true,true,true,true,true,true,true,false,false] rfl rfl (one_of HT_.out (by kernel_rfl)) (by decide) (fun K hK => ?_)
           refine Kd.R_lit_step (Kd.int .i64) _ 3 ?hg (N := 18) ?hd (xs := ([t271,t272] : List Int)) (inner := [.int .i64 t271,.int .i64 t272]) (ok := fun _ => True) (okp := fun _ => True) ?hr ?hp (fun _ hk => hk) trivial (Below.refl _ _) (Nat.le_refl _) (by simp) ?_; (case hd => rfl); (case hg => rfl); (case hr => first | (go_simp; done) | (go_simp; rfl)); (case hp => exact (Reps.one (show Kd.M (Kd.int .i64) _ _ _ t271 [.int .i64 t271] from rfl) (Reps.one (show Kd.M (Kd.int .i64) _ _ _ t272 [.int .i64 t272] from rfl) (Reps.none _ _))))
           intro v274 w68 ho69 hb hg_ hnew_
           clear hg_ hnew_
           (first | rw [← Ny273.out] at ho69 | (simp only [Int.reduceToNat] at ho69; rw [← Ny273.out] at ho69))
           have n0_ := Aside0.mk (Kd.R_lower ho69 (below_size (by repeat (first | (with_reducible first | exact HB.out | apply below_alloc | apply pw_below_drewN | apply below_drew1 | apply bytes_below1 | refine below_set ?_ GE269.out | refine below_set ?_ GE270.out) | exact HB.out))))
           have n1_ := Aside0.mk (blk_below (g := gb269) (o := .cells #[.int .i64 a1_0,.int .i64 a1_1,.bool a1_2,.string a1_3] 23 (0,0)) (by (with_reducible repeat (first | refine blk_bytes ?_ _ _ | refine blk_drewN ?_ _ | refine blk_drew ?_ | refine blk_alloc ?_ _)); exact BK269.out) hb)
           have n2_ := Aside0.mk (blk_below (g := gb270) (o := .cells #[.int .i64 a2_0,.int .i64 a2_1,.bool a2_2,.string a2_3] 23 (0,0)) (by (with_reducible repeat (first | refine blk_bytes ?_ _ _ | refine blk_drewN ?_ _ | refine blk_drew ?_ | refine blk_alloc ?_ _)); exact BK270.out) hb)
           have n3_ := Aside0.mk (below_step (by repeat (first | (with_reducible first | exact HB.out | apply below_alloc | apply pw_below_drewN | apply below_drew1 | apply bytes_below1 | refine below_set ?_ GE269.out | refine below_set ?_ GE270.out) | exact HB.out)) hb)
           clear BK269
           clear BK270
           clear HB
           have HO275 := n0_
           have BK269 := n1_
           have BK270 := n2_
           have HB := n3_
           clear n0_ n1_ n2_ n3_
           clear hb ho69
           obtain ⟨Ao70,co70,eo70⟩ := Kd.R_slice HO275.out
           (first | subst eo70 | (injection eo70 with f1_ f2_ f3_; have f4_ := f1_.symm; have f5_ := f3_.symm; clear f1_ f2_ f3_; subst f4_; subst f5_))
           refine hK.out _ _ ⟨(blk_cell BK269.out 0).trans rfl,(blk_cell BK269.out 1).trans rfl,(blk_cell BK269.out 2).trans rfl,(blk_cell BK269.out 3).trans rfl,(blk_cell BK270.out 0).trans rfl,(blk_cell BK270.out 1).trans rfl,(blk_cell BK270.out 2).trans rfl,(blk_cell BK270.out 3).trans rfl⟩ (fun hHeld => ?_)
           clear hK K
           refine norm_ (a' := ?_) ?_ ?_
           rotate_left
           · show Act.put _ (some 18) _ = _
             simp only [Act.put,List.setIfInBounds_toArray,List.set_cons_zero,List.set_cons_succ,i64_w,i32_w]
             rfl
           refine one_ (i := 11) (N := some 19) #[true,true,true,true,true,true,true,true,true,true,true,true,false] rfl rfl (one_of HT_.out (by kernel_rfl)) (by decide) (fun K hK => ?_)
           refine goes_ Tryz.func80 (by kernel_rfl) rfl #[.slice Ao70 y273.length co70] (by rfl) rfl rfl (by (try simp only [List.map_toArray,List.map_cons,List.map_nil]); first | done | rfl | (simp only [List.length_drop,List.length_take]; rfl)) ?_
           with_reducible refine (cmp_Or_int.calls k _ _ y273 t276 _ ?side1 ?side2 A6.out).mono ?_
           (case side1 => repeat (first | exact (Kd.R_reads' HO275.out).2.2 | (with_reducible refine Kd.C_alloc ?_ _) | (with_reducible refine C_bytes ?_ _ _) | (with_reducible refine Kd.C_drewN ?_ _) | (with_reducible refine Kd.C_drew ?_)))
           (case side2 => exact (Kd.R_reads' HO275.out).2.1)
           rintro e w' ⟨rfl,⟨nd,rfl⟩⟩
           refine ⟨_,rfl,?_⟩
           refine hK.out _ _ ⟨(blk_cell BK269.out 0).trans rfl,(blk_cell BK269.out 1).trans rfl,(blk_cell BK269.out 2).trans rfl,(blk_cell BK269.out 3).trans rfl,(blk_cell BK270.out 0).trans rfl,(blk_cell BK270.out 1).trans rfl,(blk_cell BK270.out 2).trans rfl,(blk_cell BK270.out 3).trans rfl⟩ (fun hHeld => ?_)
           clear hK K
           refine norm_ (a' := ?_) ?_ ?_
           rotate_left
           · show Act.put _ (some 19) _ = _
             simp only [Act.put,List.setIfInBounds_toArray,List.set_cons_zero,List.set_cons_succ,i64_w,i32_w]
             rfl
           refine pure_ (i := 12) (N := some 7) (v := ?_) (a' := ?_) #[true,true,true,true,true,true,true,true,true,true,true,true,true] rfl rfl (any_of HT_.out (by kernel_rfl)) (fun _ _ _ h => h) (Or.inl ⟨by rfl,?_⟩) ?_ ?_
           rotate_left
           · intro w'
             go_simp
             with_reducible rfl
           rotate_left
           · simp only [Act.put,List.setIfInBounds_toArray,List.set_cons_zero,List.set_cons_succ,i64_w,i32_w]
             rfl
           refine done_ (done_of HT_.out (by kernel_rfl)) ?_
           have hnb71 := NB269_270.out
           have hnc71 := NB270_269.out
           have hcz72_0 : w68.cell? ⟨gb269,0,none⟩ = some (.int .i64 a1_0) := (blk_cell BK269.out 0).trans rfl
           have hcz72_1 : w68.cell? ⟨gb269,1,none⟩ = some (.int .i64 a1_1) := (blk_cell BK269.out 1).trans rfl
           have hcz72_2 : w68.cell? ⟨gb269,2,none⟩ = some (.bool a1_2) := (blk_cell BK269.out 2).trans rfl
           have hcz72_3 : w68.cell? ⟨gb269,3,none⟩ = some (.string a1_3) := (blk_cell BK269.out 3).trans rfl
           have hfz72_0 := blk_frozen BK269.out 0
           have hfz72_1 := blk_frozen BK269.out 1
           have hfz72_2 := blk_frozen BK269.out 2
           have hfz72_3 := blk_frozen BK269.out 3
           have hcz73_0 : w68.cell? ⟨gb270,0,none⟩ = some (.int .i64 a2_0) := (blk_cell BK270.out 0).trans rfl
           have hcz73_1 : w68.cell? ⟨gb270,1,none⟩ = some (.int .i64 a2_1) := (blk_cell BK270.out 1).trans rfl
           have hcz73_2 : w68.cell? ⟨gb270,2,none⟩ = some (.bool a2_2) := (blk_cell BK270.out 2).trans rfl
           have hcz73_3 : w68.cell? ⟨gb270,3,none⟩ = some (.string a2_3) := (blk_cell BK270.out 3).trans rfl
           have hfz73_0 := blk_frozen BK270.out 0
           have hfz73_1 := blk_frozen BK270.out 1
           have hfz73_2 := blk_frozen BK270.out 2
           have hfz73_3 := blk_frozen BK270.out 3
           try go_wp2
           go_ret
           exact ⟨by first | rfl | (simp [errW_none,errW_some] <;> rfl) | (simp [*,errW_none,errW_some] <;> rfl),by repeat (first | (with_reducible first | exact HB.out | apply below_alloc | apply pw_below_drewN | apply below_drew1 | apply bytes_below1 | refine below_set ?_ GE269.out | refine below_set ?_ GE270.out) | exact HB.out)⟩
         · rw [if_neg c64] at H
           have c64b0 : (a0 == 17) = false := beq_eq_false_iff_ne.mpr c64
           have c64b1 : (a0 != 17) = true := bne_iff_ne.mpr c64
           by_cases c74 : a0 = 12
           · rw [if_pos c74] at H
             have c74b0 : (a0 == 12) = true := beq_iff_eq.mpr c74
             have c74b1 : (a0 != 12) = false := bne_eq_false_iff_eq.mpr c74
             clear c74
             obtain rfl := Option.some.inj H
             go_enter Tryz.func53,Tryz.ntmps53
             try go_wp2_with (first | ((with_reducible refine gate_dst (N := 4) rfl ?_); refine box_event ?hg (N := 4) ?hd (cs := #[.int .i64 a1_0,.int .i64 a1_1,.bool a1_2,.string a1_3]) (t := 23) ?hr ?_; (case hd => rfl); (case hg => rfl); (case hr => first | (go_simp; done) | (go_simp; rfl)); intro gb269 hg w75 hbox hb; have n0_ := Aside0.mk (below_step (by repeat (first | (with_reducible first | exact HB.out | apply below_alloc | apply pw_below_drewN | apply below_drew1 | apply bytes_below1) | exact HB.out)) hb); have n1_ := Aside0.mk (hbox); have n2_ := Aside0.mk ((by rw [hg]; exact (below_size (by repeat (first | (with_reducible first | exact HB.out | apply below_alloc | apply pw_below_drewN | apply below_drew1 | apply bytes_below1) | exact HB.out))) : w.heap.size ≤ gb269)); have n3_ := Aside0.mk ((by rw [hg]; exact (below_size (by repeat (first | (with_reducible first | exact HB.out | apply below_alloc | apply pw_below_drewN | apply below_drew1 | apply bytes_below1) | exact HB.out))) : w.heap.size ≤ gb269)); clear HB; have HB := n0_; have BK269 := n1_; have GW269 := n2_; have GE269 := n3_; clear n0_ n1_ n2_ n3_; clear hb hbox hg) | ((with_reducible refine gate_dst (N := 5) rfl ?_); refine box_event ?hg (N := 5) ?hd (cs := #[.int .i64 a2_0,.int .i64 a2_1,.bool a2_2,.string a2_3]) (t := 23) ?hr ?_; (case hd => rfl); (case hg => rfl); (case hr => first | (go_simp; done) | (go_simp; rfl)); intro gb270 hg w76 hbox hb; have n0_ := Aside0.mk (blk_below (g := gb269) (o := .cells #[.int .i64 a1_0,.int .i64 a1_1,.bool a1_2,.string a1_3] 23 (0,0)) (by (with_reducible repeat (first | refine blk_bytes ?_ _ _ | refine blk_drewN ?_ _ | refine blk_drew ?_ | refine blk_alloc ?_ _)); exact BK269.out) hb); have n1_ := Aside0.mk (below_step (by repeat (first | (with_reducible first | exact HB.out | apply below_alloc | apply pw_below_drewN | apply below_drew1 | apply bytes_below1 | refine below_set ?_ GE269.out) | exact HB.out)) hb); have n2_ := Aside0.mk (hbox); have n3_ := Aside0.mk ((by rw [hg]; exact (below_size (by repeat (first | (with_reducible first | exact HB.out | apply below_alloc | apply pw_below_drewN | apply below_drew1 | apply bytes_below1 | refine below_set ?_ GE269.out) | exact HB.out))) : w.heap.size ≤ gb270)); have n4_ := Aside0.mk ((by rw [hg]; exact (below_size (by repeat (first | (with_reducible first | exact HB.out | apply below_alloc | apply pw_below_drewN | apply below_drew1 | apply bytes_below1 | refine below_set ?_ GE269.out) | exact HB.out))) : w.heap.size ≤ gb270)); have n5_ := Aside0.mk ((by rw [hg]; exact Nat.ne_of_lt (blk_lt (g := gb269) (o := .cells #[.int .i64 a1_0,.int .i64 a1_1,.bool a1_2,.string a1_3] 23 (0,0)) (by (with_reducible repeat (first | refine blk_bytes ?_ _ _ | refine blk_drewN ?_ _ | refine blk_drew ?_ | refine blk_alloc ?_ _)); exact BK269.out)) : gb269 ≠ gb270)); have n6_ := Aside0.mk ((by rw [hg]; exact Nat.ne_of_gt (blk_lt (g := gb269) (o := .cells #[.int .i64 a1_0,.int .i64 a1_1,.bool a1_2,.string a1_3] 23 (0,0)) (by (with_reducible repeat (first | refine blk_bytes ?_ _ _ | refine blk_drewN ?_ _ | refine blk_drew ?_ | refine blk_alloc ?_ _)); exact BK269.out)) : gb270 ≠ gb269)); clear BK269; clear HB; have BK269 := n0_; have HB := n1_; have BK270 := n2_; have GW270 := n3_; have GE270 := n4_; have NB269_270 := n5_; have NB270_269 := n6_; clear n0_ n1_ n2_ n3_ n4_ n5_ n6_; clear hb hbox hg))
             have n0_ := Aside0.mk (blk_drew BK269.out)
             have n1_ := Aside0.mk (blk_drew BK270.out)
             have n2_ := Aside0.mk (below_drew1 HB.out)
             clear BK269
             clear BK270
             clear HB
             have BK269 := n0_
             have BK270 := n1_
             have HB := n2_
             clear n0_ n1_ n2_
             refine start_ (n := 13) (S := fun w' => w'.cell? ⟨gb269,0,none⟩ = some (.int .i64 a1_0) ∧ w'.cell? ⟨gb269,1,none⟩ = some (.int .i64 a1_1) ∧ w'.cell? ⟨gb269,2,none⟩ = some (.bool a1_2) ∧ w'.cell? ⟨gb269,3,none⟩ = some (.string a1_3) ∧ w'.cell? ⟨gb270,0,none⟩ = some (.int .i64 a2_0) ∧ w'.cell? ⟨gb270,1,none⟩ = some (.int .i64 a2_1) ∧ w'.cell? ⟨gb270,2,none⟩ = some (.bool a2_2) ∧ w'.cell? ⟨gb270,3,none⟩ = some (.string a2_3)) (ds := []) #[false,false,false,false,false,false,false,false,false,false,false,false,false] (by kernel_rfl) rfl rfl ⟨(blk_cell BK269.out 0).trans rfl,(blk_cell BK269.out 1).trans rfl,(blk_cell BK269.out 2).trans rfl,(blk_cell BK269.out 3).trans rfl,(blk_cell BK270.out 0).trans rfl,(blk_cell BK270.out 1).trans rfl,(blk_cell BK270.out 2).trans rfl,(blk_cell BK270.out 3).trans rfl⟩ (fun hHeld => ?_); refine with_tabW value_judge.tab1 value_judge.bits1 (fun HT_ HW_ => ?_)
             generalize w76.drew = w77 at BK269 BK270 HB hHeld ⊢
             refine pure_ (i := 0) (N := some 8) (v := ?_) (a' := ?_) #[true,false,false,false,false,false,false,false,false,false,false,false,false] rfl rfl (any_of HT_.out (by kernel_rfl)) (fun _ _ _ h => h) (Or.inl ⟨by rfl,?_⟩) ?_ ?_
             rotate_left
             · intro w'
               go_simp
               with_reducible rfl
             rotate_left
             · simp only [Act.put,List.setIfInBounds_toArray,List.set_cons_zero,List.set_cons_succ,i64_w,i32_w]
               rfl
             refine pure_ (i := 2) (N := some 10) (v := ?_) (a' := ?_) #[true,false,true,false,false,false,false,false,false,false,false,false,false] rfl rfl (any_of HT_.out (by kernel_rfl)) (fun _ _ _ h => h) (Or.inl ⟨by rfl,?_⟩) ?_ ?_
             rotate_left
             · intro w'
               go_simp
               with_reducible rfl
             rotate_left
             · simp only [Act.put,List.setIfInBounds_toArray,List.set_cons_zero,List.set_cons_succ,i64_w,i32_w]
               rfl
             refine pure_ (i := 5) (N := some 13) (v := ?_) (a' := ?_) #[true,false,true,false,false,true,false,false,false,false,false,false,false] rfl rfl (any_of HT_.out (by kernel_rfl)) (fun _ _ _ h => h) (Or.inl ⟨by rfl,?_⟩) ?_ ?_
             rotate_left
             · intro w'
               go_simp
               with_reducible rfl
             rotate_left
             · simp only [Act.put,List.setIfInBounds_toArray,List.set_cons_zero,List.set_cons_succ,i64_w,i32_w]
               rfl
             refine pure_ (i := 7) (N := some 15) (v := ?_) (a' := ?_) #[true,false,true,false,false,true,false,true,false,false,false,false,false] rfl rfl (any_of HT_.out (by kernel_rfl)) (fun _ _ _ h => h) (Or.inl ⟨by rfl,?_⟩) ?_ ?_
             rotate_left
             · intro w'
               go_simp
               with_reducible rfl
             rotate_left
             · simp only [Act.put,List.setIfInBounds_toArray,List.set_cons_zero,List.set_cons_succ,i64_w,i32_w]
               rfl
             refine take_ (i := 1) (N := some 9) (v := ?_) (a' := ?_) #[true,true,true,false,false,true,false,true,false,false,false,false,false] rfl rfl (take_ofW HT_.out HW_.out (by kernel_rfl)) (fun _ _ _ h => h) (Or.inl ⟨by rfl,?_⟩) hHeld ?_ ?_
             rotate_left
             · rintro w' ⟨s0,s1,s2,s3,s4,s5,s6,s7⟩
               go_simp
               with_reducible rfl
             rotate_left
             · simp only [Act.put,List.setIfInBounds_toArray,List.set_cons_zero,List.set_cons_succ,i64_w,i32_w]
               rfl
             refine take_ (i := 3) (N := some 11) (v := ?_) (a' := ?_) #[true,true,true,true,false,true,false,true,false,false,false,false,false] rfl rfl (take_ofW HT_.out HW_.out (by kernel_rfl)) (fun _ _ _ h => h) (Or.inl ⟨by rfl,?_⟩) hHeld ?_ ?_
             rotate_left
             · rintro w' ⟨s0,s1,s2,s3,s4,s5,s6,s7⟩
               go_simp
               with_reducible rfl
             rotate_left
             · simp only [Act.put,List.setIfInBounds_toArray,List.set_cons_zero,List.set_cons_succ,i64_w,i32_w]
               rfl
             refine take_ (i := 6) (N := some 14) (v := ?_) (a' := ?_) #[true,true,true,true,false,true,true,true,false,false,false,false,false] rfl rfl (take_ofW HT_.out HW_.out (by kernel_rfl)) (fun _ _ _ h => h) (Or.inl ⟨by rfl,?_⟩) hHeld ?_ ?_
             rotate_left
             · rintro w' ⟨s0,s1,s2,s3,s4,s5,s6,s7⟩
               go_simp
               with_reducible rfl
             rotate_left
             · simp only [Act.put,List.setIfInBounds_toArray,List.set_cons_zero,List.set_cons_succ,i64_w,i32_w]
               rfl
             refine take_ (i := 8) (N := some 16) (v := ?_) (a' := ?_) #[true,true,true,true,false,true,true,true,true,false,false,false,false] rfl rfl (take_ofW HT_.out HW_.out (by kernel_rfl)) (fun _ _ _ h => h) (Or.inl ⟨by rfl,?_⟩) hHeld ?_ ?_
             rotate_left
             · rintro w' ⟨s0,s1,s2,s3,s4,s5,s6,s7⟩
               go_simp
               with_reducible rfl
             rotate_left
             · simp only [Act.put,List.setIfInBounds_toArray,List.set_cons_zero,List.set_cons_succ,i64_w,i32_w]
               rfl
             refine one_ (i := 4) (N := some 12) #[true,true,true,true,true,true,true,true,true,false,false,false,false] rfl rfl (one_of HT_.out (by kernel_rfl)) (by decide) (fun K hK => ?_)
             refine goes_ Tryz.func81 (by kernel_rfl) rfl #[.int .i64 a1_1,.int .i64 a2_1] (by rfl) rfl rfl (by (try simp only [List.map_toArray,List.map_cons,List.map_nil]); first | done | rfl | (simp only [List.length_drop,List.length_take]; rfl)) ?_
             with_reducible refine (cmp_Compare_int.calls a1_1 a2_1 t271 _ A4.out).mono ?_
             rintro e w' ⟨rfl,⟨nd,rfl⟩⟩
             refine ⟨_,rfl,?_⟩
             refine hK.out _ _ ⟨(blk_cell BK269.out 0).trans rfl,(blk_cell BK269.out 1).trans rfl,(blk_cell BK269.out 2).trans rfl,(blk_cell BK269.out 3).trans rfl,(blk_cell BK270.out 0).trans rfl,(blk_cell BK270.out 1).trans rfl,(blk_cell BK270.out 2).trans rfl,(blk_cell BK270.out 3).trans rfl⟩ (fun hHeld => ?_)
             clear hK K
             refine norm_ (a' := ?_) ?_ ?_
             rotate_left
             · show Act.put _ (some 12) _ = _
               simp only [Act.put,List.setIfInBounds_toArray,List.set_cons_zero,List.set_cons_succ,i64_w,i32_w]
               rfl
             refine one_ (i := 9) (N := some 17) #[true,true,true,true,true,true,true,true,true,true,false,false,false] rfl rfl (one_of HT_.out (by kernel_rfl)) (by decide) (fun K hK => ?_)
             refine goes_ Tryz.func82 (by kernel_rfl) rfl #[.string a1_3,.string a2_3] (by rfl) rfl rfl (by (try simp only [List.map_toArray,List.map_cons,List.map_nil]); first | done | rfl | (simp only [List.length_drop,List.length_take]; rfl)) ?_
             with_reducible refine (strings_Compare.calls a1_3 a2_3 t272 _ A5.out).mono ?_
             rintro e w' ⟨rfl,⟨nd,rfl⟩⟩
             refine ⟨_,rfl,?_⟩
             refine hK.out _ _ ⟨(blk_cell BK269.out 0).trans rfl,(blk_cell BK269.out 1).trans rfl,(blk_cell BK269.out 2).trans rfl,(blk_cell BK269.out 3).trans rfl,(blk_cell BK270.out 0).trans rfl,(blk_cell BK270.out 1).trans rfl,(blk_cell BK270.out 2).trans rfl,(blk_cell BK270.out 3).trans rfl⟩ (fun hHeld => ?_)
             clear hK K
             refine norm_ (a' := ?_) ?_ ?_
             rotate_left
             · show Act.put _ (some 17) _ = _
               simp only [Act.put,List.setIfInBounds_toArray,List.set_cons_zero,List.set_cons_succ,i64_w,i32_w]
               rfl
             refine one_ (i := 10) (N := some 18) #[true,true,true,true,true,true,true,true,true,true,true,false,false] rfl rfl (one_of HT_.out (by kernel_rfl)) (by decide) (fun K hK => ?_)
             refine Kd.R_lit_step (Kd.int .i64) _ 3 ?hg (N := 18) ?hd (xs := ([t271,t272] : List Int)) (inner := [.int .i64 t271,.int .i64 t272]) (ok := fun _ => True) (okp := fun _ => True) ?hr ?hp (fun _ hk => hk) trivial (Below.refl _ _) (Nat.le_refl _) (by simp) ?_; (case hd => rfl); (case hg => rfl); (case hr => first | (go_simp; done) | (go_simp; rfl)); (case hp => exact (Reps.one (show Kd.M (Kd.int .i64) _ _ _ t271 [.int .i64 t271] from rfl) (Reps.one (show Kd.M (Kd.int .i64) _ _ _ t272 [.int .i64 t272] from rfl) (Reps.none _ _))))
             intro v274 w78 ho79 hb hg_ hnew_
             clear hg_ hnew_
             (first | rw [← Ny273.out] at ho79 | (simp only [Int.reduceToNat] at ho79; rw [← Ny273.out] at ho79))
             have n0_ := Aside0.mk (Kd.R_lower ho79 (below_size (by repeat (first | (with_reducible first | exact HB.out | apply below_alloc | apply pw_below_drewN | apply below_drew1 | apply bytes_below1 | refine below_set ?_ GE269.out | refine below_set ?_ GE270.out) | exact HB.out))))
             have n1_ := Aside0.mk (blk_below (g := gb269) (o := .cells #[.int .i64 a1_0,.int .i64 a1_1,.bool a1_2,.string a1_3] 23 (0,0)) (by (with_reducible repeat (first | refine blk_bytes ?_ _ _ | refine blk_drewN ?_ _ | refine blk_drew ?_ | refine blk_alloc ?_ _)); exact BK269.out) hb)
             have n2_ := Aside0.mk (blk_below (g := gb270) (o := .cells #[.int .i64 a2_0,.int .i64 a2_1,.bool a2_2,.string a2_3] 23 (0,0)) (by (with_reducible repeat (first | refine blk_bytes ?_ _ _ | refine blk_drewN ?_ _ | refine blk_drew ?_ | refine blk_alloc ?_ _)); exact BK270.out) hb)
             have n3_ := Aside0.mk (below_step (by repeat (first | (with_reducible first | exact HB.out | apply below_alloc | apply pw_below_drewN | apply below_drew1 | apply bytes_below1 | refine below_set ?_ GE269.out | refine below_set ?_ GE270.out) | exact HB.out)) hb)
             clear BK269
             clear BK270
             clear HB
             have HO275 := n0_
             have BK269 := n1_
             have BK270 := n2_
             have HB := n3_
             clear n0_ n1_ n2_ n3_
             clear hb ho79
             obtain ⟨Ao80,co80,eo80⟩ := Kd.R_slice HO275.out
             (first | subst eo80 | (injection eo80 with f1_ f2_ f3_; have f4_ := f1_.symm; have f5_ := f3_.symm; clear f1_ f2_ f3_; subst f4_; subst f5_))
             refine hK.out _ _ ⟨(blk_cell BK269.out 0).trans rfl,(blk_cell BK269.out 1).trans rfl,(blk_cell BK269.out 2).trans rfl,(blk_cell BK269.out 3).trans rfl,(blk_cell BK270.out 0).trans rfl,(blk_cell BK270.out 1).trans rfl,(blk_cell BK270.out 2).trans rfl,(blk_cell BK270.out 3).trans rfl⟩ (fun hHeld => ?_)
             clear hK K
             refine norm_ (a' := ?_) ?_ ?_
             rotate_left
             · show Act.put _ (some 18) _ = _
               simp only [Act.put,List.setIfInBounds_toArray,List.set_cons_zero,List.set_cons_succ,i64_w,i32_w]
               rfl
             refine one_ (i := 11) (N := some 19) #[true,true,true,true,true,true,true,true,true,true,true,true,false] rfl rfl (one_of HT_.out (by kernel_rfl)) (by decide) (fun K hK => ?_)
             refine goes_ Tryz.func80 (by kernel_rfl) rfl #[.slice Ao80 y273.length co80] (by rfl) rfl rfl (by (try simp only [List.map_toArray,List.map_cons,List.map_nil]); first | done | rfl | (simp only [List.length_drop,List.length_take]; rfl)) ?_
             with_reducible refine (cmp_Or_int.calls k _ _ y273 t276 _ ?side1 ?side2 A6.out).mono ?_
             (case side1 => repeat (first | exact (Kd.R_reads' HO275.out).2.2 | (with_reducible refine Kd.C_alloc ?_ _) | (with_reducible refine C_bytes ?_ _ _) | (with_reducible refine Kd.C_drewN ?_ _) | (with_reducible refine Kd.C_drew ?_)))
             (case side2 => exact (Kd.R_reads' HO275.out).2.1)
             rintro e w' ⟨rfl,⟨nd,rfl⟩⟩
             refine ⟨_,rfl,?_⟩
             refine hK.out _ _ ⟨(blk_cell BK269.out 0).trans rfl,(blk_cell BK269.out 1).trans rfl,(blk_cell BK269.out 2).trans rfl,(blk_cell BK269.out 3).trans rfl,(blk_cell BK270.out 0).trans rfl,(blk_cell BK270.out 1).trans rfl,(blk_cell BK270.out 2).trans rfl,(blk_cell BK270.out 3).trans rfl⟩ (fun hHeld => ?_)
             clear hK K
             refine norm_ (a' := ?_) ?_ ?_
             rotate_left
             · show Act.put _ (some 19) _ = _
               simp only [Act.put,List.setIfInBounds_toArray,List.set_cons_zero,List.set_cons_succ,i64_w,i32_w]
               rfl
             refine pure_ (i := 12) (N := some 7) (v := ?_) (a' := ?_) #[true,true,true,true,true,true,true,true,true,true,true,true,true] rfl rfl (any_of HT_.out (by kernel_rfl)) (fun _ _ _ h => h) (Or.inl ⟨by rfl,?_⟩) ?_ ?_
             rotate_left
             · intro w'
               go_simp
               with_reducible rfl
             rotate_left
             · simp only [Act.put,List.setIfInBounds_toArray,List.set_cons_zero,List.set_cons_succ,i64_w,i32_w]
               rfl
             refine done_ (done_of HT_.out (by kernel_rfl)) ?_
             try go_wp2
             go_ret
             exact ⟨by first | rfl | (simp [errW_none,errW_some] <;> rfl) | (simp [*,errW_none,errW_some] <;> rfl),by repeat (first | (with_reducible first | exact HB.out | apply below_alloc | apply pw_below_drewN | apply below_drew1 | apply bytes_below1 | refine below_set ?_ GE269.out | refine below_set ?_ GE270.out) | exact HB.out)⟩
           · rw [if_neg c74] at H
             have c74b0 : (a0 == 12) = false := beq_eq_false_iff_ne.mpr c74
             have c74b1 : (a0 != 12) = true := bne_iff_ne.mpr c74
             by_cases c81 : a0 = 13
             · rw [if_pos c81] at H
               have c81b0 : (a0 == 13) = true := beq_iff_eq.mpr c81
               have c81b1 : (a0 != 13) = false := bne_eq_false_iff_eq.mpr c81
               clear c81
               obtain rfl := Option.some.inj H
               go_enter Tryz.func53,Tryz.ntmps53
               try go_wp2_with (first | ((with_reducible refine gate_dst (N := 4) rfl ?_); refine box_event ?hg (N := 4) ?hd (cs := #[.int .i64 a1_0,.int .i64 a1_1,.bool a1_2,.string a1_3]) (t := 23) ?hr ?_; (case hd => rfl); (case hg => rfl); (case hr => first | (go_simp; done) | (go_simp; rfl)); intro gb269 hg w82 hbox hb; have n0_ := Aside0.mk (below_step (by repeat (first | (with_reducible first | exact HB.out | apply below_alloc | apply pw_below_drewN | apply below_drew1 | apply bytes_below1) | exact HB.out)) hb); have n1_ := Aside0.mk (hbox); have n2_ := Aside0.mk ((by rw [hg]; exact (below_size (by repeat (first | (with_reducible first | exact HB.out | apply below_alloc | apply pw_below_drewN | apply below_drew1 | apply bytes_below1) | exact HB.out))) : w.heap.size ≤ gb269)); have n3_ := Aside0.mk ((by rw [hg]; exact (below_size (by repeat (first | (with_reducible first | exact HB.out | apply below_alloc | apply pw_below_drewN | apply below_drew1 | apply bytes_below1) | exact HB.out))) : w.heap.size ≤ gb269)); clear HB; have HB := n0_; have BK269 := n1_; have GW269 := n2_; have GE269 := n3_; clear n0_ n1_ n2_ n3_; clear hb hbox hg) | ((with_reducible refine gate_dst (N := 5) rfl ?_); refine box_event ?hg (N := 5) ?hd (cs := #[.int .i64 a2_0,.int .i64 a2_1,.bool a2_2,.string a2_3]) (t := 23) ?hr ?_; (case hd => rfl); (case hg => rfl); (case hr => first | (go_simp; done) | (go_simp; rfl)); intro gb270 hg w83 hbox hb; have n0_ := Aside0.mk (blk_below (g := gb269) (o := .cells #[.int .i64 a1_0,.int .i64 a1_1,.bool a1_2,.string a1_3] 23 (0,0)) (by (with_reducible repeat (first | refine blk_bytes ?_ _ _ | refine blk_drewN ?_ _ | refine blk_drew ?_ | refine blk_alloc ?_ _)); exact BK269.out) hb); have n1_ := Aside0.mk (below_step (by repeat (first | (with_reducible first | exact HB.out | apply below_alloc | apply pw_below_drewN | apply below_drew1 | apply bytes_below1 | refine below_set ?_ GE269.out) | exact HB.out)) hb); have n2_ := Aside0.mk (hbox); have n3_ := Aside0.mk ((by rw [hg]; exact (below_size (by repeat (first | (with_reducible first | exact HB.out | apply below_alloc | apply pw_below_drewN | apply below_drew1 | apply bytes_below1 | refine below_set ?_ GE269.out) | exact HB.out))) : w.heap.size ≤ gb270)); have n4_ := Aside0.mk ((by rw [hg]; exact (below_size (by repeat (first | (with_reducible first | exact HB.out | apply below_alloc | apply pw_below_drewN | apply below_drew1 | apply bytes_below1 | refine below_set ?_ GE269.out) | exact HB.out))) : w.heap.size ≤ gb270)); have n5_ := Aside0.mk ((by rw [hg]; exact Nat.ne_of_lt (blk_lt (g := gb269) (o := .cells #[.int .i64 a1_0,.int .i64 a1_1,.bool a1_2,.string a1_3] 23 (0,0)) (by (with_reducible repeat (first | refine blk_bytes ?_ _ _ | refine blk_drewN ?_ _ | refine blk_drew ?_ | refine blk_alloc ?_ _)); exact BK269.out)) : gb269 ≠ gb270)); have n6_ := Aside0.mk ((by rw [hg]; exact Nat.ne_of_gt (blk_lt (g := gb269) (o := .cells #[.int .i64 a1_0,.int .i64 a1_1,.bool a1_2,.string a1_3] 23 (0,0)) (by (with_reducible repeat (first | refine blk_bytes ?_ _ _ | refine blk_drewN ?_ _ | refine blk_drew ?_ | refine blk_alloc ?_ _)); exact BK269.out)) : gb270 ≠ gb269)); clear BK269; clear HB; have BK269 := n0_; have HB := n1_; have BK270 := n2_; have GW270 := n3_; have GE270 := n4_; have NB269_270 := n5_; have NB270_269 := n6_; clear n0_ n1_ n2_ n3_ n4_ n5_ n6_; clear hb hbox hg))
               have n0_ := Aside0.mk (blk_drew BK269.out)
               have n1_ := Aside0.mk (blk_drew BK270.out)
               have n2_ := Aside0.mk (below_drew1 HB.out)
               clear BK269
               clear BK270
               clear HB
               have BK269 := n0_
               have BK270 := n1_
               have HB := n2_
               clear n0_ n1_ n2_
               refine start_ (n := 13) (S := fun w' => w'.cell? ⟨gb269,0,none⟩ = some (.int .i64 a1_0) ∧ w'.cell? ⟨gb269,1,none⟩ = some (.int .i64 a1_1) ∧ w'.cell? ⟨gb269,2,none⟩ = some (.bool a1_2) ∧ w'.cell? ⟨gb269,3,none⟩ = some (.string a1_3) ∧ w'.cell? ⟨gb270,0,none⟩ = some (.int .i64 a2_0) ∧ w'.cell? ⟨gb270,1,none⟩ = some (.int .i64 a2_1) ∧ w'.cell? ⟨gb270,2,none⟩ = some (.bool a2_2) ∧ w'.cell? ⟨gb270,3,none⟩ = some (.string a2_3)) (ds := []) #[false,false,false,false,false,false,false,false,false,false,false,false,false] (by kernel_rfl) rfl rfl ⟨(blk_cell BK269.out 0).trans rfl,(blk_cell BK269.out 1).trans rfl,(blk_cell BK269.out 2).trans rfl,(blk_cell BK269.out 3).trans rfl,(blk_cell BK270.out 0).trans rfl,(blk_cell BK270.out 1).trans rfl,(blk_cell BK270.out 2).trans rfl,(blk_cell BK270.out 3).trans rfl⟩ (fun hHeld => ?_); refine with_tabW value_judge.tab1 value_judge.bits1 (fun HT_ HW_ => ?_)
               generalize w83.drew = w84 at BK269 BK270 HB hHeld ⊢
               refine pure_ (i := 0) (N := some 8) (v := ?_) (a' := ?_) #[true,false,false,false,false,false,false,false,false,false,false,false,false] rfl rfl (any_of HT_.out (by kernel_rfl)) (fun _ _ _ h => h) (Or.inl ⟨by rfl,?_⟩) ?_ ?_
               rotate_left
               · intro w'
                 go_simp
                 with_reducible rfl
               rotate_left
               · simp only [Act.put,List.setIfInBounds_toArray,List.set_cons_zero,List.set_cons_succ,i64_w,i32_w]
                 rfl
               refine pure_ (i := 2) (N := some 10) (v := ?_) (a' := ?_) #[true,false,true,false,false,false,false,false,false,false,false,false,false] rfl rfl (any_of HT_.out (by kernel_rfl)) (fun _ _ _ h => h) (Or.inl ⟨by rfl,?_⟩) ?_ ?_
               rotate_left
               · intro w'
                 go_simp
                 with_reducible rfl
               rotate_left
               · simp only [Act.put,List.setIfInBounds_toArray,List.set_cons_zero,List.set_cons_succ,i64_w,i32_w]
                 rfl
               refine pure_ (i := 5) (N := some 13) (v := ?_) (a' := ?_) #[true,false,true,false,false,true,false,false,false,false,false,false,false] rfl rfl (any_of HT_.out (by kernel_rfl)) (fun _ _ _ h => h) (Or.inl ⟨by rfl,?_⟩) ?_ ?_
               rotate_left
               · intro w'
                 go_simp
                 with_reducible rfl
               rotate_left
               · simp only [Act.put,List.setIfInBounds_toArray,List.set_cons_zero,List.set_cons_succ,i64_w,i32_w]
                 rfl
               refine pure_ (i := 7) (N := some 15) (v := ?_) (a' := ?_) #[true,false,true,false,false,true,false,true,false,false,false,false,false] rfl rfl (any_of HT_.out (by kernel_rfl)) (fun _ _ _ h => h) (Or.inl ⟨by rfl,?_⟩) ?_ ?_
               rotate_left
               · intro w'
                 go_simp
                 with_reducible rfl
               rotate_left
               · simp only [Act.put,List.setIfInBounds_toArray,List.set_cons_zero,List.set_cons_succ,i64_w,i32_w]
                 rfl
               refine take_ (i := 1) (N := some 9) (v := ?_) (a' := ?_) #[true,true,true,false,false,true,false,true,false,false,false,false,false] rfl rfl (take_ofW HT_.out HW_.out (by kernel_rfl)) (fun _ _ _ h => h) (Or.inl ⟨by rfl,?_⟩) hHeld ?_ ?_
               rotate_left
               · rintro w' ⟨s0,s1,s2,s3,s4,s5,s6,s7⟩
                 go_simp
                 with_reducible rfl
               rotate_left
               · simp only [Act.put,List.setIfInBounds_toArray,List.set_cons_zero,List.set_cons_succ,i64_w,i32_w]
                 rfl
               refine take_ (i := 3) (N := some 11) (v := ?_) (a' := ?_) #[true,true,true,true,false,true,false,true,false,false,false,false,false] rfl rfl (take_ofW HT_.out HW_.out (by kernel_rfl)) (fun _ _ _ h => h) (Or.inl ⟨by rfl,?_⟩) hHeld ?_ ?_
               rotate_left
               · rintro w' ⟨s0,s1,s2,s3,s4,s5,s6,s7⟩
                 go_simp
                 with_reducible rfl
               rotate_left
               · simp only [Act.put,List.setIfInBounds_toArray,List.set_cons_zero,List.set_cons_succ,i64_w,i32_w]
                 rfl
               refine take_ (i := 6) (N := some 14) (v := ?_) (a' := ?_) #[true,true,true,true,false,true,true,true,false,false,false,false,false] rfl rfl (take_ofW HT_.out HW_.out (by kernel_rfl)) (fun _ _ _ h => h) (Or.inl ⟨by rfl,?_⟩) hHeld ?_ ?_
               rotate_left
               · rintro w' ⟨s0,s1,s2,s3,s4,s5,s6,s7⟩
                 go_simp
                 with_reducible rfl
               rotate_left
               · simp only [Act.put,List.setIfInBounds_toArray,List.set_cons_zero,List.set_cons_succ,i64_w,i32_w]
                 rfl
               refine take_ (i := 8) (N := some 16) (v := ?_) (a' := ?_) #[true,true,true,true,false,true,true,true,true,false,false,false,false] rfl rfl (take_ofW HT_.out HW_.out (by kernel_rfl)) (fun _ _ _ h => h) (Or.inl ⟨by rfl,?_⟩) hHeld ?_ ?_
               rotate_left
               · rintro w' ⟨s0,s1,s2,s3,s4,s5,s6,s7⟩
                 go_simp
                 with_reducible rfl
               rotate_left
               · simp only [Act.put,List.setIfInBounds_toArray,List.set_cons_zero,List.set_cons_succ,i64_w,i32_w]
                 rfl
               refine one_ (i := 4) (N := some 12) #[true,true,true,true,true,true,true,true,true,false,false,false,false] rfl rfl (one_of HT_.out (by kernel_rfl)) (by decide) (fun K hK => ?_)
               refine goes_ Tryz.func81 (by kernel_rfl) rfl #[.int .i64 a1_1,.int .i64 a2_1] (by rfl) rfl rfl (by (try simp only [List.map_toArray,List.map_cons,List.map_nil]); first | done | rfl | (simp only [List.length_drop,List.length_take]; rfl)) ?_
               with_reducible refine (cmp_Compare_int.calls a1_1 a2_1 t271 _ A4.out).mono ?_
               rintro e w' ⟨rfl,⟨nd,rfl⟩⟩
               refine ⟨_,rfl,?_⟩
               refine hK.out _ _ ⟨(blk_cell BK269.out 0).trans rfl,(blk_cell BK269.out 1).trans rfl,(blk_cell BK269.out 2).trans rfl,(blk_cell BK269.out 3).trans rfl,(blk_cell BK270.out 0).trans rfl,(blk_cell BK270.out 1).trans rfl,(blk_cell BK270.out 2).trans rfl,(blk_cell BK270.out 3).trans rfl⟩ (fun hHeld => ?_)
               clear hK K
               refine norm_ (a' := ?_) ?_ ?_
               rotate_left
               · show Act.put _ (some 12) _ = _
                 simp only [Act.put,List.setIfInBounds_toArray,List.set_cons_zero,List.set_cons_succ,i64_w,i32_w]
                 rfl
               refine one_ (i := 9) (N := some 17) #[true,true,true,true,true,true,true,true,true,true,false,false,false] rfl rfl (one_of HT_.out (by kernel_rfl)) (by decide) (fun K hK => ?_)
               refine goes_ Tryz.func82 (by kernel_rfl) rfl #[.string a1_3,.string a2_3] (by rfl) rfl rfl (by (try simp only [List.map_toArray,List.map_cons,List.map_nil]); first | done | rfl | (simp only [List.length_drop,List.length_take]; rfl)) ?_
               with_reducible refine (strings_Compare.calls a1_3 a2_3 t272 _ A5.out).mono ?_
               rintro e w' ⟨rfl,⟨nd,rfl⟩⟩
               refine ⟨_,rfl,?_⟩
               refine hK.out _ _ ⟨(blk_cell BK269.out 0).trans rfl,(blk_cell BK269.out 1).trans rfl,(blk_cell BK269.out 2).trans rfl,(blk_cell BK269.out 3).trans rfl,(blk_cell BK270.out 0).trans rfl,(blk_cell BK270.out 1).trans rfl,(blk_cell BK270.out 2).trans rfl,(blk_cell BK270.out 3).trans rfl⟩ (fun hHeld => ?_)
               clear hK K
               refine norm_ (a' := ?_) ?_ ?_
               rotate_left
               · show Act.put _ (some 17) _ = _
                 simp only [Act.put,List.setIfInBounds_toArray,List.set_cons_zero,List.set_cons_succ,i64_w,i32_w]
                 rfl
               refine one_ (i := 10) (N := some 18) #[true,true,true,true,true,true,true,true,true,true,true,false,false] rfl rfl (one_of HT_.out (by kernel_rfl)) (by decide) (fun K hK => ?_)
               refine Kd.R_lit_step (Kd.int .i64) _ 3 ?hg (N := 18) ?hd (xs := ([t271,t272] : List Int)) (inner := [.int .i64 t271,.int .i64 t272]) (ok := fun _ => True) (okp := fun _ => True) ?hr ?hp (fun _ hk => hk) trivial (Below.refl _ _) (Nat.le_refl _) (by simp) ?_; (case hd => rfl); (case hg => rfl); (case hr => first | (go_simp; done) | (go_simp; rfl)); (case hp => exact (Reps.one (show Kd.M (Kd.int .i64) _ _ _ t271 [.int .i64 t271] from rfl) (Reps.one (show Kd.M (Kd.int .i64) _ _ _ t272 [.int .i64 t272] from rfl) (Reps.none _ _))))
               intro v274 w85 ho86 hb hg_ hnew_
               clear hg_ hnew_
               (first | rw [← Ny273.out] at ho86 | (simp only [Int.reduceToNat] at ho86; rw [← Ny273.out] at ho86))
               have n0_ := Aside0.mk (Kd.R_lower ho86 (below_size (by repeat (first | (with_reducible first | exact HB.out | apply below_alloc | apply pw_below_drewN | apply below_drew1 | apply bytes_below1 | refine below_set ?_ GE269.out | refine below_set ?_ GE270.out) | exact HB.out))))
               have n1_ := Aside0.mk (blk_below (g := gb269) (o := .cells #[.int .i64 a1_0,.int .i64 a1_1,.bool a1_2,.string a1_3] 23 (0,0)) (by (with_reducible repeat (first | refine blk_bytes ?_ _ _ | refine blk_drewN ?_ _ | refine blk_drew ?_ | refine blk_alloc ?_ _)); exact BK269.out) hb)
               have n2_ := Aside0.mk (blk_below (g := gb270) (o := .cells #[.int .i64 a2_0,.int .i64 a2_1,.bool a2_2,.string a2_3] 23 (0,0)) (by (with_reducible repeat (first | refine blk_bytes ?_ _ _ | refine blk_drewN ?_ _ | refine blk_drew ?_ | refine blk_alloc ?_ _)); exact BK270.out) hb)
               have n3_ := Aside0.mk (below_step (by repeat (first | (with_reducible first | exact HB.out | apply below_alloc | apply pw_below_drewN | apply below_drew1 | apply bytes_below1 | refine below_set ?_ GE269.out | refine below_set ?_ GE270.out) | exact HB.out)) hb)
               clear BK269
               clear BK270
               clear HB
               have HO275 := n0_
               have BK269 := n1_
               have BK270 := n2_
               have HB := n3_
               clear n0_ n1_ n2_ n3_
               clear hb ho86
               obtain ⟨Ao87,co87,eo87⟩ := Kd.R_slice HO275.out
               (first | subst eo87 | (injection eo87 with f1_ f2_ f3_; have f4_ := f1_.symm; have f5_ := f3_.symm; clear f1_ f2_ f3_; subst f4_; subst f5_))
               refine hK.out _ _ ⟨(blk_cell BK269.out 0).trans rfl,(blk_cell BK269.out 1).trans rfl,(blk_cell BK269.out 2).trans rfl,(blk_cell BK269.out 3).trans rfl,(blk_cell BK270.out 0).trans rfl,(blk_cell BK270.out 1).trans rfl,(blk_cell BK270.out 2).trans rfl,(blk_cell BK270.out 3).trans rfl⟩ (fun hHeld => ?_)
               clear hK K
               refine norm_ (a' := ?_) ?_ ?_
               rotate_left
               · show Act.put _ (some 18) _ = _
                 simp only [Act.put,List.setIfInBounds_toArray,List.set_cons_zero,List.set_cons_succ,i64_w,i32_w]
                 rfl
               refine one_ (i := 11) (N := some 19) #[true,true,true,true,true,true,true,true,true,true,true,true,false] rfl rfl (one_of HT_.out (by kernel_rfl)) (by decide) (fun K hK => ?_)
               refine goes_ Tryz.func80 (by kernel_rfl) rfl #[.slice Ao87 y273.length co87] (by rfl) rfl rfl (by (try simp only [List.map_toArray,List.map_cons,List.map_nil]); first | done | rfl | (simp only [List.length_drop,List.length_take]; rfl)) ?_
               with_reducible refine (cmp_Or_int.calls k _ _ y273 t276 _ ?side1 ?side2 A6.out).mono ?_
               (case side1 => repeat (first | exact (Kd.R_reads' HO275.out).2.2 | (with_reducible refine Kd.C_alloc ?_ _) | (with_reducible refine C_bytes ?_ _ _) | (with_reducible refine Kd.C_drewN ?_ _) | (with_reducible refine Kd.C_drew ?_)))
               (case side2 => exact (Kd.R_reads' HO275.out).2.1)
               rintro e w' ⟨rfl,⟨nd,rfl⟩⟩
               refine ⟨_,rfl,?_⟩
               refine hK.out _ _ ⟨(blk_cell BK269.out 0).trans rfl,(blk_cell BK269.out 1).trans rfl,(blk_cell BK269.out 2).trans rfl,(blk_cell BK269.out 3).trans rfl,(blk_cell BK270.out 0).trans rfl,(blk_cell BK270.out 1).trans rfl,(blk_cell BK270.out 2).trans rfl,(blk_cell BK270.out 3).trans rfl⟩ (fun hHeld => ?_)
               clear hK K
               refine norm_ (a' := ?_) ?_ ?_
               rotate_left
               · show Act.put _ (some 19) _ = _
                 simp only [Act.put,List.setIfInBounds_toArray,List.set_cons_zero,List.set_cons_succ,i64_w,i32_w]
                 rfl
               refine pure_ (i := 12) (N := some 7) (v := ?_) (a' := ?_) #[true,true,true,true,true,true,true,true,true,true,true,true,true] rfl rfl (any_of HT_.out (by kernel_rfl)) (fun _ _ _ h => h) (Or.inl ⟨by rfl,?_⟩) ?_ ?_
               rotate_left
               · intro w'
                 go_simp
                 with_reducible rfl
               rotate_left
               · simp only [Act.put,List.setIfInBounds_toArray,List.set_cons_zero,List.set_cons_succ,i64_w,i32_w]
                 rfl
               refine done_ (done_of HT_.out (by kernel_rfl)) ?_
               try go_wp2
               go_ret
               exact ⟨by first | rfl | (simp [errW_none,errW_some] <;> rfl) | (simp [*,errW_none,errW_some] <;> rfl),by repeat (first | (with_reducible first | exact HB.out | apply below_alloc | apply pw_below_drewN | apply below_drew1 | apply bytes_below1 | refine below_set ?_ GE269.out | refine below_set ?_ GE270.out) | exact HB.out)⟩
             · rw [if_neg c81] at H
               have c81b0 : (a0 == 13) = false := beq_eq_false_iff_ne.mpr c81
               have c81b1 : (a0 != 13) = true := bne_iff_ne.mpr c81
               by_cases c88 : a0 = 14
               · rw [if_pos c88] at H
                 have c88b0 : (a0 == 14) = true := beq_iff_eq.mpr c88
                 have c88b1 : (a0 != 14) = false := bne_eq_false_iff_eq.mpr c88
                 clear c88
                 obtain rfl := Option.some.inj H
                 go_enter Tryz.func53,Tryz.ntmps53
                 try go_wp2_with (first | ((with_reducible refine gate_dst (N := 4) rfl ?_); refine box_event ?hg (N := 4) ?hd (cs := #[.int .i64 a1_0,.int .i64 a1_1,.bool a1_2,.string a1_3]) (t := 23) ?hr ?_; (case hd => rfl); (case hg => rfl); (case hr => first | (go_simp; done) | (go_simp; rfl)); intro gb269 hg w89 hbox hb; have n0_ := Aside0.mk (below_step (by repeat (first | (with_reducible first | exact HB.out | apply below_alloc | apply pw_below_drewN | apply below_drew1 | apply bytes_below1) | exact HB.out)) hb); have n1_ := Aside0.mk (hbox); have n2_ := Aside0.mk ((by rw [hg]; exact (below_size (by repeat (first | (with_reducible first | exact HB.out | apply below_alloc | apply pw_below_drewN | apply below_drew1 | apply bytes_below1) | exact HB.out))) : w.heap.size ≤ gb269)); have n3_ := Aside0.mk ((by rw [hg]; exact (below_size (by repeat (first | (with_reducible first | exact HB.out | apply below_alloc | apply pw_below_drewN | apply below_drew1 | apply bytes_below1) | exact HB.out))) : w.heap.size ≤ gb269)); clear HB; have HB := n0_; have BK269 := n1_; have GW269 := n2_; have GE269 := n3_; clear n0_ n1_ n2_ n3_; clear hb hbox hg) | ((with_reducible refine gate_dst (N := 5) rfl ?_); refine box_event ?hg (N := 5) ?hd (cs := #[.int .i64 a2_0,.int .i64 a2_1,.bool a2_2,.string a2_3]) (t := 23) ?hr ?_; (case hd => rfl); (case hg => rfl); (case hr => first | (go_simp; done) | (go_simp; rfl)); intro gb270 hg w90 hbox hb; have n0_ := Aside0.mk (blk_below (g := gb269) (o := .cells #[.int .i64 a1_0,.int .i64 a1_1,.bool a1_2,.string a1_3] 23 (0,0)) (by (with_reducible repeat (first | refine blk_bytes ?_ _ _ | refine blk_drewN ?_ _ | refine blk_drew ?_ | refine blk_alloc ?_ _)); exact BK269.out) hb); have n1_ := Aside0.mk (below_step (by repeat (first | (with_reducible first | exact HB.out | apply below_alloc | apply pw_below_drewN | apply below_drew1 | apply bytes_below1 | refine below_set ?_ GE269.out) | exact HB.out)) hb); have n2_ := Aside0.mk (hbox); have n3_ := Aside0.mk ((by rw [hg]; exact (below_size (by repeat (first | (with_reducible first | exact HB.out | apply below_alloc | apply pw_below_drewN | apply below_drew1 | apply bytes_below1 | refine below_set ?_ GE269.out) | exact HB.out))) : w.heap.size ≤ gb270)); have n4_ := Aside0.mk ((by rw [hg]; exact (below_size (by repeat (first | (with_reducible first | exact HB.out | apply below_alloc | apply pw_below_drewN | apply below_drew1 | apply bytes_below1 | refine below_set ?_ GE269.out) | exact HB.out))) : w.heap.size ≤ gb270)); have n5_ := Aside0.mk ((by rw [hg]; exact Nat.ne_of_lt (blk_lt (g := gb269) (o := .cells #[.int .i64 a1_0,.int .i64 a1_1,.bool a1_2,.string a1_3] 23 (0,0)) (by (with_reducible repeat (first | refine blk_bytes ?_ _ _ | refine blk_drewN ?_ _ | refine blk_drew ?_ | refine blk_alloc ?_ _)); exact BK269.out)) : gb269 ≠ gb270)); have n6_ := Aside0.mk ((by rw [hg]; exact Nat.ne_of_gt (blk_lt (g := gb269) (o := .cells #[.int .i64 a1_0,.int .i64 a1_1,.bool a1_2,.string a1_3] 23 (0,0)) (by (with_reducible repeat (first | refine blk_bytes ?_ _ _ | refine blk_drewN ?_ _ | refine blk_drew ?_ | refine blk_alloc ?_ _)); exact BK269.out)) : gb270 ≠ gb269)); clear BK269; clear HB; have BK269 := n0_; have HB := n1_; have BK270 := n2_; have GW270 := n3_; have GE270 := n4_; have NB269_270 := n5_; have NB270_269 := n6_; clear n0_ n1_ n2_ n3_ n4_ n5_ n6_; clear hb hbox hg))
                 have n0_ := Aside0.mk (blk_drew BK269.out)
                 have n1_ := Aside0.mk (blk_drew BK270.out)
                 have n2_ := Aside0.mk (below_drew1 HB.out)
                 clear BK269
                 clear BK270
                 clear HB
                 have BK269 := n0_
                 have BK270 := n1_
                 have HB := n2_
                 clear n0_ n1_ n2_
                 refine start_ (n := 13) (S := fun w' => w'.cell? ⟨gb269,0,none⟩ = some (.int .i64 a1_0) ∧ w'.cell? ⟨gb269,1,none⟩ = some (.int .i64 a1_1) ∧ w'.cell? ⟨gb269,2,none⟩ = some (.bool a1_2) ∧ w'.cell? ⟨gb269,3,none⟩ = some (.string a1_3) ∧ w'.cell? ⟨gb270,0,none⟩ = some (.int .i64 a2_0) ∧ w'.cell? ⟨gb270,1,none⟩ = some (.int .i64 a2_1) ∧ w'.cell? ⟨gb270,2,none⟩ = some (.bool a2_2) ∧ w'.cell? ⟨gb270,3,none⟩ = some (.string a2_3)) (ds := []) #[false,false,false,false,false,false,false,false,false,false,false,false,false] (by kernel_rfl) rfl rfl ⟨(blk_cell BK269.out 0).trans rfl,(blk_cell BK269.out 1).trans rfl,(blk_cell BK269.out 2).trans rfl,(blk_cell BK269.out 3).trans rfl,(blk_cell BK270.out 0).trans rfl,(blk_cell BK270.out 1).trans rfl,(blk_cell BK270.out 2).trans rfl,(blk_cell BK270.out 3).trans rfl⟩ (fun hHeld => ?_); refine with_tabW value_judge.tab1 value_judge.bits1 (fun HT_ HW_ => ?_)
                 generalize w90.drew = w91 at BK269 BK270 HB hHeld ⊢
                 refine pure_ (i := 0) (N := some 8) (v := ?_) (a' := ?_) #[true,false,false,false,false,false,false,false,false,false,false,false,false] rfl rfl (any_of HT_.out (by kernel_rfl)) (fun _ _ _ h => h) (Or.inl ⟨by rfl,?_⟩) ?_ ?_
                 rotate_left
                 · intro w'
                   go_simp
                   with_reducible rfl
                 rotate_left
                 · simp only [Act.put,List.setIfInBounds_toArray,List.set_cons_zero,List.set_cons_succ,i64_w,i32_w]
                   rfl
                 refine pure_ (i := 2) (N := some 10) (v := ?_) (a' := ?_) #[true,false,true,false,false,false,false,false,false,false,false,false,false] rfl rfl (any_of HT_.out (by kernel_rfl)) (fun _ _ _ h => h) (Or.inl ⟨by rfl,?_⟩) ?_ ?_
                 rotate_left
                 · intro w'
                   go_simp
                   with_reducible rfl
                 rotate_left
                 · simp only [Act.put,List.setIfInBounds_toArray,List.set_cons_zero,List.set_cons_succ,i64_w,i32_w]
                   rfl
                 refine pure_ (i := 5) (N := some 13) (v := ?_) (a' := ?_) #[true,false,true,false,false,true,false,false,false,false,false,false,false] rfl rfl (any_of HT_.out (by kernel_rfl)) (fun _ _ _ h => h) (Or.inl ⟨by rfl,?_⟩) ?_ ?_
                 rotate_left
                 · intro w'
                   go_simp
                   with_reducible rfl
                 rotate_left
                 · simp only [Act.put,List.setIfInBounds_toArray,List.set_cons_zero,List.set_cons_succ,i64_w,i32_w]
                   rfl
                 refine pure_ (i := 7) (N := some 15) (v := ?_) (a' := ?_) #[true,false,true,false,false,true,false,true,false,false,false,false,false] rfl rfl (any_of HT_.out (by kernel_rfl)) (fun _ _ _ h => h) (Or.inl ⟨by rfl,?_⟩) ?_ ?_
                 rotate_left
                 · intro w'
                   go_simp
                   with_reducible rfl
                 rotate_left
                 · simp only [Act.put,List.setIfInBounds_toArray,List.set_cons_zero,List.set_cons_succ,i64_w,i32_w]
                   rfl
                 refine take_ (i := 1) (N := some 9) (v := ?_) (a' := ?_) #[true,true,true,false,false,true,false,true,false,false,false,false,false] rfl rfl (take_ofW HT_.out HW_.out (by kernel_rfl)) (fun _ _ _ h => h) (Or.inl ⟨by rfl,?_⟩) hHeld ?_ ?_
                 rotate_left
                 · rintro w' ⟨s0,s1,s2,s3,s4,s5,s6,s7⟩
                   go_simp
                   with_reducible rfl
                 rotate_left
                 · simp only [Act.put,List.setIfInBounds_toArray,List.set_cons_zero,List.set_cons_succ,i64_w,i32_w]
                   rfl
                 refine take_ (i := 3) (N := some 11) (v := ?_) (a' := ?_) #[true,true,true,true,false,true,false,true,false,false,false,false,false] rfl rfl (take_ofW HT_.out HW_.out (by kernel_rfl)) (fun _ _ _ h => h) (Or.inl ⟨by rfl,?_⟩) hHeld ?_ ?_
                 rotate_left
                 · rintro w' ⟨s0,s1,s2,s3,s4,s5,s6,s7⟩
                   go_simp
                   with_reducible rfl
                 rotate_left
                 · simp only [Act.put,List.setIfInBounds_toArray,List.set_cons_zero,List.set_cons_succ,i64_w,i32_w]
                   rfl
                 refine take_ (i := 6) (N := some 14) (v := ?_) (a' := ?_) #[true,true,true,true,false,true,true,true,false,false,false,false,false] rfl rfl (take_ofW HT_.out HW_.out (by kernel_rfl)) (fun _ _ _ h => h) (Or.inl ⟨by rfl,?_⟩) hHeld ?_ ?_
                 rotate_left
                 · rintro w' ⟨s0,s1,s2,s3,s4,s5,s6,s7⟩
                   go_simp
                   with_reducible rfl
                 rotate_left
                 · simp only [Act.put,List.setIfInBounds_toArray,List.set_cons_zero,List.set_cons_succ,i64_w,i32_w]
                   rfl
                 refine take_ (i := 8) (N := some 16) (v := ?_) (a' := ?_) #[true,true,true,true,false,true,true,true,true,false,false,false,false] rfl rfl (take_ofW HT_.out HW_.out (by kernel_rfl)) (fun _ _ _ h => h) (Or.inl ⟨by rfl,?_⟩) hHeld ?_ ?_
                 rotate_left
                 · rintro w' ⟨s0,s1,s2,s3,s4,s5,s6,s7⟩
                   go_simp
                   with_reducible rfl
                 rotate_left
                 · simp only [Act.put,List.setIfInBounds_toArray,List.set_cons_zero,List.set_cons_succ,i64_w,i32_w]
                   rfl
                 refine one_ (i := 4) (N := some 12) #[true,true,true,true,true,true,true,true,true,false,false,false,false] rfl rfl (one_of HT_.out (by kernel_rfl)) (by decide) (fun K hK => ?_)
                 refine goes_ Tryz.func81 (by kernel_rfl) rfl #[.int .i64 a1_1,.int .i64 a2_1] (by rfl) rfl rfl (by (try simp only [List.map_toArray,List.map_cons,List.map_nil]); first | done | rfl | (simp only [List.length_drop,List.length_take]; rfl)) ?_
                 with_reducible refine (cmp_Compare_int.calls a1_1 a2_1 t271 _ A4.out).mono ?_
                 rintro e w' ⟨rfl,⟨nd,rfl⟩⟩
                 refine ⟨_,rfl,?_⟩
                 refine hK.out _ _ ⟨(blk_cell BK269.out 0).trans rfl,(blk_cell BK269.out 1).trans rfl,(blk_cell BK269.out 2).trans rfl,(blk_cell BK269.out 3).trans rfl,(blk_cell BK270.out 0).trans rfl,(blk_cell BK270.out 1).trans rfl,(blk_cell BK270.out 2).trans rfl,(blk_cell BK270.out 3).trans rfl⟩ (fun hHeld => ?_)
                 clear hK K
                 refine norm_ (a' := ?_) ?_ ?_
                 rotate_left
                 · show Act.put _ (some 12) _ = _
                   simp only [Act.put,List.setIfInBounds_toArray,List.set_cons_zero,List.set_cons_succ,i64_w,i32_w]
                   rfl
                 refine one_ (i := 9) (N := some 17) #[true,true,true,true,true,true,true,true,true,true,false,false,false] rfl rfl (one_of HT_.out (by kernel_rfl)) (by decide) (fun K hK => ?_)
                 refine goes_ Tryz.func82 (by kernel_rfl) rfl #[.string a1_3,.string a2_3] (by rfl) rfl rfl (by (try simp only [List.map_toArray,List.map_cons,List.map_nil]); first | done | rfl | (simp only [List.length_drop,List.length_take]; rfl)) ?_
                 with_reducible refine (strings_Compare.calls a1_3 a2_3 t272 _ A5.out).mono ?_
                 rintro e w' ⟨rfl,⟨nd,rfl⟩⟩
                 refine ⟨_,rfl,?_⟩
                 refine hK.out _ _ ⟨(blk_cell BK269.out 0).trans rfl,(blk_cell BK269.out 1).trans rfl,(blk_cell BK269.out 2).trans rfl,(blk_cell BK269.out 3).trans rfl,(blk_cell BK270.out 0).trans rfl,(blk_cell BK270.out 1).trans rfl,(blk_cell BK270.out 2).trans rfl,(blk_cell BK270.out 3).trans rfl⟩ (fun hHeld => ?_)
                 clear hK K
                 refine norm_ (a' := ?_) ?_ ?_
                 rotate_left
                 · show Act.put _ (some 17) _ = _
                   simp only [Act.put,List.setIfInBounds_toArray,List.set_cons_zero,List.set_cons_succ,i64_w,i32_w]
                   rfl
                 refine one_ (i := 10) (N := some 18) #[true,true,true,true,true,true,true,true,true,true,true,false,false] rfl rfl (one_of HT_.out (by kernel_rfl)) (by decide) (fun K hK => ?_)
                 refine Kd.R_lit_step (Kd.int .i64) _ 3 ?hg (N := 18) ?hd (xs := ([t271,t272] : List Int)) (inner := [.int .i64 t271,.int .i64 t272]) (ok := fun _ => True) (okp := fun _ => True) ?hr ?hp (fun _ hk => hk) trivial (Below.refl _ _) (Nat.le_refl _) (by simp) ?_; (case hd => rfl); (case hg => rfl); (case hr => first | (go_simp; done) | (go_simp; rfl)); (case hp => exact (Reps.one (show Kd.M (Kd.int .i64) _ _ _ t271 [.int .i64 t271] from rfl) (Reps.one (show Kd.M (Kd.int .i64) _ _ _ t272 [.int .i64 t272] from rfl) (Reps.none _ _))))
                 intro v274 w92 ho93 hb hg_ hnew_
                 clear hg_ hnew_
                 (first | rw [← Ny273.out] at ho93 | (simp only [Int.reduceToNat] at ho93; rw [← Ny273.out] at ho93))
                 have n0_ := Aside0.mk (Kd.R_lower ho93 (below_size (by repeat (first | (with_reducible first | exact HB.out | apply below_alloc | apply pw_below_drewN | apply below_drew1 | apply bytes_below1 | refine below_set ?_ GE269.out | refine below_set ?_ GE270.out) | exact HB.out))))
                 have n1_ := Aside0.mk (blk_below (g := gb269) (o := .cells #[.int .i64 a1_0,.int .i64 a1_1,.bool a1_2,.string a1_3] 23 (0,0)) (by (with_reducible repeat (first | refine blk_bytes ?_ _ _ | refine blk_drewN ?_ _ | refine blk_drew ?_ | refine blk_alloc ?_ _)); exact BK269.out) hb)
                 have n2_ := Aside0.mk (blk_below (g := gb270) (o := .cells #[.int .i64 a2_0,.int .i64 a2_1,.bool a2_2,.string a2_3] 23 (0,0)) (by (with_reducible repeat (first | refine blk_bytes ?_ _ _ | refine blk_drewN ?_ _ | refine blk_drew ?_ | refine blk_alloc ?_ _)); exact BK270.out) hb)
                 have n3_ := Aside0.mk (below_step (by repeat (first | (with_reducible first | exact HB.out | apply below_alloc | apply pw_below_drewN | apply below_drew1 | apply bytes_below1 | refine below_set ?_ GE269.out | refine below_set ?_ GE270.out) | exact HB.out)) hb)
                 clear BK269
                 clear BK270
                 clear HB
                 have HO275 := n0_
                 have BK269 := n1_
                 have BK270 := n2_
                 have HB := n3_
                 clear n0_ n1_ n2_ n3_
                 clear hb ho93
                 obtain ⟨Ao94,co94,eo94⟩ := Kd.R_slice HO275.out
                 (first | subst eo94 | (injection eo94 with f1_ f2_ f3_; have f4_ := f1_.symm; have f5_ := f3_.symm; clear f1_ f2_ f3_; subst f4_; subst f5_))
                 refine hK.out _ _ ⟨(blk_cell BK269.out 0).trans rfl,(blk_cell BK269.out 1).trans rfl,(blk_cell BK269.out 2).trans rfl,(blk_cell BK269.out 3).trans rfl,(blk_cell BK270.out 0).trans rfl,(blk_cell BK270.out 1).trans rfl,(blk_cell BK270.out 2).trans rfl,(blk_cell BK270.out 3).trans rfl⟩ (fun hHeld => ?_)
                 clear hK K
                 refine norm_ (a' := ?_) ?_ ?_
                 rotate_left
                 · show Act.put _ (some 18) _ = _
                   simp only [Act.put,List.setIfInBounds_toArray,List.set_cons_zero,List.set_cons_succ,i64_w,i32_w]
                   rfl
                 refine one_ (i := 11) (N := some 19) #[true,true,true,true,true,true,true,true,true,true,true,true,false] rfl rfl (one_of HT_.out (by kernel_rfl)) (by decide) (fun K hK => ?_)
                 refine goes_ Tryz.func80 (by kernel_rfl) rfl #[.slice Ao94 y273.length co94] (by rfl) rfl rfl (by (try simp only [List.map_toArray,List.map_cons,List.map_nil]); first | done | rfl | (simp only [List.length_drop,List.length_take]; rfl)) ?_
                 with_reducible refine (cmp_Or_int.calls k _ _ y273 t276 _ ?side1 ?side2 A6.out).mono ?_
                 (case side1 => repeat (first | exact (Kd.R_reads' HO275.out).2.2 | (with_reducible refine Kd.C_alloc ?_ _) | (with_reducible refine C_bytes ?_ _ _) | (with_reducible refine Kd.C_drewN ?_ _) | (with_reducible refine Kd.C_drew ?_)))
                 (case side2 => exact (Kd.R_reads' HO275.out).2.1)
                 rintro e w' ⟨rfl,⟨nd,rfl⟩⟩
                 refine ⟨_,rfl,?_⟩
                 refine hK.out _ _ ⟨(blk_cell BK269.out 0).trans rfl,(blk_cell BK269.out 1).trans rfl,(blk_cell BK269.out 2).trans rfl,(blk_cell BK269.out 3).trans rfl,(blk_cell BK270.out 0).trans rfl,(blk_cell BK270.out 1).trans rfl,(blk_cell BK270.out 2).trans rfl,(blk_cell BK270.out 3).trans rfl⟩ (fun hHeld => ?_)
                 clear hK K
                 refine norm_ (a' := ?_) ?_ ?_
                 rotate_left
                 · show Act.put _ (some 19) _ = _
                   simp only [Act.put,List.setIfInBounds_toArray,List.set_cons_zero,List.set_cons_succ,i64_w,i32_w]
                   rfl
                 refine pure_ (i := 12) (N := some 7) (v := ?_) (a' := ?_) #[true,true,true,true,true,true,true,true,true,true,true,true,true] rfl rfl (any_of HT_.out (by kernel_rfl)) (fun _ _ _ h => h) (Or.inl ⟨by rfl,?_⟩) ?_ ?_
                 rotate_left
                 · intro w'
                   go_simp
                   with_reducible rfl
                 rotate_left
                 · simp only [Act.put,List.setIfInBounds_toArray,List.set_cons_zero,List.set_cons_succ,i64_w,i32_w]
                   rfl
                 refine done_ (done_of HT_.out (by kernel_rfl)) ?_
                 try go_wp2
                 go_ret
                 exact ⟨by first | rfl | (simp [errW_none,errW_some] <;> rfl) | (simp [*,errW_none,errW_some] <;> rfl),by repeat (first | (with_reducible first | exact HB.out | apply below_alloc | apply pw_below_drewN | apply below_drew1 | apply bytes_below1 | refine below_set ?_ GE269.out | refine below_set ?_ GE270.out) | exact HB.out)⟩
               · rw [if_neg c88] at H
                 have c88b0 : (a0 == 14) = false := beq_eq_false_iff_ne.mpr c88
                 have c88b1 : (a0 != 14) = true := bne_iff_ne.mpr c88
                 obtain rfl := Option.some.inj H
                 go_enter Tryz.func53,Tryz.ntmps53
                 try go_wp2_with (first | ((with_reducible refine gate_dst (N := 4) rfl ?_); refine box_event ?hg (N := 4) ?hd (cs := #[.int .i64 a1_0,.int .i64 a1_1,.bool a1_2,.string a1_3]) (t := 23) ?hr ?_; (case hd => rfl); (case hg => rfl); (case hr => first | (go_simp; done) | (go_simp; rfl)); intro gb269 hg w95 hbox hb; have n0_ := Aside0.mk (below_step (by repeat (first | (with_reducible first | exact HB.out | apply below_alloc | apply pw_below_drewN | apply below_drew1 | apply bytes_below1) | exact HB.out)) hb); have n1_ := Aside0.mk (hbox); have n2_ := Aside0.mk ((by rw [hg]; exact (below_size (by repeat (first | (with_reducible first | exact HB.out | apply below_alloc | apply pw_below_drewN | apply below_drew1 | apply bytes_below1) | exact HB.out))) : w.heap.size ≤ gb269)); have n3_ := Aside0.mk ((by rw [hg]; exact (below_size (by repeat (first | (with_reducible first | exact HB.out | apply below_alloc | apply pw_below_drewN | apply below_drew1 | apply bytes_below1) | exact HB.out))) : w.heap.size ≤ gb269)); clear HB; have HB := n0_; have BK269 := n1_; have GW269 := n2_; have GE269 := n3_; clear n0_ n1_ n2_ n3_; clear hb hbox hg) | ((with_reducible refine gate_dst (N := 5) rfl ?_); refine box_event ?hg (N := 5) ?hd (cs := #[.int .i64 a2_0,.int .i64 a2_1,.bool a2_2,.string a2_3]) (t := 23) ?hr ?_; (case hd => rfl); (case hg => rfl); (case hr => first | (go_simp; done) | (go_simp; rfl)); intro gb270 hg w96 hbox hb; have n0_ := Aside0.mk (blk_below (g := gb269) (o := .cells #[.int .i64 a1_0,.int .i64 a1_1,.bool a1_2,.string a1_3] 23 (0,0)) (by (with_reducible repeat (first | refine blk_bytes ?_ _ _ | refine blk_drewN ?_ _ | refine blk_drew ?_ | refine blk_alloc ?_ _)); exact BK269.out) hb); have n1_ := Aside0.mk (below_step (by repeat (first | (with_reducible first | exact HB.out | apply below_alloc | apply pw_below_drewN | apply below_drew1 | apply bytes_below1 | refine below_set ?_ GE269.out) | exact HB.out)) hb); have n2_ := Aside0.mk (hbox); have n3_ := Aside0.mk ((by rw [hg]; exact (below_size (by repeat (first | (with_reducible first | exact HB.out | apply below_alloc | apply pw_below_drewN | apply below_drew1 | apply bytes_below1 | refine below_set ?_ GE269.out) | exact HB.out))) : w.heap.size ≤ gb270)); have n4_ := Aside0.mk ((by rw [hg]; exact (below_size (by repeat (first | (with_reducible first | exact HB.out | apply below_alloc | apply pw_below_drewN | apply below_drew1 | apply bytes_below1 | refine below_set ?_ GE269.out) | exact HB.out))) : w.heap.size ≤ gb270)); have n5_ := Aside0.mk ((by rw [hg]; exact Nat.ne_of_lt (blk_lt (g := gb269) (o := .cells #[.int .i64 a1_0,.int .i64 a1_1,.bool a1_2,.string a1_3] 23 (0,0)) (by (with_reducible repeat (first | refine blk_bytes ?_ _ _ | refine blk_drewN ?_ _ | refine blk_drew ?_ | refine blk_alloc ?_ _)); exact BK269.out)) : gb269 ≠ gb270)); have n6_ := Aside0.mk ((by rw [hg]; exact Nat.ne_of_gt (blk_lt (g := gb269) (o := .cells #[.int .i64 a1_0,.int .i64 a1_1,.bool a1_2,.string a1_3] 23 (0,0)) (by (with_reducible repeat (first | refine blk_bytes ?_ _ _ | refine blk_drewN ?_ _ | refine blk_drew ?_ | refine blk_alloc ?_ _)); exact BK269.out)) : gb270 ≠ gb269)); clear BK269; clear HB; have BK269 := n0_; have HB := n1_; have BK270 := n2_; have GW270 := n3_; have GE270 := n4_; have NB269_270 := n5_; have NB270_269 := n6_; clear n0_ n1_ n2_ n3_ n4_ n5_ n6_; clear hb hbox hg))
                 have n0_ := Aside0.mk (blk_drew BK269.out)
                 have n1_ := Aside0.mk (blk_drew BK270.out)
                 have n2_ := Aside0.mk (below_drew1 HB.out)
                 clear BK269
                 clear BK270
                 clear HB
                 have BK269 := n0_
                 have BK270 := n1_
                 have HB := n2_
                 clear n0_ n1_ n2_
                 refine start_ (n := 13) (S := fun w' => w'.cell? ⟨gb269,0,none⟩ = some (.int .i64 a1_0) ∧ w'.cell? ⟨gb269,1,none⟩ = some (.int .i64 a1_1) ∧ w'.cell? ⟨gb269,2,none⟩ = some (.bool a1_2) ∧ w'.cell? ⟨gb269,3,none⟩ = some (.string a1_3) ∧ w'.cell? ⟨gb270,0,none⟩ = some (.int .i64 a2_0) ∧ w'.cell? ⟨gb270,1,none⟩ = some (.int .i64 a2_1) ∧ w'.cell? ⟨gb270,2,none⟩ = some (.bool a2_2) ∧ w'.cell? ⟨gb270,3,none⟩ = some (.string a2_3)) (ds := []) #[false,false,false,false,false,false,false,false,false,false,false,false,false] (by kernel_rfl) rfl rfl ⟨(blk_cell BK269.out 0).trans rfl,(blk_cell BK269.out 1).trans rfl,(blk_cell BK269.out 2).trans rfl,(blk_cell BK269.out 3).trans rfl,(blk_cell BK270.out 0).trans rfl,(blk_cell BK270.out 1).trans rfl,(blk_cell BK270.out 2).trans rfl,(blk_cell BK270.out 3).trans rfl⟩ (fun hHeld => ?_); refine with_tabW value_judge.tab1 value_judge.bits1 (fun HT_ HW_ => ?_)
                 generalize w96.drew = w97 at BK269 BK270 HB hHeld ⊢
                 refine pure_ (i := 0) (N := some 8) (v := ?_) (a' := ?_) #[true,false,false,false,false,false,false,false,false,false,false,false,false] rfl rfl (any_of HT_.out (by kernel_rfl)) (fun _ _ _ h => h) (Or.inl ⟨by rfl,?_⟩) ?_ ?_
                 rotate_left
                 · intro w'
                   go_simp
                   with_reducible rfl
                 rotate_left
                 · simp only [Act.put,List.setIfInBounds_toArray,List.set_cons_zero,List.set_cons_succ,i64_w,i32_w]
                   rfl
                 refine pure_ (i := 2) (N := some 10) (v := ?_) (a' := ?_) #[true,false,true,false,false,false,false,false,false,false,false,false,false] rfl rfl (any_of HT_.out (by kernel_rfl)) (fun _ _ _ h => h) (Or.inl ⟨by rfl,?_⟩) ?_ ?_
                 rotate_left
                 · intro w'
                   go_simp
                   with_reducible rfl
                 rotate_left
                 · simp only [Act.put,List.setIfInBounds_toArray,List.set_cons_zero,List.set_cons_succ,i64_w,i32_w]
                   rfl
                 refine pure_ (i := 5) (N := some 13) (v := ?_) (a' := ?_) #[true,false,true,false,false,true,false,false,false,false,false,false,false] rfl rfl (any_of HT_.out (by kernel_rfl)) (fun _ _ _ h => h) (Or.inl ⟨by rfl,?_⟩) ?_ ?_
                 rotate_left
                 · intro w'
                   go_simp
                   with_reducible rfl
                 rotate_left
                 · simp only [Act.put,List.setIfInBounds_toArray,List.set_cons_zero,List.set_cons_succ,i64_w,i32_w]
                   rfl
                 refine pure_ (i := 7) (N := some 15) (v := ?_) (a' := ?_) #[true,false,true,false,false,true,false,true,false,false,false,false,false] rfl rfl (any_of HT_.out (by kernel_rfl)) (fun _ _ _ h => h) (Or.inl ⟨by rfl,?_⟩) ?_ ?_
                 rotate_left
                 · intro w'
                   go_simp
                   with_reducible rfl
                 rotate_left
                 · simp only [Act.put,List.setIfInBounds_toArray,List.set_cons_zero,List.set_cons_succ,i64_w,i32_w]
                   rfl
                 refine take_ (i := 1) (N := some 9) (v := ?_) (a' := ?_) #[true,true,true,false,false,true,false,true,false,false,false,false,false] rfl rfl (take_ofW HT_.out HW_.out (by kernel_rfl)) (fun _ _ _ h => h) (Or.inl ⟨by rfl,?_⟩) hHeld ?_ ?_
                 rotate_left
                 · rintro w' ⟨s0,s1,s2,s3,s4,s5,s6,s7⟩
                   go_simp
                   with_reducible rfl
                 rotate_left
                 · simp only [Act.put,List.setIfInBounds_toArray,List.set_cons_zero,List.set_cons_succ,i64_w,i32_w]
                   rfl
                 refine take_ (i := 3) (N := some 11) (v := ?_) (a' := ?_) #[true,true,true,true,false,true,false,true,false,false,false,false,false] rfl rfl (take_ofW HT_.out HW_.out (by kernel_rfl)) (fun _ _ _ h => h) (Or.inl ⟨by rfl,?_⟩) hHeld ?_ ?_
                 rotate_left
                 · rintro w' ⟨s0,s1,s2,s3,s4,s5,s6,s7⟩
                   go_simp
                   with_reducible rfl
                 rotate_left
                 · simp only [Act.put,List.setIfInBounds_toArray,List.set_cons_zero,List.set_cons_succ,i64_w,i32_w]
                   rfl
                 refine take_ (i := 6) (N := some 14) (v := ?_) (a' := ?_) #[true,true,true,true,false,true,true,true,false,false,false,false,false] rfl rfl (take_ofW HT_.out HW_.out (by kernel_rfl)) (fun _ _ _ h => h) (Or.inl ⟨by rfl,?_⟩) hHeld ?_ ?_
                 rotate_left
                 · rintro w' ⟨s0,s1,s2,s3,s4,s5,s6,s7⟩
                   go_simp
                   with_reducible rfl
                 rotate_left
                 · simp only [Act.put,List.setIfInBounds_toArray,List.set_cons_zero,List.set_cons_succ,i64_w,i32_w]
                   rfl
                 refine take_ (i := 8) (N := some 16) (v := ?_) (a' := ?_) #[true,true,true,true,false,true,true,true,true,false,false,false,false] rfl rfl (take_ofW HT_.out HW_.out (by kernel_rfl)) (fun _ _ _ h => h) (Or.inl ⟨by rfl,?_⟩) hHeld ?_ ?_
                 rotate_left
                 · rintro w' ⟨s0,s1,s2,s3,s4,s5,s6,s7⟩
                   go_simp
                   with_reducible rfl
                 rotate_left
                 · simp only [Act.put,List.setIfInBounds_toArray,List.set_cons_zero,List.set_cons_succ,i64_w,i32_w]
                   rfl
                 refine one_ (i := 4) (N := some 12) #[true,true,true,true,true,true,true,true,true,false,false,false,false] rfl rfl (one_of HT_.out (by kernel_rfl)) (by decide) (fun K hK => ?_)
                 refine goes_ Tryz.func81 (by kernel_rfl) rfl #[.int .i64 a1_1,.int .i64 a2_1] (by rfl) rfl rfl (by (try simp only [List.map_toArray,List.map_cons,List.map_nil]); first | done | rfl | (simp only [List.length_drop,List.length_take]; rfl)) ?_
                 with_reducible refine (cmp_Compare_int.calls a1_1 a2_1 t271 _ A4.out).mono ?_
                 rintro e w' ⟨rfl,⟨nd,rfl⟩⟩
                 refine ⟨_,rfl,?_⟩
                 refine hK.out _ _ ⟨(blk_cell BK269.out 0).trans rfl,(blk_cell BK269.out 1).trans rfl,(blk_cell BK269.out 2).trans rfl,(blk_cell BK269.out 3).trans rfl,(blk_cell BK270.out 0).trans rfl,(blk_cell BK270.out 1).trans rfl,(blk_cell BK270.out 2).trans rfl,(blk_cell BK270.out 3).trans rfl⟩ (fun hHeld => ?_)
                 clear hK K
                 refine norm_ (a' := ?_) ?_ ?_
                 rotate_left
                 · show Act.put _ (some 12) _ = _
                   simp only [Act.put,List.setIfInBounds_toArray,List.set_cons_zero,List.set_cons_succ,i64_w,i32_w]
                   rfl
                 refine one_ (i := 9) (N := some 17) #[true,true,true,true,true,true,true,true,true,true,false,false,false] rfl rfl (one_of HT_.out (by kernel_rfl)) (by decide) (fun K hK => ?_)
                 refine goes_ Tryz.func82 (by kernel_rfl) rfl #[.string a1_3,.string a2_3] (by rfl) rfl rfl (by (try simp only [List.map_toArray,List.map_cons,List.map_nil]); first | done | rfl | (simp only [List.length_drop,List.length_take]; rfl)) ?_
                 with_reducible refine (strings_Compare.calls a1_3 a2_3 t272 _ A5.out).mono ?_
                 rintro e w' ⟨rfl,⟨nd,rfl⟩⟩
                 refine ⟨_,rfl,?_⟩
                 refine hK.out _ _ ⟨(blk_cell BK269.out 0).trans rfl,(blk_cell BK269.out 1).trans rfl,(blk_cell BK269.out 2).trans rfl,(blk_cell BK269.out 3).trans rfl,(blk_cell BK270.out 0).trans rfl,(blk_cell BK270.out 1).trans rfl,(blk_cell BK270.out 2).trans rfl,(blk_cell BK270.out 3).trans rfl⟩ (fun hHeld => ?_)
                 clear hK K
                 refine norm_ (a' := ?_) ?_ ?_
                 rotate_left
                 · show Act.put _ (some 17) _ = _
                   simp only [Act.put,List.setIfInBounds_toArray,List.set_cons_zero,List.set_cons_succ,i64_w,i32_w]
                   rfl
                 refine one_ (i := 10) (N := some 18) #[true,true,true,true,true,true,true,true,true,true,true,false,false] rfl rfl (one_of HT_.out (by kernel_rfl)) (by decide) (fun K hK => ?_)
                 refine Kd.R_lit_step (Kd.int .i64) _ 3 ?hg (N := 18) ?hd (xs := ([t271,t272] : List Int)) (inner := [.int .i64 t271,.int .i64 t272]) (ok := fun _ => True) (okp := fun _ => True) ?hr ?hp (fun _ hk => hk) trivial (Below.refl _ _) (Nat.le_refl _) (by simp) ?_; (case hd => rfl); (case hg => rfl); (case hr => first | (go_simp; done) | (go_simp; rfl)); (case hp => exact (Reps.one (show Kd.M (Kd.int .i64) _ _ _ t271 [.int .i64 t271] from rfl) (Reps.one (show Kd.M (Kd.int .i64) _ _ _ t272 [.int .i64 t272] from rfl) (Reps.none _ _))))
                 intro v274 w98 ho99 hb hg_ hnew_
                 clear hg_ hnew_
                 (first | rw [← Ny273.out] at ho99 | (simp only [Int.reduceToNat] at ho99; rw [← Ny273.out] at ho99))
                 have n0_ := Aside0.mk (Kd.R_lower ho99 (below_size (by repeat (first | (with_reducible first | exact HB.out | apply below_alloc | apply pw_below_drewN | apply below_drew1 | apply bytes_below1 | refine below_set ?_ GE269.out | refine below_set ?_ GE270.out) | exact HB.out))))
                 have n1_ := Aside0.mk (blk_below (g := gb269) (o := .cells #[.int .i64 a1_0,.int .i64 a1_1,.bool a1_2,.string a1_3] 23 (0,0)) (by (with_reducible repeat (first | refine blk_bytes ?_ _ _ | refine blk_drewN ?_ _ | refine blk_drew ?_ | refine blk_alloc ?_ _)); exact BK269.out) hb)
                 have n2_ := Aside0.mk (blk_below (g := gb270) (o := .cells #[.int .i64 a2_0,.int .i64 a2_1,.bool a2_2,.string a2_3] 23 (0,0)) (by (with_reducible repeat (first | refine blk_bytes ?_ _ _ | refine blk_drewN ?_ _ | refine blk_drew ?_ | refine blk_alloc ?_ _)); exact BK270.out) hb)
                 have n3_ := Aside0.mk (below_step (by repeat (first | (with_reducible first | exact HB.out | apply below_alloc | apply pw_below_drewN | apply below_drew1 | apply bytes_below1 | refine below_set ?_ GE269.out | refine below_set ?_ GE270.out) | exact HB.out)) hb)
                 clear BK269
                 clear BK270
                 clear HB
                 have HO275 := n0_
                 have BK269 := n1_
                 have BK270 := n2_
                 have HB := n3_
                 clear n0_ n1_ n2_ n3_
                 clear hb ho99
                 obtain ⟨Ao100,co100,eo100⟩ := Kd.R_slice HO275.out
                 (first | subst eo100 | (injection eo100 with f1_ f2_ f3_; have f4_ := f1_.symm; have f5_ := f3_.symm; clear f1_ f2_ f3_; subst f4_; subst f5_))
                 refine hK.out _ _ ⟨(blk_cell BK269.out 0).trans rfl,(blk_cell BK269.out 1).trans rfl,(blk_cell BK269.out 2).trans rfl,(blk_cell BK269.out 3).trans rfl,(blk_cell BK270.out 0).trans rfl,(blk_cell BK270.out 1).trans rfl,(blk_cell BK270.out 2).trans rfl,(blk_cell BK270.out 3).trans rfl⟩ (fun hHeld => ?_)
                 clear hK K
                 refine norm_ (a' := ?_) ?_ ?_
                 rotate_left
                 · show Act.put _ (some 18) _ = _
                   simp only [Act.put,List.setIfInBounds_toArray,List.set_cons_zero,List.set_cons_succ,i64_w,i32_w]
                   rfl
                 refine one_ (i := 11) (N := some 19) #[true,true,true,true,true,true,true,true,true,true,true,true,false] rfl rfl (one_of HT_.out (by kernel_rfl)) (by decide) (fun K hK => ?_)
                 refine goes_ Tryz.func80 (by kernel_rfl) rfl #[.slice Ao100 y273.length co100] (by rfl) rfl rfl (by (try simp only [List.map_toArray,List.map_cons,List.map_nil]); first | done | rfl | (simp only [List.length_drop,List.length_take]; rfl)) ?_
                 with_reducible refine (cmp_Or_int.calls k _ _ y273 t276 _ ?side1 ?side2 A6.out).mono ?_
                 (case side1 => repeat (first | exact (Kd.R_reads' HO275.out).2.2 | (with_reducible refine Kd.C_alloc ?_ _) | (with_reducible refine C_bytes ?_ _ _) | (with_reducible refine Kd.C_drewN ?_ _) | (with_reducible refine Kd.C_drew ?_)))
                 (case side2 => exact (Kd.R_reads' HO275.out).2.1)
                 rintro e w' ⟨rfl,⟨nd,rfl⟩⟩
                 refine ⟨_,rfl,?_⟩
                 refine hK.out _ _ ⟨(blk_cell BK269.out 0).trans rfl,(blk_cell BK269.out 1).trans rfl,(blk_cell BK269.out 2).trans rfl,(blk_cell BK269.out 3).trans rfl,(blk_cell BK270.out 0).trans rfl,(blk_cell BK270.out 1).trans rfl,(blk_cell BK270.out 2).trans rfl,(blk_cell BK270.out 3).trans rfl⟩ (fun hHeld => ?_)
                 clear hK K
                 refine norm_ (a' := ?_) ?_ ?_
                 rotate_left
                 · show Act.put _ (some 19) _ = _
                   simp only [Act.put,List.setIfInBounds_toArray,List.set_cons_zero,List.set_cons_succ,i64_w,i32_w]
                   rfl
                 refine pure_ (i := 12) (N := some 7) (v := ?_) (a' := ?_) #[true,true,true,true,true,true,true,true,true,true,true,true,true] rfl rfl (any_of HT_.out (by kernel_rfl)) (fun _ _ _ h => h) (Or.inl ⟨by rfl,?_⟩) ?_ ?_
                 rotate_left
                 · intro w'
                   go_simp
                   with_reducible rfl
                 rotate_left
                 · simp only [Act.put,List.setIfInBounds_toArray,List.set_cons_zero,List.set_cons_succ,i64_w,i32_w]
                   rfl
                 refine done_ (done_of HT_.out (by kernel_rfl)) ?_
                 try go_wp2
                 go_ret
                 exact ⟨by first | rfl | (simp [errW_none,errW_some] <;> rfl) | (simp [*,errW_none,errW_some] <;> rfl),by repeat (first | (with_reducible first | exact HB.out | apply below_alloc | apply pw_below_drewN | apply below_drew1 | apply bytes_below1 | refine below_set ?_ GE269.out | refine below_set ?_ GE270.out) | exact HB.out)⟩
end Go.Proofs.YtifgpigicgaadaaGreatDoor.Q
