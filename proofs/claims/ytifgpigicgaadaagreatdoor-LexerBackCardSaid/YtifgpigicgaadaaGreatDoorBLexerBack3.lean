/- Several texts in one, in their order. -/
import Derived.Test.YtifgpigicgaadaaGreatDoorBLexerBack2
section
namespace Go.Proofs.YtifgpigicgaadaaGreatDoor.Q
open Go.RowKit Go.Proofs.YtifgpigicgaadaaGreatDoorH Go.Proofs.YtifgpigicgaadaaGreatDoorW.PrintWords Go.Proofs.YtifgpigicgaadaaGreatDoorW.PrintLast Go.Proofs.YtifgpigicgaadaaGreatDoorW.PrintMore
attribute [local go_sem] max2_int min2_int max_two min_two max_three min_three max_four min_four
set_option linter.unusedVariables false
set_option linter.unusedSimpArgs false
section
/-! ### dossierref01_Decode: function 47 -/
mutual
def dossierref01_Decode.j0 : Nat → List Int → Int → Int → Option (Int × Int)
 | 0,_,_,_ => none
 | k + 1,x0,x4,x5 => if x4 > (x0.length : Int) then (some (0,0)) else (if 1 ≤ x4 then (if x4 ≤ (x0.length : Int) then (dossierref01_Decode.l0 k x0 x4 x5 ((x0.take (x4 : Int).toNat).drop 1) (((x0.take (x4 : Int).toNat).drop 1).length : Int) 0) else (none)) else (none))
def dossierref01_Decode.l0 : Nat → List Int → Int → Int → List Int → Int → Int → Option (Int × Int)
 | 0,_,_,_,_,_,_ => none
 | k + 1,x0,x4,x5,x51,x52,x53 => if x53 < x52 then (if 0 ≤ x53 then (if x53 < (x51.length : Int) then (if (rd x51 x53) < 128 then (some (0,0)) else (if (rd x51 x53) > 191 then (some (0,0)) else (dossierref01_Decode.l0 k x0 x4 (wrap64 ((wrap64 ((wrap64 (x5 * 64)) + (wrap64 (rd x51 x53)))) - 128)) x51 x52 (wrap64 (x53 + 1))))) else (none)) else (none)) else ((dossierref01_Encode.f k x5).bind fun t143 => (if 0 ≤ x4 then (if x4 ≤ (x0.length : Int) then (if (strOfNums t143).toList = (strOfNums (x0.take (x4 : Int).toNat)).toList then (some (x5,x4)) else (some (0,0))) else (none)) else (none)))
end
def dossierref01_Decode.f (k : Nat) (l0 : List Int) : Option (Int × Int) := if (l0.length : Int) = 0 then (some (0,0)) else (if 0 < (l0.length : Int) then (if (rd l0 0) ≥ 240 then (dossierref01_Decode.j0 k l0 4 (wrap64 ((wrap64 (rd l0 0)) - 240))) else (if (rd l0 0) ≥ 224 then (dossierref01_Decode.j0 k l0 3 (wrap64 ((wrap64 (rd l0 0)) - 224))) else (if (rd l0 0) ≥ 192 then (dossierref01_Decode.j0 k l0 2 (wrap64 ((wrap64 (rd l0 0)) - 192))) else (dossierref01_Decode.j0 k l0 1 (wrap64 (rd l0 0)))))) else (none))
def dossierref01_Decode.T19 : Bool × List (List Nat × List Nat) := (true,[([],[]),([0],[0]),([1],[1]),([],[]),([],[]),([3,4],[3,4]),([5],[5]),([2,6],[2,6])])
def dossierref01_Decode.B19 : List Nat := [0,1,3,0,0,24,56,127]
theorem dossierref01_Decode.tab19 : rtab .any (opsOf Tryz.f47 19) = dossierref01_Decode.T19 := by kernel_rfl
theorem dossierref01_Decode.bits19 : waitsOk dossierref01_Decode.T19.2 dossierref01_Decode.B19 = true := by kernel_rfl
set_option maxHeartbeats 8000000 in
set_option maxRecDepth 100000 in
theorem dossierref01_Decode.calls (k : Nat) (A0 : Option Addr) (c0 : Nat) (l0 : List Int) (r1 : Int) (r2 : Int) (w : World) (hr0 : Kd.C (Kd.int .u8) w A0 l0.length l0) (hc0 : l0.length ≤ c0) (h : dossierref01_Decode.f k l0 = some (r1,r2)) :
 Calls Tryz.prog 47 #[.slice A0 l0.length c0] w fun e w' => e = .returned (.tuple #[.int .i64 r1,.int .i64 r2]) ∧ Below w.heap.size w w' := by
 have HR0 := Aside0.mk hr0
 have HC0 := Aside0.mk hc0
 clear hr0 hc0
 have HB := Aside0.mk (Below.refl w.heap.size w)
 have H : (if (l0.length : Int) = 0 then (some (0,0)) else (if 0 < (l0.length : Int) then (if (rd l0 0) ≥ 240 then (dossierref01_Decode.j0 k l0 4 (wrap64 ((wrap64 (rd l0 0)) - 240))) else (if (rd l0 0) ≥ 224 then (dossierref01_Decode.j0 k l0 3 (wrap64 ((wrap64 (rd l0 0)) - 224))) else (if (rd l0 0) ≥ 192 then (dossierref01_Decode.j0 k l0 2 (wrap64 ((wrap64 (rd l0 0)) - 192))) else (dossierref01_Decode.j0 k l0 1 (wrap64 (rd l0 0)))))) else (none))) = some (r1,r2) := h
 clear h
 by_cases c2 : (l0.length : Int) = 0
 · rw [if_pos c2] at H
   have c2b0 : ((l0.length : Int) == 0) = true := beq_iff_eq.mpr c2
   have c2b1 : ((l0.length : Int) != 0) = false := bne_eq_false_iff_eq.mpr c2
   clear c2
   simp only [Option.some.injEq,Prod.mk.injEq] at H
   obtain ⟨rfl,rfl⟩ := H
   go_enter Tryz.func47,Tryz.ntmps47
   go_wp2
   go_ret2
   exact ⟨by first | rfl | (simp [errW_none,errW_some] <;> rfl) | (simp [*,errW_none,errW_some] <;> rfl),by repeat (first | (with_reducible first | exact HB.out | apply below_alloc | apply pw_below_drewN | apply below_drew1 | apply bytes_below1) | exact HB.out)⟩
 · rw [if_neg c2] at H
   have c2b0 : ((l0.length : Int) == 0) = false := beq_eq_false_iff_ne.mpr c2
   have c2b1 : ((l0.length : Int) != 0) = true := bne_iff_ne.mpr c2
   have c2b2 : ¬ (l0 = []) := fun h_ => c2 (by rw [h_]; rfl)
   by_cases c3 : 0 < (l0.length : Int)
   · rw [if_pos c3] at H
     have c3b0 : decide (0 < (l0.length : Int)) = true := decide_eq_true c3
     have c3b1 : decide (0 < l0.length) = true := decide_eq_true (by omega)
     clear c3
     have HC4 := Aside0.mk H
     clear H
     go_enter Tryz.func47,Tryz.ntmps47
     try go_wp2
     have n0_ := Aside0.mk (below_drew1 HB.out)
     clear HB
     have HB := n0_
     clear n0_
     have p134 : 0 ≤ (0 : Int) := (by omega)
     have q134 : 0 < (l0.length : Int) := of_decide_eq_true (by first | (with_reducible assumption) | assumption)
     obtain ⟨ad134,e134,hx134_0⟩ := Kd.at_int HR0.out 0 p134 q134
     have hw134_0 := hx134_0
     (try rw [show ((0 : Int)).toNat = 0 from rfl] at hw134_0)
     (try rw [show 0 * 1 = 0 from rfl] at hw134_0)
     (try rw [Addr.add_zero'] at hw134_0)
     cases e134
     have qi134 : (0 < l0.length) = True := eq_true (by omega)
     (try rw [show ((0 : Int)).toNat = 0 from rfl] at hx134_0)
     (try rw [Addr.add_zero'] at hx134_0)
     replace hx134_0 := (HB.out.cell (World.block_lt_of_cell? w _ hx134_0)).trans hx134_0
     replace p134 := eq_true p134
     replace q134 := eq_true q134
     refine start_ (n := 6) (S := fun w' => w'.cell? ad134 = some (.int .u8 (rd l0 0))) (ds := []) #[false,false,false,false,false,false] (by kernel_rfl) rfl rfl (((HB.out.cell (World.block_lt_of_cell? w _ hw134_0)).trans hw134_0)) (fun hHeld => ?_)
     generalize w.drew = w5 at HB hx134_0 hHeld ⊢
     refine pure_ (i := 0) (N := some 11) (v := ?_) (a' := ?_) #[true,false,false,false,false,false] rfl rfl (by kernel_rfl) (fun _ _ _ h => h) (Or.inl ⟨by rfl,?_⟩) ?_ ?_
     rotate_left
     · intro w'
       go_simp
       with_reducible rfl
     rotate_left
     · simp only [Act.put,List.setIfInBounds_toArray,List.set_cons_zero,List.set_cons_succ,i64_w,i32_w]
       rfl
     refine pure_ (i := 1) (N := some 12) (v := ?_) (a' := ?_) #[true,true,false,false,false,false] rfl rfl (by kernel_rfl) (fun _ _ _ h => h) (Or.inl ⟨by rfl,?_⟩) ?_ ?_
     rotate_left
     · intro w'
       go_simp
       with_reducible rfl
     rotate_left
     · simp only [Act.put,List.setIfInBounds_toArray,List.set_cons_zero,List.set_cons_succ,i64_w,i32_w]
       rfl
     refine pure_ (i := 4) (N := some 4) (v := ?_) (a' := ?_) #[true,true,false,false,true,false] rfl rfl (by kernel_rfl) (fun _ _ _ h => h) (Or.inl ⟨by rfl,?_⟩) ?_ ?_
     rotate_left
     · intro w'
       go_simp
       with_reducible rfl
     rotate_left
     · simp only [Act.put,List.setIfInBounds_toArray,List.set_cons_zero,List.set_cons_succ,i64_w,i32_w]
       rfl
     refine take_ (i := 2) (N := some 13) (v := ?_) (a' := ?_) #[true,true,true,false,true,false] rfl rfl (by kernel_rfl) (fun _ _ _ h => h) (Or.inl ⟨by rfl,?_⟩) hHeld ?_ ?_
     rotate_left
     · intro w' s0
       go_simp
       with_reducible rfl
     rotate_left
     · simp only [Act.put,List.setIfInBounds_toArray,List.set_cons_zero,List.set_cons_succ,i64_w,i32_w]
       rfl
     refine pure_ (i := 3) (N := some 14) (v := ?_) (a' := ?_) #[true,true,true,true,true,false] rfl rfl (by kernel_rfl) (fun _ _ _ h => h) (Or.inl ⟨by rfl,?_⟩) ?_ ?_
     rotate_left
     · intro w'
       go_simp
       with_reducible rfl
     rotate_left
     · simp only [Act.put,List.setIfInBounds_toArray,List.set_cons_zero,List.set_cons_succ,i64_w,i32_w]
       rfl
     refine pure_ (i := 5) (N := some 5) (v := ?_) (a' := ?_) #[true,true,true,true,true,true] rfl rfl (by kernel_rfl) (fun _ _ _ h => h) (Or.inl ⟨by rfl,?_⟩) ?_ ?_
     rotate_left
     · intro w'
       go_simp
       with_reducible rfl
     rotate_left
     · simp only [Act.put,List.setIfInBounds_toArray,List.set_cons_zero,List.set_cons_succ,i64_w,i32_w]
       rfl
     refine done_ (by kernel_rfl) ?_
     go_upto_block 0 with (fail)
     go_cut [4,5] (fun v4 v5 wc => ∃ (kq : Nat) (x4_3 : Int) (x5_3 : Int),v4 = .int .i64 x4_3 ∧ v5 = .int .i64 x5_3 ∧ Aside0 (dossierref01_Decode.j0 kq l0 x4_3 x5_3 = some (r1,r2)) ∧ Aside0 (kq ≤ k) ∧ Aside0 (Below w.heap.size w wc))
     case first =>
      have H := HC4.out
      clear HC4
      by_cases c6 : (rd l0 0) ≥ 240
      · rw [if_pos c6] at H
        have c6b0 : decide (240 ≤ (rd l0 0)) = true := decide_eq_true c6
        clear c6
        (first | rw [c6b0] | (simp only [i64_w,i32_w]; rw [c6b0]) | skip)
        have H' := Aside0.mk H
        clear H
        have p135 : 0 ≤ (0 : Int) := (by omega)
        have q135 : 0 < (l0.length : Int) := of_decide_eq_true (by first | (with_reducible assumption) | assumption)
        obtain ⟨ad135,e135,hx135_0⟩ := Kd.at_int HR0.out 0 p135 q135
        obtain rfl : ad134 = ad135 := (by injection e135)
        have qi135 : (0 < l0.length) = True := eq_true (by omega)
        (try rw [show ((0 : Int)).toNat = 0 from rfl] at hx135_0)
        (try rw [Addr.add_zero'] at hx135_0)
        replace hx135_0 := (HB.out.cell (World.block_lt_of_cell? w _ hx135_0)).trans hx135_0
        replace p135 := eq_true p135
        replace q135 := eq_true q135
        try go_wp2
        have n0_ := Aside0.mk (below_drew1 HB.out)
        clear HB
        have HB := n0_
        clear n0_
        have p136 : 0 ≤ (0 : Int) := (by omega)
        have q136 : 0 < (l0.length : Int) := of_decide_eq_true (by first | (with_reducible assumption) | assumption)
        obtain ⟨ad136,e136,hx136_0⟩ := Kd.at_int HR0.out 0 p136 q136
        have hw136_0 := hx136_0
        (try rw [show ((0 : Int)).toNat = 0 from rfl] at hw136_0)
        (try rw [show 0 * 1 = 0 from rfl] at hw136_0)
        (try rw [Addr.add_zero'] at hw136_0)
        obtain rfl : ad134 = ad136 := (by injection e136)
        have qi136 : (0 < l0.length) = True := eq_true (by omega)
        (try rw [show ((0 : Int)).toNat = 0 from rfl] at hx136_0)
        (try rw [Addr.add_zero'] at hx136_0)
        replace hx136_0 := (HB.out.cell (World.block_lt_of_cell? w _ hx136_0)).trans hx136_0
        replace p136 := eq_true p136
        replace q136 := eq_true q136
        refine start_ (n := 7) (S := fun w' => w'.cell? ad134 = some (.int .u8 (rd l0 0))) (ds := []) #[false,false,false,false,false,false,false] (by kernel_rfl) rfl rfl (((HB.out.cell (World.block_lt_of_cell? w _ hw136_0)).trans hw136_0)) (fun hHeld => ?_)
        generalize w5.drew = w7 at HB hx136_0 hHeld ⊢
        refine pure_ (i := 0) (N := some 20) (v := ?_) (a' := ?_) #[true,false,false,false,false,false,false] rfl rfl (by kernel_rfl) (fun _ _ _ h => h) (Or.inl ⟨by rfl,?_⟩) ?_ ?_
        rotate_left
        · intro w'
          go_simp
          with_reducible rfl
        rotate_left
        · simp only [Act.put,List.setIfInBounds_toArray,List.set_cons_zero,List.set_cons_succ,i64_w,i32_w]
          rfl
        refine pure_ (i := 1) (N := some 21) (v := ?_) (a' := ?_) #[true,true,false,false,false,false,false] rfl rfl (by kernel_rfl) (fun _ _ _ h => h) (Or.inl ⟨by rfl,?_⟩) ?_ ?_
        rotate_left
        · intro w'
          go_simp
          with_reducible rfl
        rotate_left
        · simp only [Act.put,List.setIfInBounds_toArray,List.set_cons_zero,List.set_cons_succ,i64_w,i32_w]
          rfl
        refine pure_ (i := 5) (N := some 4) (v := ?_) (a' := ?_) #[true,true,false,false,false,true,false] rfl rfl (by kernel_rfl) (fun _ _ _ h => h) (Or.inl ⟨by rfl,?_⟩) ?_ ?_
        rotate_left
        · intro w'
          go_simp
          with_reducible rfl
        rotate_left
        · simp only [Act.put,List.setIfInBounds_toArray,List.set_cons_zero,List.set_cons_succ,i64_w,i32_w]
          rfl
        refine take_ (i := 2) (N := some 22) (v := ?_) (a' := ?_) #[true,true,true,false,false,true,false] rfl rfl (by kernel_rfl) (fun _ _ _ h => h) (Or.inl ⟨by rfl,?_⟩) hHeld ?_ ?_
        rotate_left
        · intro w' s0
          go_simp
          with_reducible rfl
        rotate_left
        · simp only [Act.put,List.setIfInBounds_toArray,List.set_cons_zero,List.set_cons_succ,i64_w,i32_w]
          rfl
        refine pure_ (i := 3) (N := some 23) (v := ?_) (a' := ?_) #[true,true,true,true,false,true,false] rfl rfl (by kernel_rfl) (fun _ _ _ h => h) (Or.inl ⟨by rfl,?_⟩) ?_ ?_
        rotate_left
        · intro w'
          go_simp
          with_reducible rfl
        rotate_left
        · simp only [Act.put,List.setIfInBounds_toArray,List.set_cons_zero,List.set_cons_succ,i64_w,i32_w]
          rfl
        refine pure_ (i := 4) (N := some 24) (v := ?_) (a' := ?_) #[true,true,true,true,true,true,false] rfl rfl (by kernel_rfl) (fun _ _ _ h => h) (Or.inl ⟨by rfl,?_⟩) ?_ ?_
        rotate_left
        · intro w'
          go_simp
          with_reducible rfl
        rotate_left
        · simp only [Act.put,List.setIfInBounds_toArray,List.set_cons_zero,List.set_cons_succ,i64_w,i32_w]
          rfl
        refine pure_ (i := 6) (N := some 5) (v := ?_) (a' := ?_) #[true,true,true,true,true,true,true] rfl rfl (by kernel_rfl) (fun _ _ _ h => h) (Or.inl ⟨by rfl,?_⟩) ?_ ?_
        rotate_left
        · intro w'
          go_simp
          with_reducible rfl
        rotate_left
        · simp only [Act.put,List.setIfInBounds_toArray,List.set_cons_zero,List.set_cons_succ,i64_w,i32_w]
          rfl
        refine done_ (by kernel_rfl) ?_
        try go_wp2
        go_meet
        case rel => exact ⟨_,(4),(wrap64 ((wrap64 (rd l0 0)) - 240)),(by first | rfl | (simp; done) | (simp [*]; done)),(by first | rfl | (simp; done) | (simp [*]; done)),H',⟨by first | omega | exact Nat.le_refl _⟩,⟨by repeat (first | (with_reducible first | exact HB.out | apply below_alloc | apply pw_below_drewN | apply below_drew1 | apply bytes_below1) | exact HB.out)⟩⟩
      · rw [if_neg c6] at H
        have c6b0 : decide (240 ≤ (rd l0 0)) = false := decide_eq_false c6
        clear c6
        (first | rw [c6b0] | (simp only [i64_w,i32_w]; rw [c6b0]) | skip)
        by_cases c8 : (rd l0 0) ≥ 224
        · rw [if_pos c8] at H
          have c8b0 : decide (224 ≤ (rd l0 0)) = true := decide_eq_true c8
          clear c8
          have H' := Aside0.mk H
          clear H
          have p135 : 0 ≤ (0 : Int) := (by omega)
          have q135 : 0 < (l0.length : Int) := of_decide_eq_true (by first | (with_reducible assumption) | assumption)
          obtain ⟨ad135,e135,hx135_0⟩ := Kd.at_int HR0.out 0 p135 q135
          obtain rfl : ad134 = ad135 := (by injection e135)
          have qi135 : (0 < l0.length) = True := eq_true (by omega)
          (try rw [show ((0 : Int)).toNat = 0 from rfl] at hx135_0)
          (try rw [Addr.add_zero'] at hx135_0)
          replace hx135_0 := (HB.out.cell (World.block_lt_of_cell? w _ hx135_0)).trans hx135_0
          replace p135 := eq_true p135
          replace q135 := eq_true q135
          have p137 : 0 ≤ (0 : Int) := (by omega)
          have q137 : 0 < (l0.length : Int) := of_decide_eq_true (by first | (with_reducible assumption) | assumption)
          obtain ⟨ad137,e137,hx137_0⟩ := Kd.at_int HR0.out 0 p137 q137
          obtain rfl : ad134 = ad137 := (by injection e137)
          have qi137 : (0 < l0.length) = True := eq_true (by omega)
          (try rw [show ((0 : Int)).toNat = 0 from rfl] at hx137_0)
          (try rw [Addr.add_zero'] at hx137_0)
          replace hx137_0 := (HB.out.cell (World.block_lt_of_cell? w _ hx137_0)).trans hx137_0
          replace p137 := eq_true p137
          replace q137 := eq_true q137
          try go_wp2
          have n0_ := Aside0.mk (below_drew1 HB.out)
          clear HB
          have HB := n0_
          clear n0_
          have p138 : 0 ≤ (0 : Int) := (by omega)
          have q138 : 0 < (l0.length : Int) := of_decide_eq_true (by first | (with_reducible assumption) | assumption)
          obtain ⟨ad138,e138,hx138_0⟩ := Kd.at_int HR0.out 0 p138 q138
          have hw138_0 := hx138_0
          (try rw [show ((0 : Int)).toNat = 0 from rfl] at hw138_0)
          (try rw [show 0 * 1 = 0 from rfl] at hw138_0)
          (try rw [Addr.add_zero'] at hw138_0)
          obtain rfl : ad134 = ad138 := (by injection e138)
          have qi138 : (0 < l0.length) = True := eq_true (by omega)
          (try rw [show ((0 : Int)).toNat = 0 from rfl] at hx138_0)
          (try rw [Addr.add_zero'] at hx138_0)
          replace hx138_0 := (HB.out.cell (World.block_lt_of_cell? w _ hx138_0)).trans hx138_0
          replace p138 := eq_true p138
          replace q138 := eq_true q138
          refine start_ (n := 7) (S := fun w' => w'.cell? ad134 = some (.int .u8 (rd l0 0))) (ds := []) #[false,false,false,false,false,false,false] (by kernel_rfl) rfl rfl (((HB.out.cell (World.block_lt_of_cell? w _ hw138_0)).trans hw138_0)) (fun hHeld => ?_)
          generalize w5.drew = w9 at HB hx138_0 hHeld ⊢
          refine pure_ (i := 0) (N := some 30) (v := ?_) (a' := ?_) #[true,false,false,false,false,false,false] rfl rfl (by kernel_rfl) (fun _ _ _ h => h) (Or.inl ⟨by rfl,?_⟩) ?_ ?_
          rotate_left
          · intro w'
            go_simp
            with_reducible rfl
          rotate_left
          · simp only [Act.put,List.setIfInBounds_toArray,List.set_cons_zero,List.set_cons_succ,i64_w,i32_w]
            rfl
          refine pure_ (i := 1) (N := some 31) (v := ?_) (a' := ?_) #[true,true,false,false,false,false,false] rfl rfl (by kernel_rfl) (fun _ _ _ h => h) (Or.inl ⟨by rfl,?_⟩) ?_ ?_
          rotate_left
          · intro w'
            go_simp
            with_reducible rfl
          rotate_left
          · simp only [Act.put,List.setIfInBounds_toArray,List.set_cons_zero,List.set_cons_succ,i64_w,i32_w]
            rfl
          refine pure_ (i := 5) (N := some 4) (v := ?_) (a' := ?_) #[true,true,false,false,false,true,false] rfl rfl (by kernel_rfl) (fun _ _ _ h => h) (Or.inl ⟨by rfl,?_⟩) ?_ ?_
          rotate_left
          · intro w'
            go_simp
            with_reducible rfl
          rotate_left
          · simp only [Act.put,List.setIfInBounds_toArray,List.set_cons_zero,List.set_cons_succ,i64_w,i32_w]
            rfl
          refine take_ (i := 2) (N := some 32) (v := ?_) (a' := ?_) #[true,true,true,false,false,true,false] rfl rfl (by kernel_rfl) (fun _ _ _ h => h) (Or.inl ⟨by rfl,?_⟩) hHeld ?_ ?_
          rotate_left
          · intro w' s0
            go_simp
            with_reducible rfl
          rotate_left
          · simp only [Act.put,List.setIfInBounds_toArray,List.set_cons_zero,List.set_cons_succ,i64_w,i32_w]
            rfl
          refine pure_ (i := 3) (N := some 33) (v := ?_) (a' := ?_) #[true,true,true,true,false,true,false] rfl rfl (by kernel_rfl) (fun _ _ _ h => h) (Or.inl ⟨by rfl,?_⟩) ?_ ?_
          rotate_left
          · intro w'
            go_simp
            with_reducible rfl
          rotate_left
          · simp only [Act.put,List.setIfInBounds_toArray,List.set_cons_zero,List.set_cons_succ,i64_w,i32_w]
            rfl
          refine pure_ (i := 4) (N := some 34) (v := ?_) (a' := ?_) #[true,true,true,true,true,true,false] rfl rfl (by kernel_rfl) (fun _ _ _ h => h) (Or.inl ⟨by rfl,?_⟩) ?_ ?_
          rotate_left
          · intro w'
            go_simp
            with_reducible rfl
          rotate_left
          · simp only [Act.put,List.setIfInBounds_toArray,List.set_cons_zero,List.set_cons_succ,i64_w,i32_w]
            rfl
          refine pure_ (i := 6) (N := some 5) (v := ?_) (a' := ?_) #[true,true,true,true,true,true,true] rfl rfl (by kernel_rfl) (fun _ _ _ h => h) (Or.inl ⟨by rfl,?_⟩) ?_ ?_
          rotate_left
          · intro w'
            go_simp
            with_reducible rfl
          rotate_left
          · simp only [Act.put,List.setIfInBounds_toArray,List.set_cons_zero,List.set_cons_succ,i64_w,i32_w]
            rfl
          refine done_ (by kernel_rfl) ?_
          try go_wp2
          go_meet
          case rel => exact ⟨_,(3),(wrap64 ((wrap64 (rd l0 0)) - 224)),(by first | rfl | (simp; done) | (simp [*]; done)),(by first | rfl | (simp; done) | (simp [*]; done)),H',⟨by first | omega | exact Nat.le_refl _⟩,⟨by repeat (first | (with_reducible first | exact HB.out | apply below_alloc | apply pw_below_drewN | apply below_drew1 | apply bytes_below1) | exact HB.out)⟩⟩
        · rw [if_neg c8] at H
          have c8b0 : decide (224 ≤ (rd l0 0)) = false := decide_eq_false c8
          clear c8
          by_cases c10 : (rd l0 0) ≥ 192
          · rw [if_pos c10] at H
            have c10b0 : decide (192 ≤ (rd l0 0)) = true := decide_eq_true c10
            clear c10
            have H' := Aside0.mk H
            clear H
            have p135 : 0 ≤ (0 : Int) := (by omega)
            have q135 : 0 < (l0.length : Int) := of_decide_eq_true (by first | (with_reducible assumption) | assumption)
            obtain ⟨ad135,e135,hx135_0⟩ := Kd.at_int HR0.out 0 p135 q135
            obtain rfl : ad134 = ad135 := (by injection e135)
            have qi135 : (0 < l0.length) = True := eq_true (by omega)
            (try rw [show ((0 : Int)).toNat = 0 from rfl] at hx135_0)
            (try rw [Addr.add_zero'] at hx135_0)
            replace hx135_0 := (HB.out.cell (World.block_lt_of_cell? w _ hx135_0)).trans hx135_0
            replace p135 := eq_true p135
            replace q135 := eq_true q135
            have p137 : 0 ≤ (0 : Int) := (by omega)
            have q137 : 0 < (l0.length : Int) := of_decide_eq_true (by first | (with_reducible assumption) | assumption)
            obtain ⟨ad137,e137,hx137_0⟩ := Kd.at_int HR0.out 0 p137 q137
            obtain rfl : ad134 = ad137 := (by injection e137)
            have qi137 : (0 < l0.length) = True := eq_true (by omega)
            (try rw [show ((0 : Int)).toNat = 0 from rfl] at hx137_0)
            (try rw [Addr.add_zero'] at hx137_0)
            replace hx137_0 := (HB.out.cell (World.block_lt_of_cell? w _ hx137_0)).trans hx137_0
            replace p137 := eq_true p137
            replace q137 := eq_true q137
            have p139 : 0 ≤ (0 : Int) := (by omega)
            have q139 : 0 < (l0.length : Int) := of_decide_eq_true (by first | (with_reducible assumption) | assumption)
            obtain ⟨ad139,e139,hx139_0⟩ := Kd.at_int HR0.out 0 p139 q139
            obtain rfl : ad134 = ad139 := (by injection e139)
            have qi139 : (0 < l0.length) = True := eq_true (by omega)
            (try rw [show ((0 : Int)).toNat = 0 from rfl] at hx139_0)
            (try rw [Addr.add_zero'] at hx139_0)
            replace hx139_0 := (HB.out.cell (World.block_lt_of_cell? w _ hx139_0)).trans hx139_0
            replace p139 := eq_true p139
            replace q139 := eq_true q139
            try go_wp2
            have n0_ := Aside0.mk (below_drew1 HB.out)
            clear HB
            have HB := n0_
            clear n0_
            have p140 : 0 ≤ (0 : Int) := (by omega)
            have q140 : 0 < (l0.length : Int) := of_decide_eq_true (by first | (with_reducible assumption) | assumption)
            obtain ⟨ad140,e140,hx140_0⟩ := Kd.at_int HR0.out 0 p140 q140
            have hw140_0 := hx140_0
            (try rw [show ((0 : Int)).toNat = 0 from rfl] at hw140_0)
            (try rw [show 0 * 1 = 0 from rfl] at hw140_0)
            (try rw [Addr.add_zero'] at hw140_0)
            obtain rfl : ad134 = ad140 := (by injection e140)
            have qi140 : (0 < l0.length) = True := eq_true (by omega)
            (try rw [show ((0 : Int)).toNat = 0 from rfl] at hx140_0)
            (try rw [Addr.add_zero'] at hx140_0)
            replace hx140_0 := (HB.out.cell (World.block_lt_of_cell? w _ hx140_0)).trans hx140_0
            replace p140 := eq_true p140
            replace q140 := eq_true q140
            refine start_ (n := 7) (S := fun w' => w'.cell? ad134 = some (.int .u8 (rd l0 0))) (ds := []) #[false,false,false,false,false,false,false] (by kernel_rfl) rfl rfl (((HB.out.cell (World.block_lt_of_cell? w _ hw140_0)).trans hw140_0)) (fun hHeld => ?_)
            generalize w5.drew = w11 at HB hx140_0 hHeld ⊢
            refine pure_ (i := 0) (N := some 40) (v := ?_) (a' := ?_) #[true,false,false,false,false,false,false] rfl rfl (by kernel_rfl) (fun _ _ _ h => h) (Or.inl ⟨by rfl,?_⟩) ?_ ?_
            rotate_left
            · intro w'
              go_simp
              with_reducible rfl
            rotate_left
            · simp only [Act.put,List.setIfInBounds_toArray,List.set_cons_zero,List.set_cons_succ,i64_w,i32_w]
              rfl
            refine pure_ (i := 1) (N := some 41) (v := ?_) (a' := ?_) #[true,true,false,false,false,false,false] rfl rfl (by kernel_rfl) (fun _ _ _ h => h) (Or.inl ⟨by rfl,?_⟩) ?_ ?_
            rotate_left
            · intro w'
              go_simp
              with_reducible rfl
            rotate_left
            · simp only [Act.put,List.setIfInBounds_toArray,List.set_cons_zero,List.set_cons_succ,i64_w,i32_w]
              rfl
            refine pure_ (i := 5) (N := some 4) (v := ?_) (a' := ?_) #[true,true,false,false,false,true,false] rfl rfl (by kernel_rfl) (fun _ _ _ h => h) (Or.inl ⟨by rfl,?_⟩) ?_ ?_
            rotate_left
            · intro w'
              go_simp
              with_reducible rfl
            rotate_left
            · simp only [Act.put,List.setIfInBounds_toArray,List.set_cons_zero,List.set_cons_succ,i64_w,i32_w]
              rfl
            refine take_ (i := 2) (N := some 42) (v := ?_) (a' := ?_) #[true,true,true,false,false,true,false] rfl rfl (by kernel_rfl) (fun _ _ _ h => h) (Or.inl ⟨by rfl,?_⟩) hHeld ?_ ?_
            rotate_left
            · intro w' s0
              go_simp
              with_reducible rfl
            rotate_left
            · simp only [Act.put,List.setIfInBounds_toArray,List.set_cons_zero,List.set_cons_succ,i64_w,i32_w]
              rfl
            refine pure_ (i := 3) (N := some 43) (v := ?_) (a' := ?_) #[true,true,true,true,false,true,false] rfl rfl (by kernel_rfl) (fun _ _ _ h => h) (Or.inl ⟨by rfl,?_⟩) ?_ ?_
            rotate_left
            · intro w'
              go_simp
              with_reducible rfl
            rotate_left
            · simp only [Act.put,List.setIfInBounds_toArray,List.set_cons_zero,List.set_cons_succ,i64_w,i32_w]
              rfl
            refine pure_ (i := 4) (N := some 44) (v := ?_) (a' := ?_) #[true,true,true,true,true,true,false] rfl rfl (by kernel_rfl) (fun _ _ _ h => h) (Or.inl ⟨by rfl,?_⟩) ?_ ?_
            rotate_left
            · intro w'
              go_simp
              with_reducible rfl
            rotate_left
            · simp only [Act.put,List.setIfInBounds_toArray,List.set_cons_zero,List.set_cons_succ,i64_w,i32_w]
              rfl
            refine pure_ (i := 6) (N := some 5) (v := ?_) (a' := ?_) #[true,true,true,true,true,true,true] rfl rfl (by kernel_rfl) (fun _ _ _ h => h) (Or.inl ⟨by rfl,?_⟩) ?_ ?_
            rotate_left
            · intro w'
              go_simp
              with_reducible rfl
            rotate_left
            · simp only [Act.put,List.setIfInBounds_toArray,List.set_cons_zero,List.set_cons_succ,i64_w,i32_w]
              rfl
            refine done_ (by kernel_rfl) ?_
            try go_wp2
            go_meet
            case rel => exact ⟨_,(2),(wrap64 ((wrap64 (rd l0 0)) - 192)),(by first | rfl | (simp; done) | (simp [*]; done)),(by first | rfl | (simp; done) | (simp [*]; done)),H',⟨by first | omega | exact Nat.le_refl _⟩,⟨by repeat (first | (with_reducible first | exact HB.out | apply below_alloc | apply pw_below_drewN | apply below_drew1 | apply bytes_below1) | exact HB.out)⟩⟩
          · rw [if_neg c10] at H
            have c10b0 : decide (192 ≤ (rd l0 0)) = false := decide_eq_false c10
            clear c10
            have H' := Aside0.mk H
            clear H
            have p135 : 0 ≤ (0 : Int) := (by omega)
            have q135 : 0 < (l0.length : Int) := of_decide_eq_true (by first | (with_reducible assumption) | assumption)
            obtain ⟨ad135,e135,hx135_0⟩ := Kd.at_int HR0.out 0 p135 q135
            obtain rfl : ad134 = ad135 := (by injection e135)
            have qi135 : (0 < l0.length) = True := eq_true (by omega)
            (try rw [show ((0 : Int)).toNat = 0 from rfl] at hx135_0)
            (try rw [Addr.add_zero'] at hx135_0)
            replace hx135_0 := (HB.out.cell (World.block_lt_of_cell? w _ hx135_0)).trans hx135_0
            replace p135 := eq_true p135
            replace q135 := eq_true q135
            have p137 : 0 ≤ (0 : Int) := (by omega)
            have q137 : 0 < (l0.length : Int) := of_decide_eq_true (by first | (with_reducible assumption) | assumption)
            obtain ⟨ad137,e137,hx137_0⟩ := Kd.at_int HR0.out 0 p137 q137
            obtain rfl : ad134 = ad137 := (by injection e137)
            have qi137 : (0 < l0.length) = True := eq_true (by omega)
            (try rw [show ((0 : Int)).toNat = 0 from rfl] at hx137_0)
            (try rw [Addr.add_zero'] at hx137_0)
            replace hx137_0 := (HB.out.cell (World.block_lt_of_cell? w _ hx137_0)).trans hx137_0
            replace p137 := eq_true p137
            replace q137 := eq_true q137
            have p139 : 0 ≤ (0 : Int) := (by omega)
            have q139 : 0 < (l0.length : Int) := of_decide_eq_true (by first | (with_reducible assumption) | assumption)
            obtain ⟨ad139,e139,hx139_0⟩ := Kd.at_int HR0.out 0 p139 q139
            obtain rfl : ad134 = ad139 := (by injection e139)
            have qi139 : (0 < l0.length) = True := eq_true (by omega)
            (try rw [show ((0 : Int)).toNat = 0 from rfl] at hx139_0)
            (try rw [Addr.add_zero'] at hx139_0)
            replace hx139_0 := (HB.out.cell (World.block_lt_of_cell? w _ hx139_0)).trans hx139_0
            replace p139 := eq_true p139
            replace q139 := eq_true q139
            go_wp2
            go_meet
            case rel => exact ⟨_,(1),(wrap64 (rd l0 0)),(by first | rfl | (simp; done) | (simp [*]; done)),(by first | rfl | (simp; done) | (simp [*]; done)),H',⟨by first | omega | exact Nat.le_refl _⟩,⟨by repeat (first | (with_reducible first | exact HB.out | apply below_alloc | apply pw_below_drewN | apply below_drew1 | apply bytes_below1) | exact HB.out)⟩⟩
     case rest =>
      clear HC4
      try clear c1
      try clear p1
      try clear q1
      try clear hx1
      try clear qi1
      try clear c2
      try clear c2b0
      try clear c2b1
      try clear c2b2
      try clear p2
      try clear c3
      try clear c3b0
      try clear c3b1
      try clear c4
      try clear c6
      try clear c6b0
      try clear p6
      try clear c8
      try clear c8b0
      try clear c10
      try clear c10b0
      try clear hx134_0
      try clear hx135_0
      try clear hx136_0
      try clear hx137_0
      try clear hx138_0
      try clear hx139_0
      try clear hx140_0
      try clear p134
      try clear p135
      try clear p136
      try clear p137
      try clear p138
      try clear p139
      try clear p140
      try clear q134
      try clear q135
      try clear q136
      try clear q137
      try clear q138
      try clear q139
      try clear q140
      obtain ⟨kq,x4_3,x5_3,rfl,rfl,HA,HJ3,HB⟩ := hcut
      cases kq with
      | zero => exact absurd HA.out (by simp [dossierref01_Decode.j0])
      | succ kj3 =>
       have H := HA.out
       clear HA
       simp only [dossierref01_Decode.j0] at H
       by_cases c12 : x4_3 > (l0.length : Int)
       · rw [if_pos c12] at H
         have c12b0 : decide ((l0.length : Int) < x4_3) = true := decide_eq_true c12
         clear c12
         simp only [Option.some.injEq,Prod.mk.injEq] at H
         obtain ⟨rfl,rfl⟩ := H
         go_wp2
         go_ret2
         exact ⟨by first | rfl | (simp [errW_none,errW_some] <;> rfl) | (simp [*,errW_none,errW_some] <;> rfl),by repeat (first | (with_reducible first | exact HB.out | apply below_alloc | apply pw_below_drewN | apply below_drew1 | apply bytes_below1) | exact HB.out)⟩
       · rw [if_neg c12] at H
         have c12b0 : decide ((l0.length : Int) < x4_3) = false := decide_eq_false c12
         clear c12
         by_cases c13 : 1 ≤ x4_3
         · rw [if_pos c13] at H
           have c13b0 := eq_true c13
           have c13b1 : decide (1 ≤ x4_3) = true := decide_eq_true c13
           clear c13
           by_cases c14 : x4_3 ≤ (l0.length : Int)
           · rw [if_pos c14] at H
             have c14b0 := eq_true c14
             have c14b1 : decide (x4_3 ≤ (l0.length : Int)) = true := decide_eq_true c14
             clear c14
             have H' := Aside0.mk H
             clear H
             obtain ⟨i015,hi015,_,hsz15,_⟩ := info_parts info5
             obtain ⟨A15,hcut15,hA15,hC15⟩ := print_mid_of (P := Tryz.prog) (Value.int .u8) 0 24 5 .i64 .i64 Tryz.underlying24 hi015 hsz15 (some ad134) c0 l0 1 x4_3 (by omega) (by first | omega | exact of_decide_eq_true (by first | (with_reducible assumption) | assumption)) (of_decide_eq_true (by first | (with_reducible assumption) | assumption)) HC0.out
             have HR141 := Aside0.mk (Kd.C_of_reads (h1 := fun _ => rfl) (hA15 _ (Kd.reads_of_C HR0.out)))
             have HC141 := Aside0.mk hC15
             clear hA15 hC15 hi015 hsz15
             obtain ⟨zs15,hzs15⟩ : ∃ z,z = ((l0.take (x4_3 : Int).toNat).drop 1) := ⟨_,rfl⟩
             rw [show List.drop (Int.toNat 1) (List.take (x4_3 : Int).toNat l0) = zs15 from hzs15.symm] at hcut15 HR141 HC141
             rw [← hzs15] at H'
             have HZS15 := Aside0.mk hzs15
             clear hzs15
             go_wp2
             go_loopg [5,53] kj3 (fun kq v5 v53 w' => ∃ (x5_2 : Int) (x53_2 : Int),v5 = .int .i64 x5_2 ∧ v53 = .int .i64 x53_2 ∧ Aside0 (dossierref01_Decode.l0 kq l0 x4_3 x5_2 zs15 (zs15.length : Int) x53_2 = some (r1,r2)) ∧ Aside0 (kq ≤ kj3) ∧ Aside0 (Below w.heap.size w w'))
             case atStart => exact ⟨(x5_3),(0),(by first | rfl | (simp; done) | (simp [*]; done)),(by first | rfl | (simp; done) | (simp [*]; done)),H',⟨Nat.le_refl _⟩,⟨by repeat (first | (with_reducible first | exact HB.out | apply below_alloc | apply pw_below_drewN | apply below_drew1 | apply bytes_below1) | exact HB.out)⟩⟩
             case round =>
              clear H'
              try clear c1
              try clear p1
              try clear q1
              try clear hx1
              try clear qi1
              try clear c2
              try clear c2b0
              try clear c2b1
              try clear c2b2
              try clear p2
              try clear c3
              try clear c3b0
              try clear c3b1
              try clear c4
              try clear c6
              try clear c6b0
              try clear p6
              try clear c8
              try clear c8b0
              try clear c10
              try clear c10b0
              try clear c12
              try clear c12b0
              try clear c13
              try clear c13b0
              try clear c13b1
              try clear p13
              try clear q13
              try clear hx13
              try clear qi13
              try clear c14
              try clear c14b0
              try clear c14b1
              try clear p14
              try clear q14
              try clear hx14
              try clear qi14
              try clear hx134_0
              try clear hx135_0
              try clear hx136_0
              try clear hx137_0
              try clear hx138_0
              try clear hx139_0
              try clear hx140_0
              try clear p1
              try clear p134
              try clear p135
              try clear p136
              try clear p137
              try clear p138
              try clear p139
              try clear p140
              try clear p2
              try clear p6
              try clear q1
              try clear q134
              try clear q135
              try clear q136
              try clear q137
              try clear q138
              try clear q139
              try clear q140
              obtain ⟨x5_2,x53_2,rfl,rfl,HA,HK2,HB⟩ := hrel
              cases gk with
              | zero => exact absurd HA.out (by simp [dossierref01_Decode.l0])
              | succ k2 =>
               have H := HA.out
               clear HA
               simp only [dossierref01_Decode.l0] at H
               by_cases c16 : x53_2 < (zs15.length : Int)
               · rw [if_pos c16] at H
                 have c16b0 : decide (x53_2 < (zs15.length : Int)) = true := decide_eq_true c16
                 clear c16
                 by_cases c17 : 0 ≤ x53_2
                 · rw [if_pos c17] at H
                   have c17b0 : decide (0 ≤ x53_2) = true := decide_eq_true c17
                   clear c17
                   by_cases c18 : x53_2 < (zs15.length : Int)
                   · rw [if_pos c18] at H
                     have c18b0 : decide (x53_2 < (zs15.length : Int)) = true := decide_eq_true c18
                     clear c18
                     by_cases c19 : (rd zs15 x53_2) < 128
                     · rw [if_pos c19] at H
                       have c19b0 : decide ((rd zs15 x53_2) < 128) = true := decide_eq_true c19
                       clear c19
                       simp only [Option.some.injEq,Prod.mk.injEq] at H
                       obtain ⟨rfl,rfl⟩ := H
                       have p142 : 0 ≤ (x53_2 : Int) := of_decide_eq_true (by first | (with_reducible assumption) | assumption)
                       have q142 : x53_2 < (zs15.length : Int) := of_decide_eq_true (by first | (with_reducible assumption) | assumption)
                       obtain ⟨ad142,e142,hx142_0⟩ := Kd.at_int HR141.out x53_2 p142 q142
                       cases e142
                       replace hx142_0 := (HB.out.cell (World.block_lt_of_cell? w _ hx142_0)).trans hx142_0
                       replace p142 := eq_true p142
                       replace q142 := eq_true q142
                       go_wp2
                       go_ret2
                       exact ⟨by first | rfl | (simp [errW_none,errW_some] <;> rfl) | (simp [*,errW_none,errW_some] <;> rfl),by repeat (first | (with_reducible first | exact HB.out | apply below_alloc | apply pw_below_drewN | apply below_drew1 | apply bytes_below1) | exact HB.out)⟩
                     · rw [if_neg c19] at H
                       have c19b0 : decide ((rd zs15 x53_2) < 128) = false := decide_eq_false c19
                       clear c19
                       by_cases c20 : (rd zs15 x53_2) > 191
                       · rw [if_pos c20] at H
                         have c20b0 : decide (191 < (rd zs15 x53_2)) = true := decide_eq_true c20
                         clear c20
                         simp only [Option.some.injEq,Prod.mk.injEq] at H
                         obtain ⟨rfl,rfl⟩ := H
                         have p142 : 0 ≤ (x53_2 : Int) := of_decide_eq_true (by first | (with_reducible assumption) | assumption)
                         have q142 : x53_2 < (zs15.length : Int) := of_decide_eq_true (by first | (with_reducible assumption) | assumption)
                         obtain ⟨ad142,e142,hx142_0⟩ := Kd.at_int HR141.out x53_2 p142 q142
                         cases e142
                         replace hx142_0 := (HB.out.cell (World.block_lt_of_cell? w _ hx142_0)).trans hx142_0
                         replace p142 := eq_true p142
                         replace q142 := eq_true q142
                         go_wp2
                         go_ret2
                         exact ⟨by first | rfl | (simp [errW_none,errW_some] <;> rfl) | (simp [*,errW_none,errW_some] <;> rfl),by repeat (first | (with_reducible first | exact HB.out | apply below_alloc | apply pw_below_drewN | apply below_drew1 | apply bytes_below1) | exact HB.out)⟩
                       · rw [if_neg c20] at H
                         have c20b0 : decide (191 < (rd zs15 x53_2)) = false := decide_eq_false c20
                         clear c20
                         have H' := Aside0.mk H
                         clear H
                         have p142 : 0 ≤ (x53_2 : Int) := of_decide_eq_true (by first | (with_reducible assumption) | assumption)
                         have q142 : x53_2 < (zs15.length : Int) := of_decide_eq_true (by first | (with_reducible assumption) | assumption)
                         obtain ⟨ad142,e142,hx142_0⟩ := Kd.at_int HR141.out x53_2 p142 q142
                         cases e142
                         replace hx142_0 := (HB.out.cell (World.block_lt_of_cell? w _ hx142_0)).trans hx142_0
                         replace p142 := eq_true p142
                         replace q142 := eq_true q142
                         go_wp2
                         go_roundg k2
                         case measure => have := HJ3.out; have := HK2.out; omega
                         case rel => exact ⟨(wrap64 ((wrap64 ((wrap64 (x5_2 * 64)) + (wrap64 (rd zs15 x53_2)))) - 128)),(wrap64 (x53_2 + 1)),(by first | rfl | (simp; done) | (simp [*]; done)),(by first | rfl | (simp; done) | (simp [*]; done)),H',⟨by have := HJ3.out; have := HK2.out; omega⟩,⟨by repeat (first | (with_reducible first | exact HB.out | apply below_alloc | apply pw_below_drewN | apply below_drew1 | apply bytes_below1) | exact HB.out)⟩⟩
                   · rw [if_neg c18] at H
                     exact absurd H (by simp)
                 · rw [if_neg c17] at H
                   exact absurd H (by simp)
               · rw [if_neg c16] at H
                 have c16b0 : decide (x53_2 < (zs15.length : Int)) = false := decide_eq_false c16
                 clear c16
                 replace H := Option.bind_eq_some_iff.mp H
                 obtain ⟨t143,A210,H⟩ := H
                 replace H : (if 0 ≤ x4_3 then (if x4_3 ≤ (l0.length : Int) then (if (strOfNums t143).toList = (strOfNums (l0.take (x4_3 : Int).toNat)).toList then (some (x5_2,x4_3)) else (some (0,0))) else (none)) else (none)) = some (r1,r2) := H
                 have A21 := Aside0.mk A210
                 clear A210
                 by_cases c22 : 0 ≤ x4_3
                 · rw [if_pos c22] at H
                   have c22b0 := eq_true c22
                   have c22b1 : decide (0 ≤ x4_3) = true := decide_eq_true c22
                   clear c22
                   by_cases c23 : x4_3 ≤ (l0.length : Int)
                   · rw [if_pos c23] at H
                     have c23b0 := eq_true c23
                     have c23b1 : decide (x4_3 ≤ (l0.length : Int)) = true := decide_eq_true c23
                     clear c23
                     by_cases c24 : (strOfNums t143).toList = (strOfNums (l0.take (x4_3 : Int).toNat)).toList
                     · rw [if_pos c24] at H
                       have c24b0 : ((strOfNums t143).toList == (strOfNums (l0.take (x4_3 : Int).toNat)).toList) = true := beq_iff_eq.mpr c24
                       have c24b1 : ((strOfNums t143).toList != (strOfNums (l0.take (x4_3 : Int).toNat)).toList) = false := bne_eq_false_iff_eq.mpr c24
                       clear c24
                       simp only [Option.some.injEq,Prod.mk.injEq] at H
                       obtain ⟨rfl,rfl⟩ := H
                       try go_wp2
                       have n0_ := Aside0.mk (below_drew1 HB.out)
                       clear HB
                       have HB := n0_
                       clear n0_
                       obtain ⟨i026,hi026,_,hsz26,_⟩ := info_parts info5
                       obtain ⟨hcut26,hA26,hC26⟩ := print_take_of (P := Tryz.prog) (Value.int .u8) 0 24 5 .i64 Tryz.underlying24 hi026 hsz26 (some ad134) c0 l0 x4_3 (of_decide_eq_true (by first | (with_reducible assumption) | assumption)) (of_decide_eq_true (by first | (with_reducible assumption) | assumption)) HC0.out
                       have HR146 := Aside0.mk (Kd.C_of_reads (h1 := fun _ => rfl) (hA26 _ (Kd.reads_of_C HR0.out)))
                       have HC146 := Aside0.mk hC26
                       clear hA26 hC26 hi026 hsz26
                       obtain ⟨zt26,hzt26⟩ : ∃ z,z = (l0.take (x4_3 : Int).toNat) := ⟨_,rfl⟩
                       rw [← hzt26] at hcut26 HR146 HC146
                       (try rw [← hzt26] at c24b0)
                       (try rw [← hzt26] at c24b1)
                       have HZT26 := Aside0.mk hzt26
                       clear hzt26
                       refine start_ (n := 8) (S := fun w' => Below w.heap.size w w') (ds := []) #[false,false,false,false,false,false,false,false] (by kernel_rfl) rfl rfl (by repeat (first | exact HB.out | apply below_drew1)) (fun hHeld => ?_); refine with_tabW dossierref01_Decode.tab19 dossierref01_Decode.bits19 (fun HT_ HW_ => ?_)
                       generalize wr.drew = w25 at HB HR146 hHeld ⊢
                       refine pure_ (i := 0) (N := some 70) (v := ?_) (a' := ?_) #[true,false,false,false,false,false,false,false] rfl rfl (any_of HT_.out (by kernel_rfl)) (fun _ _ _ h => h) (Or.inl ⟨by rfl,?_⟩) ?_ ?_
                       rotate_left
                       · intro w'
                         go_simp
                         with_reducible rfl
                       rotate_left
                       · simp only [Act.put,List.setIfInBounds_toArray,List.set_cons_zero,List.set_cons_succ,i64_w,i32_w]
                         rfl
                       refine pure_ (i := 3) (N := some 73) (v := ?_) (a' := ?_) #[true,false,false,true,false,false,false,false] rfl rfl (any_of HT_.out (by kernel_rfl)) (fun _ _ _ h => h) (Or.inl ⟨by rfl,?_⟩) ?_ ?_
                       rotate_left
                       · intro w'
                         go_simp
                         with_reducible rfl
                       rotate_left
                       · simp only [Act.put,List.setIfInBounds_toArray,List.set_cons_zero,List.set_cons_succ,i64_w,i32_w]
                         rfl
                       refine pure_ (i := 4) (N := some 74) (v := ?_) (a' := ?_) #[true,false,false,true,true,false,false,false] rfl rfl (any_of HT_.out (by kernel_rfl)) (fun _ _ _ h => h) (Or.inl ⟨by rfl,?_⟩) ?_ ?_
                       rotate_left
                       · intro w'
                         go_simp
                         with_reducible rfl
                       rotate_left
                       · simp only [Act.put,List.setIfInBounds_toArray,List.set_cons_zero,List.set_cons_succ,i64_w,i32_w]
                         rfl
                       refine pure_ (i := 5) (N := some 75) (v := ?_) (a' := ?_) #[true,false,false,true,true,true,false,false] rfl rfl (any_of HT_.out (by kernel_rfl)) (fun _ _ _ h => h) (Or.inl ⟨by rfl,?_⟩) ?_ ?_
                       rotate_left
                       · intro w'
                         go_simp
                         with_reducible rfl
                       rotate_left
                       · simp only [Act.put,List.setIfInBounds_toArray,List.set_cons_zero,List.set_cons_succ,i64_w,i32_w]
                         rfl
                       refine take_ (i := 6) (N := some 76) (v := ?_) (a' := ?_) #[true,false,false,true,true,true,true,false] rfl rfl (take_ofW HT_.out HW_.out (by kernel_rfl)) (fun _ _ _ h => h) (Or.inl ⟨by rfl,?_⟩) hHeld ?_ ?_
                       rotate_left
                       · intro w' hS_
                         have hcvS := Kd.C_string (P := Tryz.prog) (A := (some ad134)) (c := c0) Tryz.underlying24 Tryz.underlying5 Tryz.underlying9 (Kd.C_below HR146.out hS_)
                         go_simp
                         with_reducible rfl
                       rotate_left
                       · simp only [Act.put,List.setIfInBounds_toArray,List.set_cons_zero,List.set_cons_succ,i64_w,i32_w]
                         rfl
                       refine one_ (i := 1) (N := some 71) #[true,true,false,true,true,true,true,false] rfl rfl (one_of HT_.out (by kernel_rfl)) (by decide) (fun K hK => ?_)
                       refine goes_ Tryz.func74 (by kernel_rfl) rfl #[.int .i64 x5_2] (by rfl) rfl rfl (by (try simp only [List.map_toArray,List.map_cons,List.map_nil]); first | done | rfl | (simp only [List.length_drop,List.length_take]; rfl)) ?_
                       with_reducible refine (dossierref01_Encode.calls k2 x5_2 t143 _ A21.out).mono ?_
                       rintro e w27 ⟨v144,rfl,ho0,hb⟩
                       refine ⟨_,rfl,?_⟩
                       have n0_ := Aside0.mk (Kd.R_lower ho0 (below_size (by repeat (first | (with_reducible first | exact HB.out | apply below_alloc | apply pw_below_drewN | apply below_drew1 | apply bytes_below1) | exact HB.out))))
                       have n1_ := Aside0.mk (below_step (by repeat (first | (with_reducible first | exact HB.out | apply below_alloc | apply pw_below_drewN | apply below_drew1 | apply bytes_below1) | exact HB.out)) hb)
                       clear HB
                       have HO145 := n0_
                       have HB := n1_
                       clear n0_ n1_
                       (try clear hb)
                       (try clear hb2)
                       (try clear hk)
                       (try clear hi)
                       (try clear ho0)
                       have hcv29 := Kd.C_string (P := Tryz.prog) (A := (some ad134)) (c := c0) Tryz.underlying24 Tryz.underlying5 Tryz.underlying9 (Kd.C_below HR146.out HB.out)
                       refine hK.out _ _ HB.out (fun hHeld => ?_)
                       clear hK K
                       refine norm_ (a' := ?_) ?_ ?_
                       rotate_left
                       · show Act.put _ (some 71) _ = _
                         simp only [Act.put,List.setIfInBounds_toArray,List.set_cons_zero,List.set_cons_succ,i64_w,i32_w]
                         rfl
                       refine one_ (i := 2) (N := some 72) #[true,true,true,true,true,true,true,false] rfl rfl (one_of HT_.out (by kernel_rfl)) (by decide) (fun K hK => ?_)
                       have hcv28 := own_string (P := Tryz.prog) Tryz.underlying24 Tryz.underlying5 Tryz.underlying9 (Kd.own_of_R HO145.out)
                       refine value_ (w1 := ?_) (v := ?_) (by rfl) rfl ?_ ?_
                       rotate_left 2
                       · go_simp
                         constructor
                         · rfl
                         · rfl
                       clear hcv28
                       refine hK.out _ _ HB.out (fun hHeld => ?_)
                       clear hK K
                       refine norm_ (a' := ?_) ?_ ?_
                       rotate_left
                       · show Act.put _ (some 72) _ = _
                         simp only [Act.put,List.setIfInBounds_toArray,List.set_cons_zero,List.set_cons_succ,i64_w,i32_w]
                         rfl
                       refine pure_ (i := 7) (N := some 77) (v := ?_) (a' := ?_) #[true,true,true,true,true,true,true,true] rfl rfl (any_of HT_.out (by kernel_rfl)) (fun _ _ _ h => h) (Or.inl ⟨by rfl,?_⟩) ?_ ?_
                       rotate_left
                       · intro w'
                         go_simp
                         with_reducible rfl
                       rotate_left
                       · simp only [Act.put,List.setIfInBounds_toArray,List.set_cons_zero,List.set_cons_succ,i64_w,i32_w]
                         rfl
                       refine done_ (done_of HT_.out (by kernel_rfl)) ?_
                       try go_wp2
                       go_ret2
                       exact ⟨by first | rfl | (simp [errW_none,errW_some] <;> rfl) | (simp [*,errW_none,errW_some] <;> rfl),by repeat (first | (with_reducible first | exact HB.out | apply below_alloc | apply pw_below_drewN | apply below_drew1 | apply bytes_below1) | exact HB.out)⟩
                     · rw [if_neg c24] at H
                       have c24b0 : ((strOfNums t143).toList == (strOfNums (l0.take (x4_3 : Int).toNat)).toList) = false := beq_eq_false_iff_ne.mpr c24
                       have c24b1 : ((strOfNums t143).toList != (strOfNums (l0.take (x4_3 : Int).toNat)).toList) = true := bne_iff_ne.mpr c24
                       simp only [Option.some.injEq,Prod.mk.injEq] at H
                       obtain ⟨rfl,rfl⟩ := H
                       try go_wp2
                       have n0_ := Aside0.mk (below_drew1 HB.out)
                       clear HB
                       have HB := n0_
                       clear n0_
                       obtain ⟨i032,hi032,_,hsz32,_⟩ := info_parts info5
                       obtain ⟨hcut32,hA32,hC32⟩ := print_take_of (P := Tryz.prog) (Value.int .u8) 0 24 5 .i64 Tryz.underlying24 hi032 hsz32 (some ad134) c0 l0 x4_3 (of_decide_eq_true (by first | (with_reducible assumption) | assumption)) (of_decide_eq_true (by first | (with_reducible assumption) | assumption)) HC0.out
                       have HR146 := Aside0.mk (Kd.C_of_reads (h1 := fun _ => rfl) (hA32 _ (Kd.reads_of_C HR0.out)))
                       have HC146 := Aside0.mk hC32
                       clear hA32 hC32 hi032 hsz32
                       obtain ⟨zt32,hzt32⟩ : ∃ z,z = (l0.take (x4_3 : Int).toNat) := ⟨_,rfl⟩
                       rw [← hzt32] at hcut32 HR146 HC146
                       (try rw [← hzt32] at c24b0)
                       (try rw [← hzt32] at c24b1)
                       have HZT32 := Aside0.mk hzt32
                       clear hzt32
                       refine start_ (n := 8) (S := fun w' => Below w.heap.size w w') (ds := []) #[false,false,false,false,false,false,false,false] (by kernel_rfl) rfl rfl (by repeat (first | exact HB.out | apply below_drew1)) (fun hHeld => ?_); refine with_tabW dossierref01_Decode.tab19 dossierref01_Decode.bits19 (fun HT_ HW_ => ?_)
                       generalize wr.drew = w31 at HB HR146 hHeld ⊢
                       refine pure_ (i := 0) (N := some 70) (v := ?_) (a' := ?_) #[true,false,false,false,false,false,false,false] rfl rfl (any_of HT_.out (by kernel_rfl)) (fun _ _ _ h => h) (Or.inl ⟨by rfl,?_⟩) ?_ ?_
                       rotate_left
                       · intro w'
                         go_simp
                         with_reducible rfl
                       rotate_left
                       · simp only [Act.put,List.setIfInBounds_toArray,List.set_cons_zero,List.set_cons_succ,i64_w,i32_w]
                         rfl
                       refine pure_ (i := 3) (N := some 73) (v := ?_) (a' := ?_) #[true,false,false,true,false,false,false,false] rfl rfl (any_of HT_.out (by kernel_rfl)) (fun _ _ _ h => h) (Or.inl ⟨by rfl,?_⟩) ?_ ?_
                       rotate_left
                       · intro w'
                         go_simp
                         with_reducible rfl
                       rotate_left
                       · simp only [Act.put,List.setIfInBounds_toArray,List.set_cons_zero,List.set_cons_succ,i64_w,i32_w]
                         rfl
                       refine pure_ (i := 4) (N := some 74) (v := ?_) (a' := ?_) #[true,false,false,true,true,false,false,false] rfl rfl (any_of HT_.out (by kernel_rfl)) (fun _ _ _ h => h) (Or.inl ⟨by rfl,?_⟩) ?_ ?_
                       rotate_left
                       · intro w'
                         go_simp
                         with_reducible rfl
                       rotate_left
                       · simp only [Act.put,List.setIfInBounds_toArray,List.set_cons_zero,List.set_cons_succ,i64_w,i32_w]
                         rfl
                       refine pure_ (i := 5) (N := some 75) (v := ?_) (a' := ?_) #[true,false,false,true,true,true,false,false] rfl rfl (any_of HT_.out (by kernel_rfl)) (fun _ _ _ h => h) (Or.inl ⟨by rfl,?_⟩) ?_ ?_
                       rotate_left
                       · intro w'
                         go_simp
                         with_reducible rfl
                       rotate_left
                       · simp only [Act.put,List.setIfInBounds_toArray,List.set_cons_zero,List.set_cons_succ,i64_w,i32_w]
                         rfl
                       refine take_ (i := 6) (N := some 76) (v := ?_) (a' := ?_) #[true,false,false,true,true,true,true,false] rfl rfl (take_ofW HT_.out HW_.out (by kernel_rfl)) (fun _ _ _ h => h) (Or.inl ⟨by rfl,?_⟩) hHeld ?_ ?_
                       rotate_left
                       · intro w' hS_
                         have hcvS := Kd.C_string (P := Tryz.prog) (A := (some ad134)) (c := c0) Tryz.underlying24 Tryz.underlying5 Tryz.underlying9 (Kd.C_below HR146.out hS_)
                         go_simp
                         with_reducible rfl
                       rotate_left
                       · simp only [Act.put,List.setIfInBounds_toArray,List.set_cons_zero,List.set_cons_succ,i64_w,i32_w]
                         rfl
                       refine one_ (i := 1) (N := some 71) #[true,true,false,true,true,true,true,false] rfl rfl (one_of HT_.out (by kernel_rfl)) (by decide) (fun K hK => ?_)
                       refine goes_ Tryz.func74 (by kernel_rfl) rfl #[.int .i64 x5_2] (by rfl) rfl rfl (by (try simp only [List.map_toArray,List.map_cons,List.map_nil]); first | done | rfl | (simp only [List.length_drop,List.length_take]; rfl)) ?_
                       with_reducible refine (dossierref01_Encode.calls k2 x5_2 t143 _ A21.out).mono ?_
                       rintro e w33 ⟨v144,rfl,ho0,hb⟩
                       refine ⟨_,rfl,?_⟩
                       have n0_ := Aside0.mk (Kd.R_lower ho0 (below_size (by repeat (first | (with_reducible first | exact HB.out | apply below_alloc | apply pw_below_drewN | apply below_drew1 | apply bytes_below1) | exact HB.out))))
                       have n1_ := Aside0.mk (below_step (by repeat (first | (with_reducible first | exact HB.out | apply below_alloc | apply pw_below_drewN | apply below_drew1 | apply bytes_below1) | exact HB.out)) hb)
                       clear HB
                       have HO145 := n0_
                       have HB := n1_
                       clear n0_ n1_
                       (try clear hb)
                       (try clear hb2)
                       (try clear hk)
                       (try clear hi)
                       (try clear ho0)
                       have hcv35 := Kd.C_string (P := Tryz.prog) (A := (some ad134)) (c := c0) Tryz.underlying24 Tryz.underlying5 Tryz.underlying9 (Kd.C_below HR146.out HB.out)
                       refine hK.out _ _ HB.out (fun hHeld => ?_)
                       clear hK K
                       refine norm_ (a' := ?_) ?_ ?_
                       rotate_left
                       · show Act.put _ (some 71) _ = _
                         simp only [Act.put,List.setIfInBounds_toArray,List.set_cons_zero,List.set_cons_succ,i64_w,i32_w]
                         rfl
                       refine one_ (i := 2) (N := some 72) #[true,true,true,true,true,true,true,false] rfl rfl (one_of HT_.out (by kernel_rfl)) (by decide) (fun K hK => ?_)
                       have hcv34 := own_string (P := Tryz.prog) Tryz.underlying24 Tryz.underlying5 Tryz.underlying9 (Kd.own_of_R HO145.out)
                       refine value_ (w1 := ?_) (v := ?_) (by rfl) rfl ?_ ?_
                       rotate_left 2
                       · go_simp
                         constructor
                         · rfl
                         · rfl
                       clear hcv34
                       refine hK.out _ _ HB.out (fun hHeld => ?_)
                       clear hK K
                       refine norm_ (a' := ?_) ?_ ?_
                       rotate_left
                       · show Act.put _ (some 72) _ = _
                         simp only [Act.put,List.setIfInBounds_toArray,List.set_cons_zero,List.set_cons_succ,i64_w,i32_w]
                         rfl
                       refine pure_ (i := 7) (N := some 77) (v := ?_) (a' := ?_) #[true,true,true,true,true,true,true,true] rfl rfl (any_of HT_.out (by kernel_rfl)) (fun _ _ _ h => h) (Or.inl ⟨by rfl,?_⟩) ?_ ?_
                       rotate_left
                       · intro w'
                         go_simp
                         with_reducible rfl
                       rotate_left
                       · simp only [Act.put,List.setIfInBounds_toArray,List.set_cons_zero,List.set_cons_succ,i64_w,i32_w]
                         rfl
                       refine done_ (done_of HT_.out (by kernel_rfl)) ?_
                       try go_wp2
                       go_ret2
                       exact ⟨by first | rfl | (simp [errW_none,errW_some] <;> rfl) | (simp [*,errW_none,errW_some] <;> rfl),by repeat (first | (with_reducible first | exact HB.out | apply below_alloc | apply pw_below_drewN | apply below_drew1 | apply bytes_below1) | exact HB.out)⟩
                   · rw [if_neg c23] at H
                     exact absurd H (by simp)
                 · rw [if_neg c22] at H
                   exact absurd H (by simp)
           · rw [if_neg c14] at H
             exact absurd H (by simp)
         · rw [if_neg c13] at H
           exact absurd H (by simp)
   · rw [if_neg c3] at H
     exact absurd H (by simp)
theorem dossierref01_Decode.callsB (k : Nat) (b c0 : Nat) (s : ByteArray) (r1 : Int) (r2 : Int) (w : World) (hr0 : Kd.C (Kd.int .u8) w (some ⟨b,0,none⟩) s.size (bytesOf s)) (hc0 : s.size ≤ c0) (h : dossierref01_Decode.f k (bytesOf s) = some (r1,r2)) :
 Calls Tryz.prog 47 #[.slice (some ⟨b,0,none⟩) s.size c0] w fun e w' => e = .returned (.tuple #[.int .i64 r1,.int .i64 r2]) ∧ Below w.heap.size w w' := by
 rw [size_of_bytes s] at hr0 hc0 ⊢
 exact dossierref01_Decode.calls k _ _ (bytesOf s) r1 r2 w hr0 hc0 h
end
section
/-! ### dossierref01_within: function 75 -/
def dossierref01_within.l0 : Nat → Int → List Int → Int → Option (Bool)
 | 0,_,_,_ => none
 | k + 1,x0,x1,x5 => if (wrap64 (x5 + 1)) < (x1.length : Int) then (if 0 ≤ x5 then (if x5 < (x1.length : Int) then (if x0 ≥ (rd x1 x5) then (if 0 ≤ (wrap64 (x5 + 1)) then (if x0 ≤ (rd x1 (wrap64 (x5 + 1))) then (some true) else (dossierref01_within.l0 k x0 x1 (wrap64 (x5 + 2)))) else (none)) else (dossierref01_within.l0 k x0 x1 (wrap64 (x5 + 2)))) else (none)) else (none)) else (some false)
def dossierref01_within.f (k : Nat) (a0 : Int) (l1 : List Int) : Option (Bool) := dossierref01_within.l0 k a0 l1 0
set_option maxHeartbeats 8000000 in
set_option maxRecDepth 100000 in
theorem dossierref01_within.calls (k : Nat) (a0 : Int) (A1 : Option Addr) (c1 : Nat) (l1 : List Int) (r : Bool) (w : World) (hr1 : Kd.C (Kd.int .i64) w A1 l1.length l1) (hc1 : l1.length ≤ c1) (h : dossierref01_within.f k a0 l1 = some r) :
 Calls Tryz.prog 75 #[.int .i64 a0,.slice A1 l1.length c1] w fun e w' => e = .returned (.bool r) ∧ Drawn0 w w' := by
 have HR1 := Aside0.mk hr1
 have HC1 := Aside0.mk hc1
 clear hr1 hc1
 have H : (dossierref01_within.l0 k a0 l1 0) = some r := h
 clear h
 have H' := Aside0.mk H
 clear H
 go_enter Tryz.func75,Tryz.ntmps75
 go_wp2
 go_loopg [5] k (fun kq v5 w' => ∃ (x5_1 : Int),v5 = .int .i64 x5_1 ∧ Aside0 (dossierref01_within.l0 kq a0 l1 x5_1 = some r) ∧ Aside0 (kq ≤ k) ∧ Drawn0 w w')
 case atStart => exact ⟨(0),(by first | rfl | (simp; done) | (simp [*]; done)),H',⟨Nat.le_refl _⟩,by repeat (first | exact Drawn0.refl _ | apply Drawn0.step)⟩
 case round =>
  clear H'
  try clear c1
  try clear p2
  obtain ⟨x5_1,rfl,HA,HK1,⟨m1,rfl⟩⟩ := hrel
  cases gk with
  | zero => exact absurd HA.out (by simp [dossierref01_within.l0])
  | succ k1 =>
   have H := HA.out
   clear HA
   simp only [dossierref01_within.l0] at H
   by_cases c3 : (wrap64 (x5_1 + 1)) < (l1.length : Int)
   · rw [if_pos c3] at H
     have c3b0 : decide ((wrap64 (x5_1 + 1)) < (l1.length : Int)) = true := decide_eq_true c3
     clear c3
     by_cases c4 : 0 ≤ x5_1
     · rw [if_pos c4] at H
       have c4b0 : decide (0 ≤ x5_1) = true := decide_eq_true c4
       clear c4
       by_cases c5 : x5_1 < (l1.length : Int)
       · rw [if_pos c5] at H
         have c5b0 : decide (x5_1 < (l1.length : Int)) = true := decide_eq_true c5
         clear c5
         by_cases c6 : a0 ≥ (rd l1 x5_1)
         · rw [if_pos c6] at H
           have c6b0 : decide ((rd l1 x5_1) ≤ a0) = true := decide_eq_true c6
           clear c6
           obtain ⟨ji7,hji7⟩ : ∃ j_ : Int,(wrap64 (x5_1 + 1)) = j_ := ⟨_,rfl⟩
           replace H : (if 0 ≤ (ji7) then (if a0 ≤ (rd l1 (ji7)) then (some true) else (dossierref01_within.l0 k1 a0 l1 (wrap64 (x5_1 + 2)))) else (none)) = some r := by first | (rw [hji7] at H; exact H) | (simp only [hji7] at H ⊢; exact H)
           (try rw [hji7] at c3b0)
           have hji7w : (IntKind.i64.wrap (x5_1 + 1)) = ji7 := (i64_w _).trans hji7
           by_cases c8 : 0 ≤ (ji7)
           · rw [if_pos c8] at H
             have c8b0 : decide (0 ≤ (ji7)) = true := decide_eq_true c8
             clear c8
             by_cases c9 : a0 ≤ (rd l1 (ji7))
             · rw [if_pos c9] at H
               have c9b0 : decide (a0 ≤ (rd l1 (ji7))) = true := decide_eq_true c9
               clear c9
               obtain rfl := Option.some.inj H
               have p147 : 0 ≤ (x5_1 : Int) := of_decide_eq_true (by first | (with_reducible assumption) | assumption)
               have q147 : x5_1 < (l1.length : Int) := of_decide_eq_true (by first | (with_reducible assumption) | assumption)
               obtain ⟨ad147,e147,hx147_0⟩ := Kd.at_int HR1.out x5_1 p147 q147
               cases e147
               replace p147 := eq_true p147
               replace q147 := eq_true q147
               have p148 : 0 ≤ ((ji7) : Int) := of_decide_eq_true (by first | (with_reducible assumption) | assumption)
               have q148 : (ji7) < (l1.length : Int) := of_decide_eq_true (by first | (with_reducible assumption) | assumption)
               obtain ⟨ad148,e148,hx148_0⟩ := Kd.at_int HR1.out (ji7) p148 q148
               obtain rfl : ad147 = ad148 := (by injection e148)
               replace p148 := eq_true p148
               replace q148 := eq_true q148
               go_wp2
               go_ret
               exact ⟨by first | rfl | (simp; done) | (simp only [← hji7] <;> (first | rfl | simp)) | (simp [*]; done),by repeat (first | exact Drawn0.refl _ | apply Drawn0.step)⟩
             · rw [if_neg c9] at H
               have c9b0 : decide (a0 ≤ (rd l1 (ji7))) = false := decide_eq_false c9
               clear c9
               have H' := Aside0.mk H
               clear H
               have p147 : 0 ≤ (x5_1 : Int) := of_decide_eq_true (by first | (with_reducible assumption) | assumption)
               have q147 : x5_1 < (l1.length : Int) := of_decide_eq_true (by first | (with_reducible assumption) | assumption)
               obtain ⟨ad147,e147,hx147_0⟩ := Kd.at_int HR1.out x5_1 p147 q147
               cases e147
               replace p147 := eq_true p147
               replace q147 := eq_true q147
               have p148 : 0 ≤ ((ji7) : Int) := of_decide_eq_true (by first | (with_reducible assumption) | assumption)
               have q148 : (ji7) < (l1.length : Int) := of_decide_eq_true (by first | (with_reducible assumption) | assumption)
               obtain ⟨ad148,e148,hx148_0⟩ := Kd.at_int HR1.out (ji7) p148 q148
               obtain rfl : ad147 = ad148 := (by injection e148)
               replace p148 := eq_true p148
               replace q148 := eq_true q148
               go_wp2
               go_roundg k1
               case measure => have := HK1.out; omega
               case rel => exact ⟨(wrap64 (x5_1 + 2)),(by first | rfl | (simp; done) | (simp [*]; done)),H',⟨by have := HK1.out; omega⟩,by repeat (first | exact Drawn0.refl _ | apply Drawn0.step)⟩
           · rw [if_neg c8] at H
             exact absurd H (by simp)
         · rw [if_neg c6] at H
           have c6b0 : decide ((rd l1 x5_1) ≤ a0) = false := decide_eq_false c6
           clear c6
           have H' := Aside0.mk H
           clear H
           have p147 : 0 ≤ (x5_1 : Int) := of_decide_eq_true (by first | (with_reducible assumption) | assumption)
           have q147 : x5_1 < (l1.length : Int) := of_decide_eq_true (by first | (with_reducible assumption) | assumption)
           obtain ⟨ad147,e147,hx147_0⟩ := Kd.at_int HR1.out x5_1 p147 q147
           cases e147
           replace p147 := eq_true p147
           replace q147 := eq_true q147
           go_wp2
           go_roundg k1
           case measure => have := HK1.out; omega
           case rel => exact ⟨(wrap64 (x5_1 + 2)),(by first | rfl | (simp; done) | (simp [*]; done)),H',⟨by have := HK1.out; omega⟩,by repeat (first | exact Drawn0.refl _ | apply Drawn0.step)⟩
       · rw [if_neg c5] at H
         exact absurd H (by simp)
     · rw [if_neg c4] at H
       exact absurd H (by simp)
   · rw [if_neg c3] at H
     have c3b0 : decide ((wrap64 (x5_1 + 1)) < (l1.length : Int)) = false := decide_eq_false c3
     clear c3
     obtain rfl := Option.some.inj H
     go_wp2
     go_ret
     exact ⟨by first | rfl | (simp; done) | (simp [*]; done),by repeat (first | exact Drawn0.refl _ | apply Drawn0.step)⟩
end
section
/-! ### dossierref01_OfXML: function 48 -/
def dossierref01_OfXML.f (k : Nat) (a0 : Int) : Option (Bool) := (dossierref01_within.f k a0 (([9,10,13,13,32,55295,57344,65533,65536,1114111] : List Int))).bind fun t152 => (some t152)
set_option maxHeartbeats 8000000 in
set_option maxRecDepth 100000 in
theorem dossierref01_OfXML.calls (k : Nat) (a0 : Int) (r : Bool) (w : World) (h : dossierref01_OfXML.f k a0 = some r) :
 Calls Tryz.prog 48 #[.int .i64 a0] w fun e w' => e = .returned (.bool r) ∧ Below w.heap.size w w' := by
 have HB := Aside0.mk (Below.refl w.heap.size w)
 have H : ((dossierref01_within.f k a0 (([9,10,13,13,32,55295,57344,65533,65536,1114111] : List Int))).bind fun t152 => (some t152)) = some r := h
 clear h
 obtain ⟨y149,hy149⟩ : ∃ y_ : List Int,y_ = (([9,10,13,13,32,55295,57344,65533,65536,1114111] : List Int)) := ⟨_,rfl⟩
 replace H : ((dossierref01_within.f k a0 y149).bind fun t152 => (some t152)) = some r := by first | (rw [hy149]; with_reducible exact H) | (have H2_ := (Option.bind_some _ _).symm.trans H; rw [hy149]; with_reducible exact H2_) | (have H2_ := (Option.bind_some _ _).symm.trans H; with_reducible exact H2_) | with_reducible exact H | (rw [hy149]; exact H) | exact H
 have Ny149 := Aside0.mk hy149
 clear hy149
 replace H := Option.bind_eq_some_iff.mp H
 obtain ⟨t152,A20,H⟩ := H
 replace H : (some t152) = some r := H
 have A2 := Aside0.mk A20
 clear A20
 obtain rfl := Option.some.inj H
 go_enter Tryz.func48,Tryz.ntmps48
 go_wp2_with (first | ((with_reducible refine gate_dst (N := 4) rfl ?_); refine Kd.R_lit (Kd.int .i64) _ 3 ?hg (N := 4) ?hd (xs := ([9,10,13,13,32,55295,57344,65533,65536,1114111] : List Int)) (inner := [.int .i64 9,.int .i64 10,.int .i64 13,.int .i64 13,.int .i64 32,.int .i64 55295,.int .i64 57344,.int .i64 65533,.int .i64 65536,.int .i64 1114111]) (ok := fun _ => True) (okp := fun _ => True) ?hr ?hp (fun _ hk => hk) trivial (Below.refl _ _) (Nat.le_refl _) (by simp) ?_; (case hd => rfl); (case hg => rfl); (case hr => first | (go_simp; done) | (go_simp; rfl)); (case hp => exact (Reps.one (show Kd.M (Kd.int .i64) _ _ _ 9 [.int .i64 9] from rfl) (Reps.one (show Kd.M (Kd.int .i64) _ _ _ 10 [.int .i64 10] from rfl) (Reps.one (show Kd.M (Kd.int .i64) _ _ _ 13 [.int .i64 13] from rfl) (Reps.one (show Kd.M (Kd.int .i64) _ _ _ 13 [.int .i64 13] from rfl) (Reps.one (show Kd.M (Kd.int .i64) _ _ _ 32 [.int .i64 32] from rfl) (Reps.one (show Kd.M (Kd.int .i64) _ _ _ 55295 [.int .i64 55295] from rfl) (Reps.one (show Kd.M (Kd.int .i64) _ _ _ 57344 [.int .i64 57344] from rfl) (Reps.one (show Kd.M (Kd.int .i64) _ _ _ 65533 [.int .i64 65533] from rfl) (Reps.one (show Kd.M (Kd.int .i64) _ _ _ 65536 [.int .i64 65536] from rfl) (Reps.one (show Kd.M (Kd.int .i64) _ _ _ 1114111 [.int .i64 1114111] from rfl) (Reps.none _ _)))))))))))); intro v150 w3 ho4 hb hg_ hnew_; clear hg_ hnew_; (first | rw [← Ny149.out] at ho4 | (simp only [Int.reduceToNat] at ho4; rw [← Ny149.out] at ho4)); have n0_ := Aside0.mk (Kd.R_lower ho4 (below_size (by repeat (first | (with_reducible first | exact HB.out | apply below_alloc | apply pw_below_drewN | apply below_drew1 | apply bytes_below1) | exact HB.out)))); have n1_ := Aside0.mk (below_step (by repeat (first | (with_reducible first | exact HB.out | apply below_alloc | apply pw_below_drewN | apply below_drew1 | apply bytes_below1) | exact HB.out)) hb); clear HB; have HO151 := n0_; have HB := n1_; clear n0_ n1_; clear hb ho4; obtain ⟨Ao5,co5,eo5⟩ := Kd.R_slice HO151.out; subst eo5) | ((with_reducible refine gate_callee (f := 75) rfl ?_); refine goesL_ (some 5) rfl rfl Tryz.func75 (by kernel_rfl) rfl #[.int .i64 a0,.slice Ao5 y149.length co5] rfl (by (try simp only [List.map_toArray,List.map_cons,List.map_nil]); first | done | rfl | (simp only [List.length_drop,List.length_take]; rfl)) ?_; (with_reducible refine (dossierref01_within.calls k a0 _ _ y149 t152 _ ?side1 ?side2 A2.out).mono ?_); (case side1 => repeat (first | exact (Kd.R_reads' HO151.out).2.2 | (with_reducible refine Kd.C_alloc ?_ _) | (with_reducible refine C_bytes ?_ _ _) | (with_reducible refine Kd.C_drewN ?_ _) | (with_reducible refine Kd.C_drew ?_))); (case side2 => exact (Kd.R_reads' HO151.out).2.1); rintro e w' ⟨rfl,⟨nd,rfl⟩⟩; refine ⟨_,rfl,?_⟩))
 go_ret
 exact ⟨by first | rfl | (simp [errW_none,errW_some] <;> rfl) | (simp [*,errW_none,errW_some] <;> rfl),by repeat (first | (with_reducible first | exact HB.out | apply below_alloc | apply pw_below_drewN | apply below_drew1 | apply bytes_below1) | exact HB.out)⟩
end
section
/-! ### dossierref01_Wrong: function 27 -/
def dossierref01_Wrong.l0 : Nat → List Int → Int → Option (Int)
 | 0,_,_ => none
 | k + 1,x0,x3 => if x3 < (x0.length : Int) then (if 0 ≤ x3 then (if x3 ≤ (x0.length : Int) then ((dossierref01_Decode.f k (x0.drop (x3 : Int).toNat)).bind fun bt154 => (if bt154.2 = 0 then (some x3) else ((dossierref01_OfXML.f k bt154.1).bind fun t156 => (if t156 = true then (dossierref01_Wrong.l0 k x0 (wrap64 (x3 + bt154.2))) else (some x3))))) else (none)) else (none)) else (some (-1))
def dossierref01_Wrong.f (k : Nat) (l0 : List Int) : Option (Int) := dossierref01_Wrong.l0 k l0 0
end
end Go.Proofs.YtifgpigicgaadaaGreatDoor.Q
end
section
/- Characters: the program's decoder, the reference's and one plain function are the same at every list of bytes; so are the searches for a byte that is no character. -/
set_option linter.unusedSimpArgs false
set_option linter.unusedVariables false
namespace Go.Proofs.YtifgpigicgaadaaGreatDoor.Chars
open Go.RowKit Go.Proofs.YtifgpigicgaadaaGreatDoor.Q Go.Proofs.YtifgpigicgaadaaGreatDoorW.PrintWords Go.Proofs.YtifgpigicgaadaaGreatDoorW.PrintLast Go.Proofs.YtifgpigicgaadaaGreatDoorH

/-- Each number of a list is a byte. -/
def Bytes (l : List Int) : Prop := ∀ x ∈ l, 0 ≤ x ∧ x < 256
theorem bytes_of (s : ByteArray) : Bytes (bytesOf s) := by
  intro x hx
  unfold bytesOf at hx
  obtain ⟨b, _, rfl⟩ := List.mem_map.1 hx
  have := b.toNat_lt
  constructor <;> omega
theorem Bytes.drop {l : List Int} (h : Bytes l) (n : Nat) : Bytes (l.drop n) := fun x hx => h x (List.mem_of_mem_drop hx)
theorem Bytes.take {l : List Int} (h : Bytes l) (n : Nat) : Bytes (l.take n) := fun x hx => h x (List.mem_of_mem_take hx)
theorem Bytes.getD {l : List Int} (h : Bytes l) (n : Nat) : 0 ≤ l.getD n 0 ∧ l.getD n 0 < 256 := by
  by_cases hn : n < l.length
  · rw [List.getD_eq_getElem?_getD, List.getElem?_eq_getElem hn]; exact h _ (List.getElem_mem hn)
  · rw [List.getD_eq_getElem?_getD, List.getElem?_eq_none (by omega)]; simp

/-- The first character and how many bytes it has; (0, 0): there is none. -/
def decN (n : Nat) (b0 b1 b2 b3 : Int) : Int × Int :=
  if b0 < 128 then (b0, 1)
  else if 192 ≤ b0 ∧ b0 < 224 ∧ 2 ≤ n ∧ 128 ≤ b1 ∧ b1 < 192 then
    (if (b0 - 192) * 64 + (b1 - 128) ≥ 128 then ((b0 - 192) * 64 + (b1 - 128), 2) else (0, 0))
  else if 224 ≤ b0 ∧ b0 < 240 ∧ 3 ≤ n ∧ (128 ≤ b1 ∧ b1 < 192) ∧ 128 ≤ b2 ∧ b2 < 192 then
    (if 2048 ≤ (b0 - 224) * 4096 + (b1 - 128) * 64 + (b2 - 128) ∧ ((b0 - 224) * 4096 + (b1 - 128) * 64 + (b2 - 128) < 55296 ∨ 57344 ≤ (b0 - 224) * 4096 + (b1 - 128) * 64 + (b2 - 128))
     then ((b0 - 224) * 4096 + (b1 - 128) * 64 + (b2 - 128), 3) else (0, 0))
  else if 240 ≤ b0 ∧ b0 < 248 ∧ 4 ≤ n ∧ (128 ≤ b1 ∧ b1 < 192) ∧ (128 ≤ b2 ∧ b2 < 192) ∧ 128 ≤ b3 ∧ b3 < 192 then
    (if 65536 ≤ (b0 - 240) * 262144 + (b1 - 128) * 4096 + (b2 - 128) * 64 + (b3 - 128) ∧ (b0 - 240) * 262144 + (b1 - 128) * 4096 + (b2 - 128) * 64 + (b3 - 128) ≤ 1114111
     then ((b0 - 240) * 262144 + (b1 - 128) * 4096 + (b2 - 128) * 64 + (b3 - 128), 4) else (0, 0))
  else (0, 0)
def dec (l : List Int) : Int × Int := if l = [] then (0, 0) else decN l.length (l.getD 0 0) (l.getD 1 0) (l.getD 2 0) (l.getD 3 0)

theorem decN_two (n : Nat) (b0 b1 b2 b3 : Int) (h0 : 0 ≤ b0) : (decN n b0 b1 b2 b3).2 ≤ 4 ∧ 0 ≤ (decN n b0 b1 b2 b3).2 ∧ 0 ≤ (decN n b0 b1 b2 b3).1 ∧ (decN n b0 b1 b2 b3).1 ≤ 1114111 ∧ (1 ≤ n → (decN n b0 b1 b2 b3).2 ≤ n) ∧ ((decN n b0 b1 b2 b3).2 = 0 → (decN n b0 b1 b2 b3).1 = 0) := by
  unfold decN
  repeat' split
  all_goals (simp only; refine ⟨by omega, by omega, by omega, by omega, fun _ => by omega, fun h_ => by omega⟩)

theorem dec_two {l : List Int} (hl : Bytes l) : (dec l).2 ≤ 4 ∧ 0 ≤ (dec l).2 ∧ 0 ≤ (dec l).1 ∧ (dec l).1 ≤ 1114111 ∧ (dec l).2 ≤ l.length ∧ ((dec l).2 = 0 → (dec l).1 = 0) := by
  unfold dec
  by_cases h : l = []
  · rw [if_pos h]; simp
  · rw [if_neg h]
    have hlen : 1 ≤ l.length := List.length_pos_iff.2 h
    have := decN_two l.length (l.getD 0 0) (l.getD 1 0) (l.getD 2 0) (l.getD 3 0) (hl.getD 0).1
    exact ⟨this.1, this.2.1, this.2.2.1, this.2.2.2.1, this.2.2.2.2.1 hlen, this.2.2.2.2.2⟩

theorem get!_at (l : List Int) (hl : Bytes l) (i : Nat) : (((strOfNums l).get! i).toNat : Int) = l.getD i 0 := by
  by_cases h : i < l.length
  · rw [strOfNums_get! l i h, List.getD_eq_getElem?_getD, List.getElem?_eq_getElem h]
    have := hl _ (List.getElem_mem h)
    simp only [Option.getD_some]
    generalize l[i] = x at *
    obtain ⟨y, rfl⟩ := Int.eq_ofNat_of_zero_le this.1
    simp; omega
  · rw [List.getD_eq_getElem?_getD, List.getElem?_eq_none (by omega)]
    have : ¬ i < (strOfNums l).data.size := by simp [strOfNums]; omega
    have e : (strOfNums l).data[i]! = 0 := by
      rw [Array.getElem!_eq_getD, Array.getD_eq_getD_getElem?, Array.getElem?_eq_none (by omega)]; rfl
    show (((strOfNums l).data[i]!).toNat : Int) = _
    rw [e]; rfl

set_option maxHeartbeats 4000000 in
/-- The model's decoder, with what it calls no character told as (0, 0). -/
theorem decN_go (n : Nat) (b0 b1 b2 b3 : Nat) (h0 : b0 < 256) (h1 : b1 < 256) (h2 : b2 < 256) (h3 : b3 < 256) :
    (if (Lib.decodeN n b0 b1 b2 b3).1 = 65533 ∧ (Lib.decodeN n b0 b1 b2 b3).2 ≤ 1 then ((0 : Int), (0 : Int)) else (((Lib.decodeN n b0 b1 b2 b3).1 : Int), ((Lib.decodeN n b0 b1 b2 b3).2 : Int))) = decN n b0 b1 b2 b3 := by
  unfold Lib.decodeN decN
  repeat' split
  all_goals first
    | (exfalso; omega)
    | (simp only at *; first | (exfalso; omega) | (apply Prod.ext <;> simp only <;> omega))
    | (apply Prod.ext <;> simp only <;> omega)

theorem chars_Decode_spec (l : List Int) (hl : Bytes l) : chars_Decode.f l = some (dec l) := by
  have hall : (l.all fun x => decide (0 ≤ x) && decide (x < 256)) = true := by
    rw [List.all_eq_true]; intro x hx; have := hl x hx; simp [this.1, this.2]
  unfold chars_Decode.f utf8_DecodeRune.f
  rw [if_pos hall, Option.bind_some]
  by_cases h : l = []
  · subst h; rfl
  · have hlen : 1 ≤ l.length := List.length_pos_iff.2 h
    have hsz : (strOfNums l).size = l.length := strOfNums_size l
    have hd : Lib.decodeGo (strOfNums l) = Lib.decodeN l.length (l.getD 0 0).toNat (l.getD 1 0).toNat (l.getD 2 0).toNat (l.getD 3 0).toNat := by
      unfold Lib.decodeGo
      rw [if_neg (by omega), Lib.decode_at, hsz]
      have g := get!_at l hl
      have e : ∀ i, ((strOfNums l).get! i).toNat = (l.getD i 0).toNat := fun i => by have := g i; omega
      simp only [Nat.zero_add, Nat.sub_zero, e]
    have hdec : dec l = decN l.length (l.getD 0 0) (l.getD 1 0) (l.getD 2 0) (l.getD 3 0) := by unfold dec; rw [if_neg h]
    have hb := hl.getD
    have key := decN_go l.length (l.getD 0 0).toNat (l.getD 1 0).toNat (l.getD 2 0).toNat (l.getD 3 0).toNat (by have := hb 0; omega) (by have := hb 1; omega) (by have := hb 2; omega) (by have := hb 3; omega)
    rw [Int.toNat_of_nonneg (hb 0).1, Int.toNat_of_nonneg (hb 1).1, Int.toNat_of_nonneg (hb 2).1, Int.toNat_of_nonneg (hb 3).1, ← hdec, ← hd] at key
    rw [← key]
    have hr : (Lib.decodeGo (strOfNums l)).1 ≤ 1114111 := by
      rw [hd]; unfold Lib.decodeN
      have := hb 0; have := hb 1
      repeat' split
      all_goals (simp only; omega)
    by_cases h1 : (Lib.decodeGo (strOfNums l)).1 = 65533
    · by_cases h2 : (Lib.decodeGo (strOfNums l)).2 ≤ 1
      · rw [if_pos (by omega), if_pos (by omega), if_pos ⟨h1, h2⟩]
      · rw [if_pos (by omega), if_neg (by omega), if_neg (fun x => h2 x.2)]; congr 2; unfold wrap64; omega
    · rw [if_neg (by omega), if_neg (fun x => h1 x.1)]; congr 2; unfold wrap64; omega

/-! ## The reference's -/
theorem tmod64 (x : Int) (h : 0 ≤ x) : Int.tmod x 64 = x % 64 := Int.tmod_eq_emod_of_nonneg h

/-- A character's bytes. -/
def enc (r : Int) : List Int :=
  if r < 0 ∨ r > 1114111 ∨ (55296 ≤ r ∧ r ≤ 57343) then []
  else if r < 128 then [r]
  else if r < 2048 then [192 + r / 64, 128 + r % 64]
  else if r < 65536 then [224 + r / 4096, 128 + r / 64 % 64, 128 + r % 64]
  else [240 + r / 262144, 128 + r / 4096 % 64, 128 + r / 64 % 64, 128 + r % 64]

theorem enc_spec (k : Nat) (r : Int) : dossierref01_Encode.f (k + 1) r = some (enc r) := by
  unfold dossierref01_Encode.f enc
  simp only [dossierref01_Encode.j0]
  have w : ∀ x : Int, 0 ≤ x → x < 4000000 → wrap64 x = x := fun x h0 h1 => by unfold wrap64; omega
  by_cases h1 : r < 0
  · simp [h1]
  · by_cases h2 : r > 1114111
    · simp [h1, h2]
    · by_cases h3 : r ≥ 55296 ∧ r ≤ 57343
      · simp [h1, h2, h3.1, h3.2]
      · have hc : ¬ (r < 0 ∨ r > 1114111 ∨ (55296 ≤ r ∧ r ≤ 57343)) := by omega
        rw [if_neg h1, if_neg h2, if_neg hc]
        have e : (if r ≥ 55296 then (if (decide (r ≤ 57343)) = true then some ([] : List Int) else if r < 128 then some [r % 256] else if r < 2048 then some [wrap64 (192 + r / 64) % 256, wrap64 (128 + Int.tmod r 64) % 256] else if r < 65536 then some [wrap64 (224 + r / 4096) % 256, wrap64 (128 + Int.tmod (r / 64) 64) % 256, wrap64 (128 + Int.tmod r 64) % 256] else some [wrap64 (240 + r / 262144) % 256, wrap64 (128 + Int.tmod (r / 4096) 64) % 256, wrap64 (128 + Int.tmod (r / 64) 64) % 256, wrap64 (128 + Int.tmod r 64) % 256])
            else if false = true then some ([] : List Int) else if r < 128 then some [r % 256] else if r < 2048 then some [wrap64 (192 + r / 64) % 256, wrap64 (128 + Int.tmod r 64) % 256] else if r < 65536 then some [wrap64 (224 + r / 4096) % 256, wrap64 (128 + Int.tmod (r / 64) 64) % 256, wrap64 (128 + Int.tmod r 64) % 256] else some [wrap64 (240 + r / 262144) % 256, wrap64 (128 + Int.tmod (r / 4096) 64) % 256, wrap64 (128 + Int.tmod (r / 64) 64) % 256, wrap64 (128 + Int.tmod r 64) % 256])
            = (if r < 128 then some [r % 256] else if r < 2048 then some [wrap64 (192 + r / 64) % 256, wrap64 (128 + Int.tmod r 64) % 256] else if r < 65536 then some [wrap64 (224 + r / 4096) % 256, wrap64 (128 + Int.tmod (r / 64) 64) % 256, wrap64 (128 + Int.tmod r 64) % 256] else some [wrap64 (240 + r / 262144) % 256, wrap64 (128 + Int.tmod (r / 4096) 64) % 256, wrap64 (128 + Int.tmod (r / 64) 64) % 256, wrap64 (128 + Int.tmod r 64) % 256]) := by
          by_cases h4 : r ≥ 55296
          · rw [if_pos h4, if_neg (by simp; omega)]
          · rw [if_neg h4]; simp
        rw [e, tmod64 r (by omega), tmod64 (r / 64) (by omega), tmod64 (r / 4096) (by omega)]
        by_cases a1 : r < 128
        · simp only [a1, if_true]; congr 2; omega
        · simp only [a1, if_false]
          by_cases a2 : r < 2048
          · simp only [a2, if_true]; rw [w _ (by omega) (by omega), w _ (by omega) (by omega)]; congr 2; omega; congr 1; omega
          · simp only [a2, if_false]
            by_cases a3 : r < 65536
            · simp only [a3, if_true]; rw [w _ (by omega) (by omega), w _ (by omega) (by omega), w _ (by omega) (by omega)]; congr 2; omega; congr 1; omega; congr 1; omega
            · simp only [a3, if_false]; rw [w _ (by omega) (by omega), w _ (by omega) (by omega), w _ (by omega) (by omega), w _ (by omega) (by omega)]; congr 2; omega; congr 1; omega; congr 1; omega; congr 1; omega

/-- Bytes as a string are the same just where they are the same. -/
theorem str_inj {l m : List Int} (hl : Bytes l) (hm : Bytes m) : (strOfNums l).toList = (strOfNums m).toList ↔ l = m := by
  constructor
  · intro h
    rw [Lib.toList_data, Lib.toList_data, strOfNums_data, strOfNums_data] at h
    have hlen : l.length = m.length := by simpa using congrArg List.length h
    apply List.ext_getElem hlen
    intro i h1 h2
    have e : (l.map fun n => UInt8.ofNat n.toNat)[i]'(by simpa using h1) = (m.map fun n => UInt8.ofNat n.toNat)[i]'(by simpa using h2) := by simp only [h]
    simp only [List.getElem_map] at e
    have b1 := hl _ (List.getElem_mem h1)
    have b2 := hm _ (List.getElem_mem h2)
    have e' := congrArg UInt8.toNat e
    simp at e'
    omega
  · intro h; rw [h]

theorem enc_bytes (r : Int) : Bytes (enc r) := by
  unfold enc
  repeat' split
  all_goals (intro x hx; simp at hx)
  all_goals first | omega | (rcases hx with h | h <;> omega) | (rcases hx with h | h | h <;> omega) | (rcases hx with h | h | h | h <;> omega)

/-- What the reference does behind the first byte: the rest of the bytes, then the character's own bytes held against them. -/
def tailD (l : List Int) (n : Int) (r : Int) : Option (Int × Int) := if enc r = l.take n.toNat then some (r, n) else some (0, 0)

theorem fin_spec (k : Nat) (l : List Int) (hl : Bytes l) (n r : Int) (h0 : 0 ≤ n) (hn : n ≤ l.length) :
    ((dossierref01_Encode.f (k + 1) r).bind fun t178 => (if 0 ≤ n then (if n ≤ (l.length : Int) then (if (strOfNums t178).toList = (strOfNums (l.take (n : Int).toNat)).toList then (some (r, n)) else (some (0, 0))) else (none)) else (none))) = tailD l n r := by
  rw [enc_spec, Option.bind_some, if_pos h0, if_pos hn]
  unfold tailD
  by_cases h : enc r = l.take n.toNat
  · rw [if_pos h, if_pos ((str_inj (enc_bytes r) (hl.take _)).2 h)]
  · rw [if_neg h, if_neg (fun x => h ((str_inj (enc_bytes r) (hl.take _)).1 x))]

theorem w64 (x : Int) (h0 : -10000000 ≤ x) (h1 : x < 100000000) : wrap64 x = x := by unfold wrap64; omega

theorem loopD (l : List Int) (hl : Bytes l) (n : Int) (h0 : 0 ≤ n) (hn : n ≤ l.length) (xs : List Int) (hx : Bytes xs) (hlen : xs.length ≤ 3) : ∀ (d i k : Nat) (r : Int), i + d = xs.length → 0 ≤ r → ((i = 0 ∧ (r < 64 ∨ (xs = [] ∧ r < 4096))) ∨ (i = 1 ∧ r < 4096) ∨ (i = 2 ∧ r < 262144) ∨ (i = 3 ∧ r < 16777216)) →
    dossierref01_Decode.l0 (k + d + 2) l n r xs (xs.length : Int) (i : Int) = if (∀ x ∈ xs.drop i, 128 ≤ x ∧ x < 192) then tailD l n ((xs.drop i).foldl (fun r x => r * 64 + (x - 128)) r) else some (0, 0) := by
  intro d
  induction d with
  | zero =>
    intro i k r hi hr hb
    rw [show k + 0 + 2 = (k + 1) + 1 from rfl]
    rw [dossierref01_Decode.l0]
    rw [if_neg (by omega), fin_spec k l hl n r h0 hn, List.drop_of_length_le (by omega)]
    simp
  | succ d ih =>
    intro i k r hi hr hb
    have hlt : i < xs.length := by omega
    have hrd : rd xs (i : Int) = xs[i] := by simp [rd, List.getD, hlt]
    have hb' : (i = 0 ∧ r < 64) ∨ (i = 1 ∧ r < 4096) ∨ (i = 2 ∧ r < 262144) ∨ (i = 3 ∧ r < 16777216) := by
      rcases hb with ⟨h, h2 | ⟨h2, _⟩⟩ | h | h
      · exact Or.inl ⟨h, h2⟩
      · subst h2; simp at hlt
      · exact Or.inr (Or.inl h)
      · exact Or.inr (Or.inr h)
    clear hb
    have hbx := hx _ (List.getElem_mem hlt)
    rw [show k + (d + 1) + 2 = (k + d + 2) + 1 from by omega]
    rw [dossierref01_Decode.l0]
    rw [if_pos (by omega), if_pos (by omega), if_pos (by omega), hrd, List.drop_eq_getElem_cons hlt]
    by_cases c1 : xs[i] < 128
    · rw [if_pos c1, if_neg (fun h => by have := h xs[i] List.mem_cons_self; omega)]
    · by_cases c2 : xs[i] > 191
      · rw [if_neg c1, if_pos c2, if_neg (fun h => by have := h xs[i] List.mem_cons_self; omega)]
      · rw [if_neg c1, if_neg c2]
        generalize hy : xs[i] = y at *
        have e : wrap64 (wrap64 (wrap64 (r * 64) + wrap64 y) - 128) = r * 64 + (y - 128) := by
          rw [w64 (r * 64) (by omega) (by omega), w64 y (by omega) (by omega), w64 (r * 64 + y) (by omega) (by omega), w64 (r * 64 + y - 128) (by omega) (by omega)]; omega
        have e2 : wrap64 ((i : Int) + 1) = ((i + 1 : Nat) : Int) := by rw [w64 _ (by omega) (by omega)]; omega
        have hb2 : (i + 1 = 1 ∧ r * 64 + (y - 128) < 4096) ∨ (i + 1 = 2 ∧ r * 64 + (y - 128) < 262144) ∨ (i + 1 = 3 ∧ r * 64 + (y - 128) < 16777216) := by
          clear ih e e2 hx hl hrd
          rcases hb' with ⟨h1, h2⟩ | ⟨h1, h2⟩ | ⟨h1, h2⟩ | ⟨h1, h2⟩
          · exact Or.inl ⟨by omega, by omega⟩
          · exact Or.inr (Or.inl ⟨by omega, by omega⟩)
          · exact Or.inr (Or.inr ⟨by omega, by omega⟩)
          · omega
        rw [e, e2, ih (i + 1) k (r * 64 + (y - 128)) (by omega) (by omega) (Or.inr hb2)]
        have hy1 : 128 ≤ y ∧ y < 192 := by omega
        simp only [List.mem_cons, forall_eq_or_imp, hy1, true_and, List.foldl_cons, and_self]

theorem enc_len (r : Int) : (enc r).length = if r < 0 ∨ r > 1114111 ∨ (55296 ≤ r ∧ r ≤ 57343) then 0 else if r < 128 then 1 else if r < 2048 then 2 else if r < 65536 then 3 else 4 := by
  unfold enc; repeat' split
  all_goals rfl
theorem enc4 (r b0 b1 b2 b3 : Int) (h1 : 128 ≤ b1 ∧ b1 < 192) (h2 : 128 ≤ b2 ∧ b2 < 192) (h3 : 128 ≤ b3 ∧ b3 < 192) (hr : r = (b0 - 240) * 262144 + (b1 - 128) * 4096 + (b2 - 128) * 64 + (b3 - 128)) :
    enc r = [b0, b1, b2, b3] ↔ 65536 ≤ r ∧ r ≤ 1114111 := by
  constructor
  · intro h
    have hl := congrArg List.length h
    rw [enc_len] at hl
    simp only [List.length_cons, List.length_nil] at hl
    split at hl
    · omega
    · split at hl
      · omega
      · split at hl
        · omega
        · split at hl
          · omega
          · omega
  · intro h
    unfold enc
    rw [if_neg (by omega), if_neg (by omega), if_neg (by omega), if_neg (by omega)]
    have e0 : 240 + r / 262144 = b0 := by omega
    have e1 : 128 + r / 4096 % 64 = b1 := by omega
    have e2 : 128 + r / 64 % 64 = b2 := by omega
    have e3 : 128 + r % 64 = b3 := by omega
    rw [e0, e1, e2, e3]
theorem enc3 (r b0 b1 b2 : Int) (h1 : 128 ≤ b1 ∧ b1 < 192) (h2 : 128 ≤ b2 ∧ b2 < 192) (h0 : 224 ≤ b0 ∧ b0 < 240) (hr : r = (b0 - 224) * 4096 + (b1 - 128) * 64 + (b2 - 128)) :
    enc r = [b0, b1, b2] ↔ 2048 ≤ r ∧ (r < 55296 ∨ 57344 ≤ r) := by
  constructor
  · intro h
    have hl := congrArg List.length h
    rw [enc_len] at hl
    simp only [List.length_cons, List.length_nil] at hl
    split at hl
    · omega
    · split at hl
      · omega
      · split at hl
        · omega
        · omega
  · intro h
    unfold enc
    rw [if_neg (by omega), if_neg (by omega), if_neg (by omega), if_pos (by omega)]
    have e0 : 224 + r / 4096 = b0 := by omega
    have e1 : 128 + r / 64 % 64 = b1 := by omega
    have e2 : 128 + r % 64 = b2 := by omega
    rw [e0, e1, e2]
theorem enc2 (r b0 b1 : Int) (h1 : 128 ≤ b1 ∧ b1 < 192) (h0 : 192 ≤ b0 ∧ b0 < 224) (hr : r = (b0 - 192) * 64 + (b1 - 128)) : enc r = [b0, b1] ↔ 128 ≤ r := by
  constructor
  · intro h
    have hl := congrArg List.length h
    rw [enc_len] at hl
    simp only [List.length_cons, List.length_nil] at hl
    split at hl
    · omega
    · split at hl
      · omega
      · omega
  · intro h
    unfold enc
    rw [if_neg (by omega), if_neg (by omega), if_pos (by omega)]
    have e0 : 192 + r / 64 = b0 := by omega
    have e1 : 128 + r % 64 = b1 := by omega
    rw [e0, e1]
theorem enc1 (b0 : Int) (h0 : 0 ≤ b0 ∧ b0 < 192) : enc b0 = [b0] ↔ b0 < 128 := by
  constructor
  · intro h
    have hl := congrArg List.length h
    rw [enc_len] at hl
    simp only [List.length_cons, List.length_nil] at hl
    repeat' split at hl
    all_goals omega
  · intro h
    unfold enc
    rw [if_neg (by omega), if_pos h]

theorem decN4 (n : Nat) (b0 b1 b2 b3 : Int) (h : 240 ≤ b0) (hn : b0 < 256) : decN n b0 b1 b2 b3 = if 4 ≤ n ∧ ((128 ≤ b1 ∧ b1 < 192) ∧ (128 ≤ b2 ∧ b2 < 192) ∧ 128 ≤ b3 ∧ b3 < 192) ∧ 65536 ≤ (((b0 - 240) * 64 + (b1 - 128)) * 64 + (b2 - 128)) * 64 + (b3 - 128) ∧ (((b0 - 240) * 64 + (b1 - 128)) * 64 + (b2 - 128)) * 64 + (b3 - 128) ≤ 1114111
    then ((((b0 - 240) * 64 + (b1 - 128)) * 64 + (b2 - 128)) * 64 + (b3 - 128), 4) else (0, 0) := by
  unfold decN
  rw [if_neg (by omega), if_neg (by omega), if_neg (by omega)]
  repeat' split
  all_goals first | rfl | (exfalso; omega) | (congr 1; omega)
theorem decN3 (n : Nat) (b0 b1 b2 b3 : Int) (h : 224 ≤ b0) (hn : b0 < 240) : decN n b0 b1 b2 b3 = if 3 ≤ n ∧ ((128 ≤ b1 ∧ b1 < 192) ∧ 128 ≤ b2 ∧ b2 < 192) ∧ 2048 ≤ ((b0 - 224) * 64 + (b1 - 128)) * 64 + (b2 - 128) ∧ (((b0 - 224) * 64 + (b1 - 128)) * 64 + (b2 - 128) < 55296 ∨ 57344 ≤ ((b0 - 224) * 64 + (b1 - 128)) * 64 + (b2 - 128))
    then (((b0 - 224) * 64 + (b1 - 128)) * 64 + (b2 - 128), 3) else (0, 0) := by
  unfold decN
  rw [if_neg (by omega), if_neg (by omega)]
  repeat' split
  all_goals first | rfl | (exfalso; omega) | (congr 1; omega)
theorem decN2 (n : Nat) (b0 b1 b2 b3 : Int) (h : 192 ≤ b0) (hn : b0 < 224) : decN n b0 b1 b2 b3 = if 2 ≤ n ∧ (128 ≤ b1 ∧ b1 < 192) ∧ 128 ≤ (b0 - 192) * 64 + (b1 - 128) then ((b0 - 192) * 64 + (b1 - 128), 2) else (0, 0) := by
  unfold decN
  rw [if_neg (by omega)]
  repeat' split
  all_goals first | rfl | (exfalso; omega)
theorem decN1 (n : Nat) (b0 b1 b2 b3 : Int) (hn : b0 < 192) : decN n b0 b1 b2 b3 = if b0 < 128 then (b0, 1) else (0, 0) := by
  unfold decN
  by_cases h : b0 < 128
  · rw [if_pos h, if_pos h]
  · have a1 : ¬ (192 ≤ b0) := by omega
    have a2 : ¬ (224 ≤ b0) := by omega
    have a3 : ¬ (240 ≤ b0) := by omega
    rw [if_neg h, if_neg (fun x => a1 x.1), if_neg (fun x => a2 x.1), if_neg (fun x => a3 x.1), if_neg h]

theorem four (k : Nat) (b0 : Int) (t : List Int) (hl : Bytes (b0 :: t)) (c4 : 240 ≤ b0) : dossierref01_Decode.j0 (k + 10) (b0 :: t) 4 (b0 - 240) = some (decN (b0 :: t).length b0 (t.getD 0 0) (t.getD 1 0) (t.getD 2 0)) := by
  have hb0 := hl b0 (by simp)
  rw [show k + 10 = (k + 9) + 1 from rfl, dossierref01_Decode.j0, decN4 _ _ _ _ _ c4 hb0.2]
  match t, hl with
  | [], _ => rw [if_pos (by simp), if_neg (by simp)]
  | [_], _ => rw [if_pos (by simp), if_neg (by simp)]
  | [_, _], _ => rw [if_pos (by simp), if_neg (by simp)]
  | b1 :: b2 :: b3 :: u, hl =>
    have hx : Bytes [b1, b2, b3] := fun x hx => hl x (List.mem_cons_of_mem _ (show x ∈ [b1, b2, b3] ++ u from List.mem_append_left u hx))
    have hL := loopD (b0 :: b1 :: b2 :: b3 :: u) hl 4 (by decide) (by simp; omega) [b1, b2, b3] hx (by simp) 3 0 (k + 4) (b0 - 240) rfl (by omega) (Or.inl ⟨rfl, Or.inl (by omega)⟩)
    rw [if_neg (by simp; omega), if_pos (by decide), if_pos (by simp; omega)]
    rw [show dossierref01_Decode.l0 (k + 9) (b0 :: b1 :: b2 :: b3 :: u) 4 (b0 - 240) (((b0 :: b1 :: b2 :: b3 :: u).take (4 : Int).toNat).drop 1) ((((b0 :: b1 :: b2 :: b3 :: u).take (4 : Int).toNat).drop 1).length : Int) 0 = _ from hL]
    simp only [List.drop_zero, List.mem_cons, List.not_mem_nil, or_false, forall_eq_or_imp, forall_eq, List.foldl_cons, List.foldl_nil]
    unfold tailD
    rw [show (b0 :: b1 :: b2 :: b3 :: u).take (4 : Int).toNat = [b0, b1, b2, b3] from rfl]
    simp only [List.getD_cons_zero, List.getD_cons_succ]
    have hlen : 4 ≤ (b0 :: b1 :: b2 :: b3 :: u).length := by simp
    generalize (b0 :: b1 :: b2 :: b3 :: u).length = N at hlen ⊢
    by_cases hc : (128 ≤ b1 ∧ b1 < 192) ∧ (128 ≤ b2 ∧ b2 < 192) ∧ 128 ≤ b3 ∧ b3 < 192
    · have e := enc4 ((((b0 - 240) * 64 + (b1 - 128)) * 64 + (b2 - 128)) * 64 + (b3 - 128)) b0 b1 b2 b3 hc.1 hc.2.1 hc.2.2 (by omega)
      rw [if_pos hc]
      by_cases hr : 65536 ≤ (((b0 - 240) * 64 + (b1 - 128)) * 64 + (b2 - 128)) * 64 + (b3 - 128) ∧ (((b0 - 240) * 64 + (b1 - 128)) * 64 + (b2 - 128)) * 64 + (b3 - 128) ≤ 1114111
      · rw [if_pos (e.2 hr), if_pos ⟨hlen, hc, hr⟩]
      · rw [if_neg (fun x => hr (e.1 x)), if_neg (fun x => hr x.2.2)]
    · rw [if_neg hc, if_neg (fun x => hc x.2.1)]

theorem three (k : Nat) (b0 : Int) (t : List Int) (hl : Bytes (b0 :: t)) (c4 : 224 ≤ b0) (c5 : b0 < 240) : dossierref01_Decode.j0 (k + 10) (b0 :: t) 3 (b0 - 224) = some (decN (b0 :: t).length b0 (t.getD 0 0) (t.getD 1 0) (t.getD 2 0)) := by
  rw [show k + 10 = (k + 9) + 1 from rfl, dossierref01_Decode.j0, decN3 _ _ _ _ _ c4 c5]
  match t, hl with
  | [], _ => rw [if_pos (by simp), if_neg (by simp)]
  | [_], _ => rw [if_pos (by simp), if_neg (by simp)]
  | b1 :: b2 :: u, hl =>
    have hx : Bytes [b1, b2] := fun x hx => hl x (List.mem_cons_of_mem _ (show x ∈ [b1, b2] ++ u from List.mem_append_left u hx))
    have hL := loopD (b0 :: b1 :: b2 :: u) hl 3 (by decide) (by simp; omega) [b1, b2] hx (by simp) 2 0 (k + 5) (b0 - 224) rfl (by omega) (Or.inl ⟨rfl, Or.inl (by omega)⟩)
    rw [if_neg (by simp; omega), if_pos (by decide), if_pos (by simp; omega)]
    rw [show dossierref01_Decode.l0 (k + 9) (b0 :: b1 :: b2 :: u) 3 (b0 - 224) (((b0 :: b1 :: b2 :: u).take (3 : Int).toNat).drop 1) ((((b0 :: b1 :: b2 :: u).take (3 : Int).toNat).drop 1).length : Int) 0 = _ from hL]
    simp only [List.drop_zero, List.mem_cons, List.not_mem_nil, or_false, forall_eq_or_imp, forall_eq, List.foldl_cons, List.foldl_nil]
    unfold tailD
    rw [show (b0 :: b1 :: b2 :: u).take (3 : Int).toNat = [b0, b1, b2] from rfl]
    simp only [List.getD_cons_zero, List.getD_cons_succ]
    have hlen : 3 ≤ (b0 :: b1 :: b2 :: u).length := by simp
    generalize (b0 :: b1 :: b2 :: u).length = N at hlen ⊢
    by_cases hc : (128 ≤ b1 ∧ b1 < 192) ∧ 128 ≤ b2 ∧ b2 < 192
    · have e := enc3 (((b0 - 224) * 64 + (b1 - 128)) * 64 + (b2 - 128)) b0 b1 b2 hc.1 hc.2 ⟨c4, c5⟩ (by omega)
      rw [if_pos hc]
      by_cases hr : 2048 ≤ ((b0 - 224) * 64 + (b1 - 128)) * 64 + (b2 - 128) ∧ (((b0 - 224) * 64 + (b1 - 128)) * 64 + (b2 - 128) < 55296 ∨ 57344 ≤ ((b0 - 224) * 64 + (b1 - 128)) * 64 + (b2 - 128))
      · rw [if_pos (e.2 hr), if_pos ⟨hlen, hc, hr⟩]
      · rw [if_neg (fun x => hr (e.1 x)), if_neg (fun x => hr x.2.2)]
    · rw [if_neg hc, if_neg (fun x => hc x.2.1)]

theorem two (k : Nat) (b0 : Int) (t : List Int) (hl : Bytes (b0 :: t)) (c4 : 192 ≤ b0) (c5 : b0 < 224) : dossierref01_Decode.j0 (k + 10) (b0 :: t) 2 (b0 - 192) = some (decN (b0 :: t).length b0 (t.getD 0 0) (t.getD 1 0) (t.getD 2 0)) := by
  rw [show k + 10 = (k + 9) + 1 from rfl, dossierref01_Decode.j0, decN2 _ _ _ _ _ c4 c5]
  match t, hl with
  | [], _ => rw [if_pos (by simp), if_neg (by simp)]
  | b1 :: u, hl =>
    have hx : Bytes [b1] := fun x hx => hl x (List.mem_cons_of_mem _ (show x ∈ [b1] ++ u from List.mem_append_left u hx))
    have hL := loopD (b0 :: b1 :: u) hl 2 (by decide) (by simp; omega) [b1] hx (by simp) 1 0 (k + 6) (b0 - 192) rfl (by omega) (Or.inl ⟨rfl, Or.inl (by omega)⟩)
    rw [if_neg (by simp; omega), if_pos (by decide), if_pos (by simp; omega)]
    rw [show dossierref01_Decode.l0 (k + 9) (b0 :: b1 :: u) 2 (b0 - 192) (((b0 :: b1 :: u).take (2 : Int).toNat).drop 1) ((((b0 :: b1 :: u).take (2 : Int).toNat).drop 1).length : Int) 0 = _ from hL]
    simp only [List.drop_zero, List.mem_cons, List.not_mem_nil, or_false, forall_eq, List.foldl_cons, List.foldl_nil]
    unfold tailD
    rw [show (b0 :: b1 :: u).take (2 : Int).toNat = [b0, b1] from rfl]
    simp only [List.getD_cons_zero]
    have hlen : 2 ≤ (b0 :: b1 :: u).length := by simp
    generalize (b0 :: b1 :: u).length = N at hlen ⊢
    by_cases hc : 128 ≤ b1 ∧ b1 < 192
    · have e := enc2 ((b0 - 192) * 64 + (b1 - 128)) b0 b1 hc ⟨c4, c5⟩ rfl
      rw [if_pos hc]
      by_cases hr : 128 ≤ (b0 - 192) * 64 + (b1 - 128)
      · rw [if_pos (e.2 hr), if_pos ⟨hlen, hc, hr⟩]
      · rw [if_neg (fun x => hr (e.1 x)), if_neg (fun x => hr x.2.2)]
    · rw [if_neg hc, if_neg (fun x => hc x.2.1)]

theorem one (k : Nat) (b0 : Int) (t : List Int) (hl : Bytes (b0 :: t)) (c5 : b0 < 192) : dossierref01_Decode.j0 (k + 10) (b0 :: t) 1 b0 = some (decN (b0 :: t).length b0 (t.getD 0 0) (t.getD 1 0) (t.getD 2 0)) := by
  have hb0 := hl b0 (by simp)
  rw [show k + 10 = (k + 9) + 1 from rfl, dossierref01_Decode.j0, decN1 _ _ _ _ _ c5]
  have hL := loopD (b0 :: t) hl 1 (by decide) (by simp; omega) [] (fun x hx => by cases hx) (by simp) 0 0 (k + 7) b0 rfl (by omega) (Or.inl ⟨rfl, Or.inr ⟨rfl, by omega⟩⟩)
  rw [if_neg (by simp; omega), if_pos (by decide), if_pos (by simp; omega)]
  rw [show dossierref01_Decode.l0 (k + 9) (b0 :: t) 1 b0 (((b0 :: t).take (1 : Int).toNat).drop 1) ((((b0 :: t).take (1 : Int).toNat).drop 1).length : Int) 0 = _ from hL]
  simp only [List.drop_nil, List.not_mem_nil, false_implies, implies_true, if_true, List.foldl_nil]
  unfold tailD
  rw [show (b0 :: t).take (1 : Int).toNat = [b0] from rfl]
  have e := enc1 b0 ⟨hb0.1, c5⟩
  by_cases hr : b0 < 128
  · rw [if_pos (e.2 hr), if_pos hr]
  · rw [if_neg (fun x => hr (e.1 x)), if_neg hr]

theorem ref_Decode_spec (k : Nat) (l : List Int) (hl : Bytes l) : dossierref01_Decode.f (k + 10) l = some (dec l) := by
  cases l with
  | nil => simp [dossierref01_Decode.f, dec]
  | cons b0 t =>
    have hb0 := hl b0 (by simp)
    have hrd : rd (b0 :: t) 0 = b0 := rfl
    unfold dossierref01_Decode.f
    rw [if_neg (by simp; omega), if_pos (by simp), hrd]
    have hdec : dec (b0 :: t) = decN (b0 :: t).length b0 (t.getD 0 0) (t.getD 1 0) (t.getD 2 0) := by unfold dec; rw [if_neg (by simp)]; rfl
    rw [hdec, w64 b0 (by omega) (by omega), w64 (b0 - 240) (by omega) (by omega), w64 (b0 - 224) (by omega) (by omega), w64 (b0 - 192) (by omega) (by omega)]
    by_cases c4 : b0 ≥ 240
    · rw [if_pos c4]; exact four k b0 t hl c4
    · rw [if_neg c4]
      by_cases c3 : b0 ≥ 224
      · rw [if_pos c3]; exact three k b0 t hl c3 (by omega)
      · rw [if_neg c3]
        by_cases c2 : b0 ≥ 192
        · rw [if_pos c2]; exact two k b0 t hl c2 (by omega)
        · rw [if_neg c2]; exact one k b0 t hl (by omega)

/-! ## Characters of XML; where the first byte stands that is none -/
def xmlC (r : Int) : Bool := decide ((32 ≤ r ∧ r ≤ 55295) ∨ (9 ≤ r ∧ r ≤ 10) ∨ r = 13 ∨ (57344 ≤ r ∧ r ≤ 65533) ∨ (65536 ≤ r ∧ r ≤ 1114111))

theorem chars_in_at (r : Int) (xs : List S115) (hlen : xs.length < 1000000) : ∀ d i k : Nat, i + d = xs.length → chars_in.l0 (k + d + 1) r xs (xs.length : Int) (i : Int) = some ((xs.drop i).any fun s => decide (s.f0 ≤ r) && decide (r ≤ s.f1)) := by
  intro d
  induction d with
  | zero =>
    intro i k hi
    rw [chars_in.l0, if_neg (by omega), List.drop_of_length_le (by omega)]; rfl
  | succ d ih =>
    intro i k hi
    have hlt : i < xs.length := by omega
    have e2 : wrap64 ((i : Int) + 1) = ((i + 1 : Nat) : Int) := by rw [w64 _ (by omega) (by omega)]; omega
    have hrd : rd_T115 xs (i : Int) = xs[i] := by simp [rd_T115, List.getD, hlt]
    rw [show k + (d + 1) + 1 = (k + d + 1) + 1 from by omega, chars_in.l0, if_pos (by omega), if_pos (by omega), if_pos (by omega), hrd, List.drop_eq_getElem_cons hlt, e2, ih (i + 1) k (by omega), List.any_cons]
    generalize ((xs.drop (i + 1)).any fun s => decide (s.f0 ≤ r) && decide (r ≤ s.f1)) = v
    by_cases c1 : (xs[i]).f0 ≤ r
    · by_cases c2 : r ≤ (xs[i]).f1
      · simp [c1, c2]
      · simp [c1, c2]
    · simp [c1]
theorem chars_in_spec (r : Int) (xs : List S115) (hlen : xs.length < 1000000) (k : Nat) (hk : xs.length + 1 ≤ k) : chars_in.f k r xs = some (xs.any fun s => decide (s.f0 ≤ r) && decide (r ≤ s.f1)) := by
  have := chars_in_at r xs hlen xs.length 0 (k - xs.length - 1) (by omega)
  rw [show k - xs.length - 1 + xs.length + 1 = k from by omega] at this
  exact this
theorem chars_ofXML_spec (k : Nat) (r : Int) : chars_ofXML.f (k + 10) r = some (xmlC r) := by
  unfold chars_ofXML.f
  rw [chars_in_spec r _ (by simp) _ (by simp), Option.bind_some]
  unfold xmlC
  congr 1
  simp only [List.any_cons, List.any_nil, Bool.or_false]
  rw [Bool.eq_iff_iff]
  simp only [Bool.or_eq_true, Bool.and_eq_true, decide_eq_true_eq]
  omega

/-- Between two of the numbers that stand by twos. -/
def inP (r : Int) : List Int → Bool
  | a :: b :: t => (decide (a ≤ r) && decide (r ≤ b)) || inP r t
  | _ => false
theorem within_at (r : Int) (xs : List Int) (hlen : xs.length < 1000000) : ∀ d i k : Nat, xs.length ≤ i + 2 * d → i ≤ xs.length → dossierref01_within.l0 (k + d + 1) r xs (i : Int) = some (inP r (xs.drop i)) := by
  intro d
  induction d with
  | zero =>
    intro i k hi hi2
    rw [dossierref01_within.l0, w64 ((i : Int) + 1) (by omega) (by omega), if_neg (by omega), List.drop_of_length_le (by omega)]; rfl
  | succ d ih =>
    intro i k hi hi2
    have e1 : wrap64 ((i : Int) + 1) = ((i + 1 : Nat) : Int) := by rw [w64 _ (by omega) (by omega)]; omega
    have e2 : wrap64 ((i : Int) + 2) = ((i + 2 : Nat) : Int) := by rw [w64 _ (by omega) (by omega)]; omega
    rw [show k + (d + 1) + 1 = (k + d + 1) + 1 from by omega, dossierref01_within.l0, e1, e2]
    by_cases hlt : i + 1 < xs.length
    · have h1 : i < xs.length := by omega
      have hrd : rd xs (i : Int) = xs[i] := by simp [rd, List.getD, h1]
      have hrd2 : rd xs ((i + 1 : Nat) : Int) = xs[i + 1] := by simp only [rd, List.getD, Int.toNat_natCast, List.getElem?_eq_getElem hlt, Option.getD_some]
      rw [if_pos (by omega), if_pos (by omega), if_pos (by omega), hrd, hrd2, List.drop_eq_getElem_cons h1, List.drop_eq_getElem_cons hlt, ih (i + 2) k (by omega) (by omega), inP]
      generalize inP r (xs.drop (i + 2)) = v
      by_cases c1 : xs[i] ≤ r
      · by_cases c2 : r ≤ xs[i + 1]
        · rw [if_pos c1, if_pos (by omega), if_pos c2]; simp [c1, c2]
        · rw [if_pos c1, if_pos (by omega), if_neg c2]; simp [c2]
      · rw [if_neg c1]; simp [c1]
    · rw [if_neg (by omega)]
      match hx : xs.drop i with
      | [] => rfl
      | [_] => rfl
      | _ :: _ :: _ => have := congrArg List.length hx; simp at this; omega
theorem within_spec (r : Int) (xs : List Int) (hlen : xs.length < 1000000) (k : Nat) (hk : xs.length + 1 ≤ k) : dossierref01_within.f k r xs = some (inP r xs) := by
  have := within_at r xs hlen xs.length 0 (k - xs.length - 1) (by omega) (by omega)
  rw [show k - xs.length - 1 + xs.length + 1 = k from by omega] at this
  exact this
theorem ref_OfXML_spec (k : Nat) (r : Int) : dossierref01_OfXML.f (k + 20) r = some (xmlC r) := by
  unfold dossierref01_OfXML.f
  rw [within_spec r _ (by simp) _ (by simp), Option.bind_some]
  unfold xmlC
  congr 1
  simp only [inP, Bool.or_false]
  rw [Bool.eq_iff_iff]
  simp only [Bool.or_eq_true, Bool.and_eq_true, decide_eq_true_eq]
  omega

/-- Both searches come to one answer, at enough rounds. -/
theorem wrong_from (l : List Int) (hl : Bytes l) (hlen : l.length ≤ 1000000000000000000) : ∀ (d : Nat) (at_ : Int), 0 ≤ at_ → at_ ≤ l.length → (l.length : Int) - at_ ≤ d →
    ∃ v : Int, (v = -1 ∨ (0 ≤ v ∧ v < l.length)) ∧ ∀ k, d + 30 ≤ k → chars_Wrong.l0 k l at_ = some v ∧ dossierref01_Wrong.l0 k l at_ = some v := by
  intro d
  induction d with
  | zero =>
    intro at_ h0 h1 hd
    refine ⟨-1, Or.inl rfl, fun k hk => ?_⟩
    obtain ⟨k, rfl⟩ : ∃ m, k = m + 1 := ⟨k - 1, by omega⟩
    rw [chars_Wrong.l0, dossierref01_Wrong.l0, if_neg (by omega), if_neg (by omega)]
    exact ⟨rfl, rfl⟩
  | succ d ih =>
    intro at_ h0 h1 hd
    by_cases hlt : at_ < (l.length : Int)
    · have hD := dec_two (hl.drop at_.toNat)
      have hdl : ((l.drop at_.toNat).length : Int) = l.length - at_ := by rw [List.length_drop]; omega
      by_cases hz : (dec (l.drop at_.toNat)).2 = 0
      · refine ⟨at_, Or.inr ⟨h0, hlt⟩, fun k hk => ?_⟩
        obtain ⟨k, rfl⟩ : ∃ m, k = m + 20 + 1 := ⟨k - 21, by omega⟩
        rw [chars_Wrong.l0, dossierref01_Wrong.l0]
        simp only [if_pos hlt, if_pos h0, if_pos h1, chars_Decode_spec _ (hl.drop _), ref_Decode_spec (k + 10) _ (hl.drop _), Option.bind_some, if_pos hz, and_self]
      · by_cases hx : xmlC (dec (l.drop at_.toNat)).1 = true
        · have hw : wrap64 (at_ + (dec (l.drop at_.toNat)).2) = at_ + (dec (l.drop at_.toNat)).2 := by unfold wrap64; omega
          obtain ⟨v, hv, hk⟩ := ih (at_ + (dec (l.drop at_.toNat)).2) (by omega) (by omega) (by omega)
          refine ⟨v, hv, fun k hk' => ?_⟩
          obtain ⟨k, rfl⟩ : ∃ m, k = m + 20 + 1 := ⟨k - 21, by omega⟩
          have hk2 := hk (k + 20) (by omega)
          rw [chars_Wrong.l0, dossierref01_Wrong.l0]
          simp only [if_pos hlt, if_pos h0, if_pos h1, chars_Decode_spec _ (hl.drop _), ref_Decode_spec (k + 10) _ (hl.drop _), Option.bind_some, if_neg hz, chars_ofXML_spec (k + 10), ref_OfXML_spec, if_pos hx, hw]
          exact hk2
        · refine ⟨at_, Or.inr ⟨h0, hlt⟩, fun k hk => ?_⟩
          obtain ⟨k, rfl⟩ : ∃ m, k = m + 20 + 1 := ⟨k - 21, by omega⟩
          rw [chars_Wrong.l0, dossierref01_Wrong.l0]
          simp only [if_pos hlt, if_pos h0, if_pos h1, chars_Decode_spec _ (hl.drop _), ref_Decode_spec (k + 10) _ (hl.drop _), Option.bind_some, if_neg hz, chars_ofXML_spec (k + 10), ref_OfXML_spec, if_neg hx, and_self]
    · refine ⟨-1, Or.inl rfl, fun k hk => ?_⟩
      obtain ⟨k, rfl⟩ : ∃ m, k = m + 1 := ⟨k - 1, by omega⟩
      rw [chars_Wrong.l0, dossierref01_Wrong.l0, if_neg hlt, if_neg hlt]
      exact ⟨rfl, rfl⟩

/-- Where the first byte stands that is no character; -1: nowhere. -/
def wrong (l : List Int) : Int := (chars_Wrong.f (l.length + 30) l).getD (-1)
theorem wrong_spec (l : List Int) (hl : Bytes l) (hlen : l.length ≤ 1000000000000000000) (k : Nat) (hk : l.length + 30 ≤ k) : chars_Wrong.f k l = some (wrong l) ∧ dossierref01_Wrong.f k l = some (wrong l) := by
  obtain ⟨v, _, h⟩ := wrong_from l hl hlen l.length 0 (by omega) (by omega) (by omega)
  have e : wrong l = v := by unfold wrong chars_Wrong.f; rw [(h _ (Nat.le_refl _)).1]; rfl
  unfold chars_Wrong.f dossierref01_Wrong.f
  rw [e]; exact h k hk
theorem wrong_nil : wrong [] = -1 := by
  have := wrong_from [] (fun x hx => by cases hx) (by simp) 0 0 (by omega) (by simp) (by simp)
  unfold wrong chars_Wrong.f
  rw [chars_Wrong.l0, if_neg (by simp)]; rfl
end Go.Proofs.YtifgpigicgaadaaGreatDoor.Chars
end
section
namespace Go.Proofs.YtifgpigicgaadaaGreatDoor.Q
open Go.RowKit Go.Proofs.YtifgpigicgaadaaGreatDoorH Go.Proofs.YtifgpigicgaadaaGreatDoorW.PrintWords Go.Proofs.YtifgpigicgaadaaGreatDoorW.PrintLast Go.Proofs.YtifgpigicgaadaaGreatDoorW.PrintMore
attribute [local go_sem] max2_int min2_int max_two min_two max_three min_three max_four min_four
set_option linter.unusedVariables false
set_option linter.unusedSimpArgs false
section
theorem eqA23 (d : Nat) (w : World) (x0 y0 : Int) (x1 y1 : Int) (x2 y2 : Bool) (x3 y3 : ByteArray) :
 (Op.equalIn (d + 2) 23 (.agg #[.int .i64 x0,.int .i64 x1,.bool x2,.string x3]) (.agg #[.int .i64 y0,.int .i64 y1,.bool y2,.string y3])).run Tryz.prog w = .ok (x0 == y0 && (x1 == y1 && (x2 == y2 && (x3.toList == y3.toList)))) w := by
 refine eqA_of Tryz.underlying23 (by kernel_rfl) ?_
 refine eqf_cons (by rfl) (by go_simp; rfl) (by go_simp; rfl) (by go_simp) ?_
 refine eqf_cons (by rfl) (by go_simp; rfl) (by go_simp; rfl) (by go_simp) ?_
 refine eqf_cons (by rfl) (by go_simp; rfl) (by go_simp; rfl) (by go_simp) ?_
 exact eqf_last (by rfl) (by go_simp; rfl) (by go_simp; rfl) (by go_simp)
end
section
attribute [local go_sem high] eqA23
/-! ### value_Can: function 12 -/
def value_Can.j0 : Nat → Int → Int → Bool → ByteArray → Int → Int → Bool → ByteArray → Option (Bool)
 | 0,_,_,_,_,_,_,_,_ => none
 | k + 1,x120000,x120001,x120002,x120003,x121000,x121001,x121002,x121003 => if (x120000 == x121000 && (x120001 == x121001 && (x120002 == x121002 && (x120003.toList == x121003.toList)))) = true then (if (x120003.size : Int) ≤ 256 then (if x120003.size < 140737488355328 then ((chars_Wrong.f k (bytesOf x120003)).bind fun t121 => (some (decide (t121 < 0)))) else (none)) else (some false)) else (some false)
def value_Can.f (k : Nat) (a0_0 : Int) (a0_1 : Int) (a0_2 : Bool) (a0_3 : ByteArray) : Option (Bool) := if a0_0 = 0 then (value_Can.j0 k a0_0 a0_1 a0_2 a0_3 a0_0 0 false (⟨#[]⟩ : ByteArray)) else (if a0_0 = 1 then (value_Can.j0 k a0_0 a0_1 a0_2 a0_3 a0_0 a0_1 false (⟨#[]⟩ : ByteArray)) else (if a0_0 = 2 then (value_Can.j0 k a0_0 a0_1 a0_2 a0_3 a0_0 0 a0_2 (⟨#[]⟩ : ByteArray)) else (if a0_0 = 3 then (value_Can.j0 k a0_0 a0_1 a0_2 a0_3 a0_0 0 false a0_3) else (some false))))
end
section
/-! ### dossierref07_Int: function 7 -/
def dossierref07_Int.f (a0 : Int) : Option (Int × Int × Bool × ByteArray) := some (1,a0,false,(⟨#[]⟩ : ByteArray))
end
section
/-! ### dossierref07_Bool: function 9 -/
def dossierref07_Bool.f (a0 : Bool) : Option (Int × Int × Bool × ByteArray) := some (2,0,a0,(⟨#[]⟩ : ByteArray))
end
section
/-! ### dossierref07_Text: function 11 -/
def dossierref07_Text.f (a0 : ByteArray) : Option (Int × Int × Bool × ByteArray) := some (3,0,false,a0)
end
end Go.Proofs.YtifgpigicgaadaaGreatDoor.Q
end
