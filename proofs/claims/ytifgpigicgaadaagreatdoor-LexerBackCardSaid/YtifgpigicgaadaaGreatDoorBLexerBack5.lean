/- Several texts in one, in their order. -/
import Derived.Test.YtifgpigicgaadaaGreatDoorBLexerBack2
import Derived.Test.YtifgpigicgaadaaGreatDoorBLexerBack3
section
namespace Go.Proofs.YtifgpigicgaadaaGreatDoor.Q
open Go.RowKit Go.Proofs.YtifgpigicgaadaaGreatDoorH Go.Proofs.YtifgpigicgaadaaGreatDoorW.PrintWords Go.Proofs.YtifgpigicgaadaaGreatDoorW.PrintLast Go.Proofs.YtifgpigicgaadaaGreatDoorW.PrintMore
attribute [local go_sem] max2_int min2_int max_two min_two max_three min_three max_four min_four
set_option linter.unusedVariables false
set_option linter.unusedSimpArgs false
section
/-! ### dossierref08_text: function 66 -/
def dossierref08_text.l0 : Nat → ByteArray → ByteArray → Int → Option (Int × ByteArray × Int × Int × Bool)
 | 0,_,_,_ => none
 | k + 1,x0,x5,x6 => if x6 < (x0.size : Int) then (if 0 ≤ x6 then (if (bt x0 x6) = 34 then (some (3,x5,0,wrap64 (x6 + 1),decide ((x5.size : Int) ≤ 256))) else (if (bt x0 x6) = 92 then (if (wrap64 (x6 + 1)) ≥ (x0.size : Int) then (some (0,(⟨#[]⟩ : ByteArray),0,0,false)) else (if 0 ≤ (wrap64 (x6 + 1)) then (if (wrap64 (x6 + 1)) < (x0.size : Int) then (if (bt x0 (wrap64 (x6 + 1))) = 34 then (if (wrap64 (x6 + 1)) ≤ (wrap64 (x6 + 2)) then (if (wrap64 (x6 + 2)) ≤ (x0.size : Int) then (if x5.size + (x0.extract ((wrap64 (x6 + 1)) : Int).toNat ((wrap64 (x6 + 2)) : Int).toNat).size ≤ 9223372036854775807 then (dossierref08_text.l0 k x0 (x5 ++ (x0.extract ((wrap64 (x6 + 1)) : Int).toNat ((wrap64 (x6 + 2)) : Int).toNat)) (wrap64 (x6 + 2))) else (none)) else (none)) else (none)) else (if (bt x0 (wrap64 (x6 + 1))) = 92 then (if (wrap64 (x6 + 1)) ≤ (wrap64 (x6 + 2)) then (if (wrap64 (x6 + 2)) ≤ (x0.size : Int) then (if x5.size + (x0.extract ((wrap64 (x6 + 1)) : Int).toNat ((wrap64 (x6 + 2)) : Int).toNat).size ≤ 9223372036854775807 then (dossierref08_text.l0 k x0 (x5 ++ (x0.extract ((wrap64 (x6 + 1)) : Int).toNat ((wrap64 (x6 + 2)) : Int).toNat)) (wrap64 (x6 + 2))) else (none)) else (none)) else (none)) else (some (0,(⟨#[]⟩ : ByteArray),0,0,false)))) else (none)) else (none))) else (if x6 ≤ (x0.size : Int) then (if (x0.extract (x6 : Int).toNat x0.size).size < 140737488355328 then ((dossierref01_Decode.f k (bytesOf (x0.extract (x6 : Int).toNat x0.size))).bind fun bt396 => (if bt396.2 = 0 then (some (0,(⟨#[]⟩ : ByteArray),0,0,false)) else ((dossierref01_OfXML.f k bt396.1).bind fun t398 => (if t398 = true then (if x6 ≤ (wrap64 (x6 + bt396.2)) then (if (wrap64 (x6 + bt396.2)) ≤ (x0.size : Int) then (if x5.size + (x0.extract (x6 : Int).toNat ((wrap64 (x6 + bt396.2)) : Int).toNat).size ≤ 9223372036854775807 then (dossierref08_text.l0 k x0 (x5 ++ (x0.extract (x6 : Int).toNat ((wrap64 (x6 + bt396.2)) : Int).toNat)) (wrap64 (x6 + bt396.2))) else (none)) else (none)) else (none)) else (some (0,(⟨#[]⟩ : ByteArray),0,0,false)))))) else (none)) else (none)))) else (none)) else (some (0,(⟨#[]⟩ : ByteArray),0,0,false))
def dossierref08_text.f (k : Nat) (a0 : ByteArray) : Option (Int × ByteArray × Int × Int × Bool) := dossierref08_text.l0 k a0 (⟨#[]⟩ : ByteArray) 1
theorem dossierref08_text.callsD (k b c0 n0 : Nat) (s : ByteArray) (hn0 : s.size = n0) (r1 r2 : Int) (w : World) (hr0 : Kd.C (Kd.int .u8) w (some ⟨b,0,none⟩) n0 (bytesOf s)) (hc0 : n0 ≤ c0) (h : dossierref01_Decode.f k (bytesOf s) = some (r1,r2)) :
 Calls Tryz.prog 47 #[.slice (some ⟨b,0,none⟩) n0 c0] w fun e w' => e = .returned (.tuple #[.int .i64 r1,.int .i64 r2]) ∧ Below w.heap.size w w' := by
 subst hn0
 exact dossierref01_Decode.callsB k b c0 s r1 r2 w hr0 hc0 h
set_option maxHeartbeats 8000000 in
set_option maxRecDepth 100000 in
theorem dossierref08_text.calls (k : Nat) (a0 : ByteArray) (r1 : Int) (r2 : ByteArray) (r3 : Int) (r4 : Int) (r5 : Bool) (w : World) (h : dossierref08_text.f k a0 = some (r1,r2,r3,r4,r5)) :
 Calls Tryz.prog 66 #[.string a0] w fun e w' => e = .returned (.tuple #[.agg #[.int .i64 r1,.string r2,.int .i64 r3],.int .i64 r4,.bool r5]) ∧ Below w.heap.size w w' := by
 have hu43 := Tryz.underlying43
 have HB := Aside0.mk (Below.refl w.heap.size w)
 have H : (dossierref08_text.l0 k a0 (⟨#[]⟩ : ByteArray) 1) = some (r1,r2,r3,r4,r5) := h
 clear h
 have H' := Aside0.mk H
 clear H
 go_enter Tryz.func66,Tryz.ntmps66
 go_wp2_with (first | ((with_reducible refine gate_dst (N := 2) rfl ?_); refine box_event ?hg (N := 2) ?hd (cs := #[.int .i64 0,.string (⟨#[]⟩ : ByteArray),.int .i64 0]) (t := 43) ?hr ?_; (case hd => rfl); (case hg => rfl); (case hr => first | (go_simp; done) | (go_simp; rfl)); intro gb395 hg w2 hbox hb; have n0_ := Aside0.mk (below_step (by repeat (first | (with_reducible first | exact HB.out | apply below_alloc | apply pw_below_drewN | apply below_drew1 | apply bytes_below1) | exact HB.out)) hb); have n1_ := Aside0.mk (hbox); have n2_ := Aside0.mk ((by rw [hg]; exact (below_size (by repeat (first | (with_reducible first | exact HB.out | apply below_alloc | apply pw_below_drewN | apply below_drew1 | apply bytes_below1) | exact HB.out))) : w.heap.size ≤ gb395)); have n3_ := Aside0.mk ((by rw [hg]; exact (below_size (by repeat (first | (with_reducible first | exact HB.out | apply below_alloc | apply pw_below_drewN | apply below_drew1 | apply bytes_below1) | exact HB.out))) : w.heap.size ≤ gb395)); clear HB; have HB := n0_; have BK395 := n1_; have GW395 := n2_; have GE395 := n3_; clear n0_ n1_ n2_ n3_; clear hb hbox hg))
 go_loopg [5,6] k (fun kq v5 v6 w' => ∃ (x5_1 : ByteArray) (x6_1 : Int) (x396000_1 : Int) (x396001_1 : ByteArray) (x396002_1 : Int),v5 = .string x5_1 ∧ v6 = .int .i64 x6_1 ∧ Aside0 (dossierref08_text.l0 kq a0 x5_1 x6_1 = some (r1,r2,r3,r4,r5)) ∧ Aside0 (kq ≤ k) ∧ Aside0 (w'.heap[gb395]? = some (.cells #[.int .i64 x396000_1,.string x396001_1,.int .i64 x396002_1] 43 (0,0))) ∧ Aside0 (Below w.heap.size w w'))
 case atStart => exact ⟨((⟨#[]⟩ : ByteArray)),(1),(0),((⟨#[]⟩ : ByteArray)),(0),(by first | rfl | (simp; done) | (simp [*]; done)),(by first | rfl | (simp; done) | (simp [*]; done)),H',⟨Nat.le_refl _⟩,⟨by (with_reducible repeat (first | refine blk_bytes ?_ _ _ | refine blk_drewN ?_ _ | refine blk_drew ?_ | refine blk_alloc ?_ _)); exact BK395.out⟩,⟨by repeat (first | (with_reducible first | exact HB.out | apply below_alloc | apply pw_below_drewN | apply below_drew1 | apply bytes_below1 | refine below_set ?_ GE395.out) | exact HB.out)⟩⟩
 case round =>
  clear H'
  try clear p2
  obtain ⟨x5_1,x6_1,x396000_1,x396001_1,x396002_1,rfl,rfl,HA,HK1,BK395,HB⟩ := hrel
  cases gk with
  | zero => exact absurd HA.out (by simp [dossierref08_text.l0])
  | succ k1 =>
   have H := HA.out
   clear HA
   simp only [dossierref08_text.l0] at H
   by_cases c3 : x6_1 < (a0.size : Int)
   · rw [if_pos c3] at H
     have c3b0 : decide (x6_1 < (a0.size : Int)) = true := decide_eq_true c3
     clear c3
     by_cases c4 : 0 ≤ x6_1
     · rw [if_pos c4] at H
       have c4b0 : decide (0 ≤ x6_1) = true := decide_eq_true c4
       clear c4
       by_cases c6 : (bt a0 x6_1) = 34
       · rw [if_pos c6] at H
         have c6b0 : ((bt a0 x6_1) == 34) = true := beq_iff_eq.mpr c6
         have c6b1 : ((bt a0 x6_1) != 34) = false := bne_eq_false_iff_eq.mpr c6
         clear c6
         simp only [Option.some.injEq,Prod.mk.injEq] at H
         obtain ⟨rfl,rfl,rfl,rfl,rfl⟩ := H
         have p5 : 0 ≤ (x6_1 : Int) := of_decide_eq_true (by first | (with_reducible assumption) | assumption)
         have q5 : x6_1 < (a0.size : Int) := of_decide_eq_true (by first | (with_reducible assumption) | assumption)
         have hx5 := bt_at a0 x6_1
         replace p5 := eq_true p5
         replace q5 := eq_true q5
         have hcz7_0 : wr.cell? ⟨gb395,0,none⟩ = some (.int .i64 x396000_1) := (blk_cell BK395.out 0).trans rfl
         have hcz7_1 : wr.cell? ⟨gb395,1,none⟩ = some (.string x396001_1) := (blk_cell BK395.out 1).trans rfl
         have hcz7_2 : wr.cell? ⟨gb395,2,none⟩ = some (.int .i64 x396002_1) := (blk_cell BK395.out 2).trans rfl
         have hfz7_0 := blk_frozen BK395.out 0
         have hfz7_1 := blk_frozen BK395.out 1
         have hfz7_2 := blk_frozen BK395.out 2
         go_wp2
         refine bodyPost_ret (results_ctt rfl _ _ gb395 43 #[.int .i64 3,.string x5_1,.int .i64 0] (0,0) _ rfl (by (with_reducible repeat (first | refine blk_bytes ?_ _ _ | refine blk_drewN ?_ _ | refine blk_drew ?_ | refine blk_alloc ?_ _)); refine blk_put (cs := #[.int .i64 3,.string x5_1,.int .i64 x396002_1]) ?_ 2 _ rfl; (with_reducible repeat (first | refine blk_bytes ?_ _ _ | refine blk_drewN ?_ _ | refine blk_drew ?_ | refine blk_alloc ?_ _)); refine blk_put (cs := #[.int .i64 3,.string x396001_1,.int .i64 x396002_1]) ?_ 1 _ rfl; (with_reducible repeat (first | refine blk_bytes ?_ _ _ | refine blk_drewN ?_ _ | refine blk_drew ?_ | refine blk_alloc ?_ _)); refine blk_put (cs := #[.int .i64 x396000_1,.string x396001_1,.int .i64 x396002_1]) ?_ 0 _ rfl; (with_reducible repeat (first | refine blk_bytes ?_ _ _ | refine blk_drewN ?_ _ | refine blk_drew ?_ | refine blk_alloc ?_ _)); exact BK395.out) Tryz.underlying43 rfl (by kernel_rfl)) rfl ?_
         exact ⟨by first | rfl | (simp [errW_none,errW_some] <;> rfl) | (simp [*,errW_none,errW_some] <;> rfl),by repeat (first | (with_reducible first | exact HB.out | apply below_alloc | apply pw_below_drewN | apply below_drew1 | apply bytes_below1 | refine below_set ?_ GE395.out) | exact HB.out)⟩
       · rw [if_neg c6] at H
         have c6b0 : ((bt a0 x6_1) == 34) = false := beq_eq_false_iff_ne.mpr c6
         have c6b1 : ((bt a0 x6_1) != 34) = true := bne_iff_ne.mpr c6
         by_cases c9 : (bt a0 x6_1) = 92
         · rw [if_pos c9] at H
           have c9b0 : ((bt a0 x6_1) == 92) = true := beq_iff_eq.mpr c9
           have c9b1 : ((bt a0 x6_1) != 92) = false := bne_eq_false_iff_eq.mpr c9
           clear c9
           by_cases c10 : (wrap64 (x6_1 + 1)) ≥ (a0.size : Int)
           · rw [if_pos c10] at H
             have c10b0 : decide ((a0.size : Int) ≤ (wrap64 (x6_1 + 1))) = true := decide_eq_true c10
             clear c10
             simp only [Option.some.injEq,Prod.mk.injEq] at H
             obtain ⟨rfl,rfl,rfl,rfl,rfl⟩ := H
             have p5 : 0 ≤ (x6_1 : Int) := of_decide_eq_true (by first | (with_reducible assumption) | assumption)
             have q5 : x6_1 < (a0.size : Int) := of_decide_eq_true (by first | (with_reducible assumption) | assumption)
             have hx5 := bt_at a0 x6_1
             replace p5 := eq_true p5
             replace q5 := eq_true q5
             have p8 : 0 ≤ (x6_1 : Int) := of_decide_eq_true (by first | (with_reducible assumption) | assumption)
             have q8 : x6_1 < (a0.size : Int) := of_decide_eq_true (by first | (with_reducible assumption) | assumption)
             have hx8 := bt_at a0 x6_1
             replace p8 := eq_true p8
             replace q8 := eq_true q8
             have hcz11_0 : wr.cell? ⟨gb395,0,none⟩ = some (.int .i64 x396000_1) := (blk_cell BK395.out 0).trans rfl
             have hcz11_1 : wr.cell? ⟨gb395,1,none⟩ = some (.string x396001_1) := (blk_cell BK395.out 1).trans rfl
             have hcz11_2 : wr.cell? ⟨gb395,2,none⟩ = some (.int .i64 x396002_1) := (blk_cell BK395.out 2).trans rfl
             have hfz11_0 := blk_frozen BK395.out 0
             have hfz11_1 := blk_frozen BK395.out 1
             have hfz11_2 := blk_frozen BK395.out 2
             go_wp2
             refine bodyPost_ret (results_ctt rfl _ _ gb395 43 #[.int .i64 0,.string (⟨#[]⟩ : ByteArray),.int .i64 0] (0,0) _ rfl (by (with_reducible repeat (first | refine blk_bytes ?_ _ _ | refine blk_drewN ?_ _ | refine blk_drew ?_ | refine blk_alloc ?_ _)); refine blk_put (cs := #[.int .i64 0,.string (⟨#[]⟩ : ByteArray),.int .i64 x396002_1]) ?_ 2 _ rfl; (with_reducible repeat (first | refine blk_bytes ?_ _ _ | refine blk_drewN ?_ _ | refine blk_drew ?_ | refine blk_alloc ?_ _)); refine blk_put (cs := #[.int .i64 0,.string x396001_1,.int .i64 x396002_1]) ?_ 1 _ rfl; (with_reducible repeat (first | refine blk_bytes ?_ _ _ | refine blk_drewN ?_ _ | refine blk_drew ?_ | refine blk_alloc ?_ _)); refine blk_put (cs := #[.int .i64 x396000_1,.string x396001_1,.int .i64 x396002_1]) ?_ 0 _ rfl; (with_reducible repeat (first | refine blk_bytes ?_ _ _ | refine blk_drewN ?_ _ | refine blk_drew ?_ | refine blk_alloc ?_ _)); exact BK395.out) Tryz.underlying43 rfl (by kernel_rfl)) rfl ?_
             exact ⟨by first | rfl | (simp [errW_none,errW_some] <;> rfl) | (simp [*,errW_none,errW_some] <;> rfl),by repeat (first | (with_reducible first | exact HB.out | apply below_alloc | apply pw_below_drewN | apply below_drew1 | apply bytes_below1 | refine below_set ?_ GE395.out) | exact HB.out)⟩
           · rw [if_neg c10] at H
             have c10b0 : decide ((a0.size : Int) ≤ (wrap64 (x6_1 + 1))) = false := decide_eq_false c10
             clear c10
             obtain ⟨ji12,hji12⟩ : ∃ j_ : Int,(wrap64 (x6_1 + 1)) = j_ := ⟨_,rfl⟩
             replace H : (if 0 ≤ (ji12) then (if (ji12) < (a0.size : Int) then (if (bt a0 (ji12)) = 34 then (if (ji12) ≤ (wrap64 (x6_1 + 2)) then (if (wrap64 (x6_1 + 2)) ≤ (a0.size : Int) then (if x5_1.size + (a0.extract ((ji12) : Int).toNat ((wrap64 (x6_1 + 2)) : Int).toNat).size ≤ 9223372036854775807 then (dossierref08_text.l0 k1 a0 (x5_1 ++ (a0.extract ((ji12) : Int).toNat ((wrap64 (x6_1 + 2)) : Int).toNat)) (wrap64 (x6_1 + 2))) else (none)) else (none)) else (none)) else (if (bt a0 (ji12)) = 92 then (if (ji12) ≤ (wrap64 (x6_1 + 2)) then (if (wrap64 (x6_1 + 2)) ≤ (a0.size : Int) then (if x5_1.size + (a0.extract ((ji12) : Int).toNat ((wrap64 (x6_1 + 2)) : Int).toNat).size ≤ 9223372036854775807 then (dossierref08_text.l0 k1 a0 (x5_1 ++ (a0.extract ((ji12) : Int).toNat ((wrap64 (x6_1 + 2)) : Int).toNat)) (wrap64 (x6_1 + 2))) else (none)) else (none)) else (none)) else (some (0,(⟨#[]⟩ : ByteArray),0,0,false)))) else (none)) else (none)) = some (r1,r2,r3,r4,r5) := by first | (rw [hji12] at H; exact H) | (simp only [hji12] at H ⊢; exact H)
             (try rw [hji12] at c10b0)
             have hji12w : (IntKind.i64.wrap (x6_1 + 1)) = ji12 := (i64_w _).trans hji12
             by_cases c13 : 0 ≤ (ji12)
             · rw [if_pos c13] at H
               have c13b0 : decide (0 ≤ (ji12)) = true := decide_eq_true c13
               clear c13
               by_cases c14 : (ji12) < (a0.size : Int)
               · rw [if_pos c14] at H
                 have c14b0 : decide ((ji12) < (a0.size : Int)) = true := decide_eq_true c14
                 clear c14
                 by_cases c16 : (bt a0 (ji12)) = 34
                 · rw [if_pos c16] at H
                   have c16b0 : ((bt a0 (ji12)) == 34) = true := beq_iff_eq.mpr c16
                   have c16b1 : ((bt a0 (ji12)) != 34) = false := bne_eq_false_iff_eq.mpr c16
                   clear c16
                   have c17b0 := eq_true (of_decide_eq_true (by first | (with_reducible assumption) | assumption) : 0 ≤ (ji12))
                   by_cases c18 : (ji12) ≤ (wrap64 (x6_1 + 2))
                   · rw [if_pos c18] at H
                     have c18b0 := eq_true c18
                     have c18b1 : decide ((ji12) ≤ (wrap64 (x6_1 + 2))) = true := decide_eq_true c18
                     by_cases c19 : (wrap64 (x6_1 + 2)) ≤ (a0.size : Int)
                     · rw [if_pos c19] at H
                       have c19b0 := eq_true c19
                       have c19b1 : decide ((wrap64 (x6_1 + 2)) ≤ (a0.size : Int)) = true := decide_eq_true c19
                       by_cases c20 : x5_1.size + (a0.extract ((ji12) : Int).toNat ((wrap64 (x6_1 + 2)) : Int).toNat).size ≤ 9223372036854775807
                       · rw [if_pos c20] at H
                         have c20b0 := eq_true c20
                         have c20b1 : decide (x5_1.size + (a0.extract ((ji12) : Int).toNat ((wrap64 (x6_1 + 2)) : Int).toNat).size ≤ 9223372036854775807) = true := decide_eq_true c20
                         try have c20b2 : (9223372036854775807 < x5_1.size + (a0.extract ((ji12) : Int).toNat ((wrap64 (x6_1 + 2)) : Int).toNat).size) = False := eq_false (Nat.not_lt.2 c20)
                         have H' := Aside0.mk H
                         clear H
                         have p5 : 0 ≤ (x6_1 : Int) := of_decide_eq_true (by first | (with_reducible assumption) | assumption)
                         have q5 : x6_1 < (a0.size : Int) := of_decide_eq_true (by first | (with_reducible assumption) | assumption)
                         have hx5 := bt_at a0 x6_1
                         replace p5 := eq_true p5
                         replace q5 := eq_true q5
                         have p8 : 0 ≤ (x6_1 : Int) := of_decide_eq_true (by first | (with_reducible assumption) | assumption)
                         have q8 : x6_1 < (a0.size : Int) := of_decide_eq_true (by first | (with_reducible assumption) | assumption)
                         have hx8 := bt_at a0 x6_1
                         replace p8 := eq_true p8
                         replace q8 := eq_true q8
                         have p15 : 0 ≤ ((ji12) : Int) := of_decide_eq_true (by first | (with_reducible assumption) | assumption)
                         have q15 : (ji12) < (a0.size : Int) := of_decide_eq_true (by first | (with_reducible assumption) | assumption)
                         have hx15 := bt_at a0 (ji12)
                         replace p15 := eq_true p15
                         replace q15 := eq_true q15
                         go_wp2
                         go_roundg k1
                         case measure => have := HK1.out; omega
                         case rel => exact ⟨(x5_1 ++ (a0.extract ((ji12) : Int).toNat ((wrap64 (x6_1 + 2)) : Int).toNat)),(wrap64 (x6_1 + 2)),(x396000_1),(x396001_1),(x396002_1),(by first | rfl | (simp; done) | (simp only [← hji12] <;> (first | rfl | simp)) | (simp [*]; done)),(by first | rfl | (simp; done) | (simp [*]; done)),H',⟨by have := HK1.out; omega⟩,⟨by (with_reducible repeat (first | refine blk_bytes ?_ _ _ | refine blk_drewN ?_ _ | refine blk_drew ?_ | refine blk_alloc ?_ _)); exact BK395.out⟩,⟨by repeat (first | (with_reducible first | exact HB.out | apply below_alloc | apply pw_below_drewN | apply below_drew1 | apply bytes_below1 | refine below_set ?_ GE395.out) | exact HB.out)⟩⟩
                       · rw [if_neg c20] at H
                         exact absurd H (by simp)
                     · rw [if_neg c19] at H
                       exact absurd H (by simp)
                   · rw [if_neg c18] at H
                     exact absurd H (by simp)
                 · rw [if_neg c16] at H
                   have c16b0 : ((bt a0 (ji12)) == 34) = false := beq_eq_false_iff_ne.mpr c16
                   have c16b1 : ((bt a0 (ji12)) != 34) = true := bne_iff_ne.mpr c16
                   by_cases c22 : (bt a0 (ji12)) = 92
                   · rw [if_pos c22] at H
                     have c22b0 : ((bt a0 (ji12)) == 92) = true := beq_iff_eq.mpr c22
                     have c22b1 : ((bt a0 (ji12)) != 92) = false := bne_eq_false_iff_eq.mpr c22
                     clear c22
                     have c23b0 := eq_true (of_decide_eq_true (by first | (with_reducible assumption) | assumption) : 0 ≤ (ji12))
                     by_cases c24 : (ji12) ≤ (wrap64 (x6_1 + 2))
                     · rw [if_pos c24] at H
                       have c24b0 := eq_true c24
                       have c24b1 : decide ((ji12) ≤ (wrap64 (x6_1 + 2))) = true := decide_eq_true c24
                       by_cases c25 : (wrap64 (x6_1 + 2)) ≤ (a0.size : Int)
                       · rw [if_pos c25] at H
                         have c25b0 := eq_true c25
                         have c25b1 : decide ((wrap64 (x6_1 + 2)) ≤ (a0.size : Int)) = true := decide_eq_true c25
                         by_cases c26 : x5_1.size + (a0.extract ((ji12) : Int).toNat ((wrap64 (x6_1 + 2)) : Int).toNat).size ≤ 9223372036854775807
                         · rw [if_pos c26] at H
                           have c26b0 := eq_true c26
                           have c26b1 : decide (x5_1.size + (a0.extract ((ji12) : Int).toNat ((wrap64 (x6_1 + 2)) : Int).toNat).size ≤ 9223372036854775807) = true := decide_eq_true c26
                           try have c26b2 : (9223372036854775807 < x5_1.size + (a0.extract ((ji12) : Int).toNat ((wrap64 (x6_1 + 2)) : Int).toNat).size) = False := eq_false (Nat.not_lt.2 c26)
                           have H' := Aside0.mk H
                           clear H
                           have p5 : 0 ≤ (x6_1 : Int) := of_decide_eq_true (by first | (with_reducible assumption) | assumption)
                           have q5 : x6_1 < (a0.size : Int) := of_decide_eq_true (by first | (with_reducible assumption) | assumption)
                           have hx5 := bt_at a0 x6_1
                           replace p5 := eq_true p5
                           replace q5 := eq_true q5
                           have p8 : 0 ≤ (x6_1 : Int) := of_decide_eq_true (by first | (with_reducible assumption) | assumption)
                           have q8 : x6_1 < (a0.size : Int) := of_decide_eq_true (by first | (with_reducible assumption) | assumption)
                           have hx8 := bt_at a0 x6_1
                           replace p8 := eq_true p8
                           replace q8 := eq_true q8
                           have p15 : 0 ≤ ((ji12) : Int) := of_decide_eq_true (by first | (with_reducible assumption) | assumption)
                           have q15 : (ji12) < (a0.size : Int) := of_decide_eq_true (by first | (with_reducible assumption) | assumption)
                           have hx15 := bt_at a0 (ji12)
                           replace p15 := eq_true p15
                           replace q15 := eq_true q15
                           have p21 : 0 ≤ ((ji12) : Int) := of_decide_eq_true (by first | (with_reducible assumption) | assumption)
                           have q21 : (ji12) < (a0.size : Int) := of_decide_eq_true (by first | (with_reducible assumption) | assumption)
                           have hx21 := bt_at a0 (ji12)
                           replace p21 := eq_true p21
                           replace q21 := eq_true q21
                           go_wp2
                           go_roundg k1
                           case measure => have := HK1.out; omega
                           case rel => exact ⟨(x5_1 ++ (a0.extract ((ji12) : Int).toNat ((wrap64 (x6_1 + 2)) : Int).toNat)),(wrap64 (x6_1 + 2)),(x396000_1),(x396001_1),(x396002_1),(by first | rfl | (simp; done) | (simp only [← hji12] <;> (first | rfl | simp)) | (simp [*]; done)),(by first | rfl | (simp; done) | (simp [*]; done)),H',⟨by have := HK1.out; omega⟩,⟨by (with_reducible repeat (first | refine blk_bytes ?_ _ _ | refine blk_drewN ?_ _ | refine blk_drew ?_ | refine blk_alloc ?_ _)); exact BK395.out⟩,⟨by repeat (first | (with_reducible first | exact HB.out | apply below_alloc | apply pw_below_drewN | apply below_drew1 | apply bytes_below1 | refine below_set ?_ GE395.out) | exact HB.out)⟩⟩
                         · rw [if_neg c26] at H
                           exact absurd H (by simp)
                       · rw [if_neg c25] at H
                         exact absurd H (by simp)
                     · rw [if_neg c24] at H
                       exact absurd H (by simp)
                   · rw [if_neg c22] at H
                     have c22b0 : ((bt a0 (ji12)) == 92) = false := beq_eq_false_iff_ne.mpr c22
                     have c22b1 : ((bt a0 (ji12)) != 92) = true := bne_iff_ne.mpr c22
                     simp only [Option.some.injEq,Prod.mk.injEq] at H
                     obtain ⟨rfl,rfl,rfl,rfl,rfl⟩ := H
                     have p5 : 0 ≤ (x6_1 : Int) := of_decide_eq_true (by first | (with_reducible assumption) | assumption)
                     have q5 : x6_1 < (a0.size : Int) := of_decide_eq_true (by first | (with_reducible assumption) | assumption)
                     have hx5 := bt_at a0 x6_1
                     replace p5 := eq_true p5
                     replace q5 := eq_true q5
                     have p8 : 0 ≤ (x6_1 : Int) := of_decide_eq_true (by first | (with_reducible assumption) | assumption)
                     have q8 : x6_1 < (a0.size : Int) := of_decide_eq_true (by first | (with_reducible assumption) | assumption)
                     have hx8 := bt_at a0 x6_1
                     replace p8 := eq_true p8
                     replace q8 := eq_true q8
                     have p15 : 0 ≤ ((ji12) : Int) := of_decide_eq_true (by first | (with_reducible assumption) | assumption)
                     have q15 : (ji12) < (a0.size : Int) := of_decide_eq_true (by first | (with_reducible assumption) | assumption)
                     have hx15 := bt_at a0 (ji12)
                     replace p15 := eq_true p15
                     replace q15 := eq_true q15
                     have p21 : 0 ≤ ((ji12) : Int) := of_decide_eq_true (by first | (with_reducible assumption) | assumption)
                     have q21 : (ji12) < (a0.size : Int) := of_decide_eq_true (by first | (with_reducible assumption) | assumption)
                     have hx21 := bt_at a0 (ji12)
                     replace p21 := eq_true p21
                     replace q21 := eq_true q21
                     have hcz27_0 : wr.cell? ⟨gb395,0,none⟩ = some (.int .i64 x396000_1) := (blk_cell BK395.out 0).trans rfl
                     have hcz27_1 : wr.cell? ⟨gb395,1,none⟩ = some (.string x396001_1) := (blk_cell BK395.out 1).trans rfl
                     have hcz27_2 : wr.cell? ⟨gb395,2,none⟩ = some (.int .i64 x396002_1) := (blk_cell BK395.out 2).trans rfl
                     have hfz27_0 := blk_frozen BK395.out 0
                     have hfz27_1 := blk_frozen BK395.out 1
                     have hfz27_2 := blk_frozen BK395.out 2
                     go_wp2
                     refine bodyPost_ret (results_ctt rfl _ _ gb395 43 #[.int .i64 0,.string (⟨#[]⟩ : ByteArray),.int .i64 0] (0,0) _ rfl (by (with_reducible repeat (first | refine blk_bytes ?_ _ _ | refine blk_drewN ?_ _ | refine blk_drew ?_ | refine blk_alloc ?_ _)); refine blk_put (cs := #[.int .i64 0,.string (⟨#[]⟩ : ByteArray),.int .i64 x396002_1]) ?_ 2 _ rfl; (with_reducible repeat (first | refine blk_bytes ?_ _ _ | refine blk_drewN ?_ _ | refine blk_drew ?_ | refine blk_alloc ?_ _)); refine blk_put (cs := #[.int .i64 0,.string x396001_1,.int .i64 x396002_1]) ?_ 1 _ rfl; (with_reducible repeat (first | refine blk_bytes ?_ _ _ | refine blk_drewN ?_ _ | refine blk_drew ?_ | refine blk_alloc ?_ _)); refine blk_put (cs := #[.int .i64 x396000_1,.string x396001_1,.int .i64 x396002_1]) ?_ 0 _ rfl; (with_reducible repeat (first | refine blk_bytes ?_ _ _ | refine blk_drewN ?_ _ | refine blk_drew ?_ | refine blk_alloc ?_ _)); exact BK395.out) Tryz.underlying43 rfl (by kernel_rfl)) rfl ?_
                     exact ⟨by first | rfl | (simp [errW_none,errW_some] <;> rfl) | (simp only [← hji12]; first | rfl | (simp [errW_none,errW_some] <;> rfl)) | (simp [*,errW_none,errW_some] <;> rfl),by repeat (first | (with_reducible first | exact HB.out | apply below_alloc | apply pw_below_drewN | apply below_drew1 | apply bytes_below1 | refine below_set ?_ GE395.out) | exact HB.out)⟩
               · rw [if_neg c14] at H
                 exact absurd H (by simp)
             · rw [if_neg c13] at H
               exact absurd H (by simp)
         · rw [if_neg c9] at H
           have c9b0 : ((bt a0 x6_1) == 92) = false := beq_eq_false_iff_ne.mpr c9
           have c9b1 : ((bt a0 x6_1) != 92) = true := bne_iff_ne.mpr c9
           have c28b0 := eq_true (of_decide_eq_true (by first | (with_reducible assumption) | assumption) : 0 ≤ x6_1)
           by_cases c29 : x6_1 ≤ (a0.size : Int)
           · rw [if_pos c29] at H
             have c29b0 := eq_true c29
             have c29b1 : decide (x6_1 ≤ (a0.size : Int)) = true := decide_eq_true c29
             clear c29
             by_cases c30 : (a0.extract (x6_1 : Int).toNat a0.size).size < 140737488355328
             · rw [if_pos c30] at H
               have LMc30 := Aside0.mk c30
               clear c30
               replace H := Option.bind_eq_some_iff.mp H
               obtain ⟨⟨t396,t397⟩,A310,H⟩ := H
               replace H : (if t397 = 0 then (some (0,(⟨#[]⟩ : ByteArray),0,0,false)) else ((dossierref01_OfXML.f k1 t396).bind fun t398 => (if t398 = true then (if x6_1 ≤ (wrap64 (x6_1 + t397)) then (if (wrap64 (x6_1 + t397)) ≤ (a0.size : Int) then (if x5_1.size + (a0.extract (x6_1 : Int).toNat ((wrap64 (x6_1 + t397)) : Int).toNat).size ≤ 9223372036854775807 then (dossierref08_text.l0 k1 a0 (x5_1 ++ (a0.extract (x6_1 : Int).toNat ((wrap64 (x6_1 + t397)) : Int).toNat)) (wrap64 (x6_1 + t397))) else (none)) else (none)) else (none)) else (some (0,(⟨#[]⟩ : ByteArray),0,0,false))))) = some (r1,r2,r3,r4,r5) := H
               have A31 := Aside0.mk A310
               clear A310
               by_cases c32 : t397 = 0
               · rw [if_pos c32] at H
                 have c32b0 : (t397 == 0) = true := beq_iff_eq.mpr c32
                 have c32b1 : (t397 != 0) = false := bne_eq_false_iff_eq.mpr c32
                 clear c32
                 simp only [Option.some.injEq,Prod.mk.injEq] at H
                 obtain ⟨rfl,rfl,rfl,rfl,rfl⟩ := H
                 have p5 : 0 ≤ (x6_1 : Int) := of_decide_eq_true (by first | (with_reducible assumption) | assumption)
                 have q5 : x6_1 < (a0.size : Int) := of_decide_eq_true (by first | (with_reducible assumption) | assumption)
                 have hx5 := bt_at a0 x6_1
                 replace p5 := eq_true p5
                 replace q5 := eq_true q5
                 have p8 : 0 ≤ (x6_1 : Int) := of_decide_eq_true (by first | (with_reducible assumption) | assumption)
                 have q8 : x6_1 < (a0.size : Int) := of_decide_eq_true (by first | (with_reducible assumption) | assumption)
                 have hx8 := bt_at a0 x6_1
                 replace p8 := eq_true p8
                 replace q8 := eq_true q8
                 have kb33 := fun W => print_bytes (P := Tryz.prog) 9 24 5 Tryz.underlying9 Tryz.underlying24 Tryz.underlying5 (a0.extract (x6_1 : Int).toNat a0.size) W
                 go_wp2_with (first | (go_at_call 47; (with_reducible refine (dossierref08_text.callsD k1 _ _ _ (a0.extract (x6_1 : Int).toNat a0.size) (by first | rfl | simp) t396 t397 _ ?side1 ?side2 A31.out).mono ?_); (case side1 => exact C_bytes_new _ _ _ _ (by first | rfl | simp | omega) (LMc30.out)); (case side2 => exact grownCap_ge _ _ _ _); rintro e w34 ⟨rfl,hb⟩; have n0_ := Aside0.mk (blk_below (g := gb395) (o := .cells #[.int .i64 x396000_1,.string x396001_1,.int .i64 x396002_1] 43 (0,0)) (by (with_reducible repeat (first | refine blk_bytes ?_ _ _ | refine blk_drewN ?_ _ | refine blk_drew ?_ | refine blk_alloc ?_ _)); exact BK395.out) hb); have n1_ := Aside0.mk (below_step (by repeat (first | (with_reducible first | exact HB.out | apply below_alloc | apply pw_below_drewN | apply below_drew1 | apply bytes_below1 | refine below_set ?_ GE395.out) | exact HB.out)) hb); clear BK395; clear HB; have BK395 := n0_; have HB := n1_; clear n0_ n1_; (try clear hb); (try clear hb2); (try clear hk); (try clear hi); have hcz35_0 : w34.cell? ⟨gb395,0,none⟩ = some (.int .i64 x396000_1) := (blk_cell BK395.out 0).trans rfl; have hcz35_1 : w34.cell? ⟨gb395,1,none⟩ = some (.string x396001_1) := (blk_cell BK395.out 1).trans rfl; have hcz35_2 : w34.cell? ⟨gb395,2,none⟩ = some (.int .i64 x396002_1) := (blk_cell BK395.out 2).trans rfl; have hfz35_0 := blk_frozen BK395.out 0; have hfz35_1 := blk_frozen BK395.out 1; have hfz35_2 := blk_frozen BK395.out 2))
                 refine bodyPost_ret (results_ctt rfl _ _ gb395 43 #[.int .i64 0,.string (⟨#[]⟩ : ByteArray),.int .i64 0] (0,0) _ rfl (by (with_reducible repeat (first | refine blk_bytes ?_ _ _ | refine blk_drewN ?_ _ | refine blk_drew ?_ | refine blk_alloc ?_ _)); refine blk_put (cs := #[.int .i64 0,.string (⟨#[]⟩ : ByteArray),.int .i64 x396002_1]) ?_ 2 _ rfl; (with_reducible repeat (first | refine blk_bytes ?_ _ _ | refine blk_drewN ?_ _ | refine blk_drew ?_ | refine blk_alloc ?_ _)); refine blk_put (cs := #[.int .i64 0,.string x396001_1,.int .i64 x396002_1]) ?_ 1 _ rfl; (with_reducible repeat (first | refine blk_bytes ?_ _ _ | refine blk_drewN ?_ _ | refine blk_drew ?_ | refine blk_alloc ?_ _)); refine blk_put (cs := #[.int .i64 x396000_1,.string x396001_1,.int .i64 x396002_1]) ?_ 0 _ rfl; (with_reducible repeat (first | refine blk_bytes ?_ _ _ | refine blk_drewN ?_ _ | refine blk_drew ?_ | refine blk_alloc ?_ _)); exact BK395.out) Tryz.underlying43 rfl (by kernel_rfl)) rfl ?_
                 exact ⟨by first | rfl | (simp [errW_none,errW_some] <;> rfl) | (simp [*,errW_none,errW_some] <;> rfl),by repeat (first | (with_reducible first | exact HB.out | apply below_alloc | apply pw_below_drewN | apply below_drew1 | apply bytes_below1 | refine below_set ?_ GE395.out) | exact HB.out)⟩
               · rw [if_neg c32] at H
                 have c32b0 : (t397 == 0) = false := beq_eq_false_iff_ne.mpr c32
                 have c32b1 : (t397 != 0) = true := bne_iff_ne.mpr c32
                 replace H := Option.bind_eq_some_iff.mp H
                 obtain ⟨t398,A360,H⟩ := H
                 replace H : (if t398 = true then (if x6_1 ≤ (wrap64 (x6_1 + t397)) then (if (wrap64 (x6_1 + t397)) ≤ (a0.size : Int) then (if x5_1.size + (a0.extract (x6_1 : Int).toNat ((wrap64 (x6_1 + t397)) : Int).toNat).size ≤ 9223372036854775807 then (dossierref08_text.l0 k1 a0 (x5_1 ++ (a0.extract (x6_1 : Int).toNat ((wrap64 (x6_1 + t397)) : Int).toNat)) (wrap64 (x6_1 + t397))) else (none)) else (none)) else (none)) else (some (0,(⟨#[]⟩ : ByteArray),0,0,false))) = some (r1,r2,r3,r4,r5) := H
                 have A36 := Aside0.mk A360
                 clear A360
                 by_cases c37 : t398 = true
                 · subst c37
                   have H1 : (if x6_1 ≤ (wrap64 (x6_1 + t397)) then (if (wrap64 (x6_1 + t397)) ≤ (a0.size : Int) then (if x5_1.size + (a0.extract (x6_1 : Int).toNat ((wrap64 (x6_1 + t397)) : Int).toNat).size ≤ 9223372036854775807 then (dossierref08_text.l0 k1 a0 (x5_1 ++ (a0.extract (x6_1 : Int).toNat ((wrap64 (x6_1 + t397)) : Int).toNat)) (wrap64 (x6_1 + t397))) else (none)) else (none)) else (none)) = some (r1,r2,r3,r4,r5) := by rw [if_pos rfl] at H; exact H
                   clear H
                   have H := H1
                   clear H1
                   have c38b0 := eq_true (of_decide_eq_true (by first | (with_reducible assumption) | assumption) : 0 ≤ x6_1)
                   by_cases c39 : x6_1 ≤ (wrap64 (x6_1 + t397))
                   · rw [if_pos c39] at H
                     have c39b0 := eq_true c39
                     have c39b1 : decide (x6_1 ≤ (wrap64 (x6_1 + t397))) = true := decide_eq_true c39
                     by_cases c40 : (wrap64 (x6_1 + t397)) ≤ (a0.size : Int)
                     · rw [if_pos c40] at H
                       have c40b0 := eq_true c40
                       have c40b1 : decide ((wrap64 (x6_1 + t397)) ≤ (a0.size : Int)) = true := decide_eq_true c40
                       by_cases c41 : x5_1.size + (a0.extract (x6_1 : Int).toNat ((wrap64 (x6_1 + t397)) : Int).toNat).size ≤ 9223372036854775807
                       · rw [if_pos c41] at H
                         have c41b0 := eq_true c41
                         have c41b1 : decide (x5_1.size + (a0.extract (x6_1 : Int).toNat ((wrap64 (x6_1 + t397)) : Int).toNat).size ≤ 9223372036854775807) = true := decide_eq_true c41
                         try have c41b2 : (9223372036854775807 < x5_1.size + (a0.extract (x6_1 : Int).toNat ((wrap64 (x6_1 + t397)) : Int).toNat).size) = False := eq_false (Nat.not_lt.2 c41)
                         have H' := Aside0.mk H
                         clear H
                         have p5 : 0 ≤ (x6_1 : Int) := of_decide_eq_true (by first | (with_reducible assumption) | assumption)
                         have q5 : x6_1 < (a0.size : Int) := of_decide_eq_true (by first | (with_reducible assumption) | assumption)
                         have hx5 := bt_at a0 x6_1
                         replace p5 := eq_true p5
                         replace q5 := eq_true q5
                         have p8 : 0 ≤ (x6_1 : Int) := of_decide_eq_true (by first | (with_reducible assumption) | assumption)
                         have q8 : x6_1 < (a0.size : Int) := of_decide_eq_true (by first | (with_reducible assumption) | assumption)
                         have hx8 := bt_at a0 x6_1
                         replace p8 := eq_true p8
                         replace q8 := eq_true q8
                         have kb42 := fun W => print_bytes (P := Tryz.prog) 9 24 5 Tryz.underlying9 Tryz.underlying24 Tryz.underlying5 (a0.extract (x6_1 : Int).toNat a0.size) W
                         go_wp2_with (first | (go_at_call 47; (with_reducible refine (dossierref08_text.callsD k1 _ _ _ (a0.extract (x6_1 : Int).toNat a0.size) (by first | rfl | simp) t396 t397 _ ?side1 ?side2 A31.out).mono ?_); (case side1 => exact C_bytes_new _ _ _ _ (by first | rfl | simp | omega) (LMc30.out)); (case side2 => exact grownCap_ge _ _ _ _); rintro e w43 ⟨rfl,hb⟩; have n0_ := Aside0.mk (blk_below (g := gb395) (o := .cells #[.int .i64 x396000_1,.string x396001_1,.int .i64 x396002_1] 43 (0,0)) (by (with_reducible repeat (first | refine blk_bytes ?_ _ _ | refine blk_drewN ?_ _ | refine blk_drew ?_ | refine blk_alloc ?_ _)); exact BK395.out) hb); have n1_ := Aside0.mk (below_step (by repeat (first | (with_reducible first | exact HB.out | apply below_alloc | apply pw_below_drewN | apply below_drew1 | apply bytes_below1 | refine below_set ?_ GE395.out) | exact HB.out)) hb); clear BK395; clear HB; have BK395 := n0_; have HB := n1_; clear n0_ n1_; (try clear hb); (try clear hb2); (try clear hk); (try clear hi)) | (go_at_call 48; (with_reducible refine (dossierref01_OfXML.calls k1 t396 true _ A36.out).mono ?_); rintro e w44 ⟨rfl,hb⟩; have n0_ := Aside0.mk (blk_below (g := gb395) (o := .cells #[.int .i64 x396000_1,.string x396001_1,.int .i64 x396002_1] 43 (0,0)) (by (with_reducible repeat (first | refine blk_bytes ?_ _ _ | refine blk_drewN ?_ _ | refine blk_drew ?_ | refine blk_alloc ?_ _)); exact BK395.out) hb); have n1_ := Aside0.mk (below_step (by repeat (first | (with_reducible first | exact HB.out | apply below_alloc | apply pw_below_drewN | apply below_drew1 | apply bytes_below1 | refine below_set ?_ GE395.out) | exact HB.out)) hb); clear BK395; clear HB; have BK395 := n0_; have HB := n1_; clear n0_ n1_; (try clear hb); (try clear hb2); (try clear hk); (try clear hi)))
                         go_roundg k1
                         case measure => have := HK1.out; omega
                         case rel => exact ⟨(x5_1 ++ (a0.extract (x6_1 : Int).toNat ((wrap64 (x6_1 + t397)) : Int).toNat)),(wrap64 (x6_1 + t397)),(x396000_1),(x396001_1),(x396002_1),(by first | rfl | (simp; done) | (simp [*]; done)),(by first | rfl | (simp; done) | (simp [*]; done)),H',⟨by have := HK1.out; omega⟩,⟨by (with_reducible repeat (first | refine blk_bytes ?_ _ _ | refine blk_drewN ?_ _ | refine blk_drew ?_ | refine blk_alloc ?_ _)); exact BK395.out⟩,⟨by repeat (first | (with_reducible first | exact HB.out | apply below_alloc | apply pw_below_drewN | apply below_drew1 | apply bytes_below1 | refine below_set ?_ GE395.out) | exact HB.out)⟩⟩
                       · rw [if_neg c41] at H
                         exact absurd H (by simp)
                     · rw [if_neg c40] at H
                       exact absurd H (by simp)
                   · rw [if_neg c39] at H
                     exact absurd H (by simp)
                 · replace c37 := Bool.eq_false_iff.mpr c37
                   subst c37
                   have H1 : (some (0,(⟨#[]⟩ : ByteArray),0,0,false)) = some (r1,r2,r3,r4,r5) := by rw [if_neg (show ¬ (false = true) by decide)] at H; exact H
                   clear H
                   have H := H1
                   clear H1
                   simp only [Option.some.injEq,Prod.mk.injEq] at H
                   obtain ⟨rfl,rfl,rfl,rfl,rfl⟩ := H
                   have p5 : 0 ≤ (x6_1 : Int) := of_decide_eq_true (by first | (with_reducible assumption) | assumption)
                   have q5 : x6_1 < (a0.size : Int) := of_decide_eq_true (by first | (with_reducible assumption) | assumption)
                   have hx5 := bt_at a0 x6_1
                   replace p5 := eq_true p5
                   replace q5 := eq_true q5
                   have p8 : 0 ≤ (x6_1 : Int) := of_decide_eq_true (by first | (with_reducible assumption) | assumption)
                   have q8 : x6_1 < (a0.size : Int) := of_decide_eq_true (by first | (with_reducible assumption) | assumption)
                   have hx8 := bt_at a0 x6_1
                   replace p8 := eq_true p8
                   replace q8 := eq_true q8
                   have kb45 := fun W => print_bytes (P := Tryz.prog) 9 24 5 Tryz.underlying9 Tryz.underlying24 Tryz.underlying5 (a0.extract (x6_1 : Int).toNat a0.size) W
                   go_wp2_with (first | (go_at_call 47; (with_reducible refine (dossierref08_text.callsD k1 _ _ _ (a0.extract (x6_1 : Int).toNat a0.size) (by first | rfl | simp) t396 t397 _ ?side1 ?side2 A31.out).mono ?_); (case side1 => exact C_bytes_new _ _ _ _ (by first | rfl | simp | omega) (LMc30.out)); (case side2 => exact grownCap_ge _ _ _ _); rintro e w46 ⟨rfl,hb⟩; have n0_ := Aside0.mk (blk_below (g := gb395) (o := .cells #[.int .i64 x396000_1,.string x396001_1,.int .i64 x396002_1] 43 (0,0)) (by (with_reducible repeat (first | refine blk_bytes ?_ _ _ | refine blk_drewN ?_ _ | refine blk_drew ?_ | refine blk_alloc ?_ _)); exact BK395.out) hb); have n1_ := Aside0.mk (below_step (by repeat (first | (with_reducible first | exact HB.out | apply below_alloc | apply pw_below_drewN | apply below_drew1 | apply bytes_below1 | refine below_set ?_ GE395.out) | exact HB.out)) hb); clear BK395; clear HB; have BK395 := n0_; have HB := n1_; clear n0_ n1_; (try clear hb); (try clear hb2); (try clear hk); (try clear hi)) | (go_at_call 48; (with_reducible refine (dossierref01_OfXML.calls k1 t396 false _ A36.out).mono ?_); rintro e w47 ⟨rfl,hb⟩; have n0_ := Aside0.mk (blk_below (g := gb395) (o := .cells #[.int .i64 x396000_1,.string x396001_1,.int .i64 x396002_1] 43 (0,0)) (by (with_reducible repeat (first | refine blk_bytes ?_ _ _ | refine blk_drewN ?_ _ | refine blk_drew ?_ | refine blk_alloc ?_ _)); exact BK395.out) hb); have n1_ := Aside0.mk (below_step (by repeat (first | (with_reducible first | exact HB.out | apply below_alloc | apply pw_below_drewN | apply below_drew1 | apply bytes_below1 | refine below_set ?_ GE395.out) | exact HB.out)) hb); clear BK395; clear HB; have BK395 := n0_; have HB := n1_; clear n0_ n1_; (try clear hb); (try clear hb2); (try clear hk); (try clear hi); have hcz48_0 : w47.cell? ⟨gb395,0,none⟩ = some (.int .i64 x396000_1) := (blk_cell BK395.out 0).trans rfl; have hcz48_1 : w47.cell? ⟨gb395,1,none⟩ = some (.string x396001_1) := (blk_cell BK395.out 1).trans rfl; have hcz48_2 : w47.cell? ⟨gb395,2,none⟩ = some (.int .i64 x396002_1) := (blk_cell BK395.out 2).trans rfl; have hfz48_0 := blk_frozen BK395.out 0; have hfz48_1 := blk_frozen BK395.out 1; have hfz48_2 := blk_frozen BK395.out 2))
                   refine bodyPost_ret (results_ctt rfl _ _ gb395 43 #[.int .i64 0,.string (⟨#[]⟩ : ByteArray),.int .i64 0] (0,0) _ rfl (by (with_reducible repeat (first | refine blk_bytes ?_ _ _ | refine blk_drewN ?_ _ | refine blk_drew ?_ | refine blk_alloc ?_ _)); refine blk_put (cs := #[.int .i64 0,.string (⟨#[]⟩ : ByteArray),.int .i64 x396002_1]) ?_ 2 _ rfl; (with_reducible repeat (first | refine blk_bytes ?_ _ _ | refine blk_drewN ?_ _ | refine blk_drew ?_ | refine blk_alloc ?_ _)); refine blk_put (cs := #[.int .i64 0,.string x396001_1,.int .i64 x396002_1]) ?_ 1 _ rfl; (with_reducible repeat (first | refine blk_bytes ?_ _ _ | refine blk_drewN ?_ _ | refine blk_drew ?_ | refine blk_alloc ?_ _)); refine blk_put (cs := #[.int .i64 x396000_1,.string x396001_1,.int .i64 x396002_1]) ?_ 0 _ rfl; (with_reducible repeat (first | refine blk_bytes ?_ _ _ | refine blk_drewN ?_ _ | refine blk_drew ?_ | refine blk_alloc ?_ _)); exact BK395.out) Tryz.underlying43 rfl (by kernel_rfl)) rfl ?_
                   exact ⟨by first | rfl | (simp [errW_none,errW_some] <;> rfl) | (simp [*,errW_none,errW_some] <;> rfl),by repeat (first | (with_reducible first | exact HB.out | apply below_alloc | apply pw_below_drewN | apply below_drew1 | apply bytes_below1 | refine below_set ?_ GE395.out) | exact HB.out)⟩
             · rw [if_neg c30] at H
               exact absurd H (by simp)
           · rw [if_neg c29] at H
             exact absurd H (by simp)
     · rw [if_neg c4] at H
       exact absurd H (by simp)
   · rw [if_neg c3] at H
     have c3b0 : decide (x6_1 < (a0.size : Int)) = false := decide_eq_false c3
     clear c3
     simp only [Option.some.injEq,Prod.mk.injEq] at H
     obtain ⟨rfl,rfl,rfl,rfl,rfl⟩ := H
     have hcz49_0 : wr.cell? ⟨gb395,0,none⟩ = some (.int .i64 x396000_1) := (blk_cell BK395.out 0).trans rfl
     have hcz49_1 : wr.cell? ⟨gb395,1,none⟩ = some (.string x396001_1) := (blk_cell BK395.out 1).trans rfl
     have hcz49_2 : wr.cell? ⟨gb395,2,none⟩ = some (.int .i64 x396002_1) := (blk_cell BK395.out 2).trans rfl
     have hfz49_0 := blk_frozen BK395.out 0
     have hfz49_1 := blk_frozen BK395.out 1
     have hfz49_2 := blk_frozen BK395.out 2
     go_wp2
     refine bodyPost_ret (results_ctt rfl _ _ gb395 43 #[.int .i64 0,.string (⟨#[]⟩ : ByteArray),.int .i64 0] (0,0) _ rfl (by (with_reducible repeat (first | refine blk_bytes ?_ _ _ | refine blk_drewN ?_ _ | refine blk_drew ?_ | refine blk_alloc ?_ _)); refine blk_put (cs := #[.int .i64 0,.string (⟨#[]⟩ : ByteArray),.int .i64 x396002_1]) ?_ 2 _ rfl; (with_reducible repeat (first | refine blk_bytes ?_ _ _ | refine blk_drewN ?_ _ | refine blk_drew ?_ | refine blk_alloc ?_ _)); refine blk_put (cs := #[.int .i64 0,.string x396001_1,.int .i64 x396002_1]) ?_ 1 _ rfl; (with_reducible repeat (first | refine blk_bytes ?_ _ _ | refine blk_drewN ?_ _ | refine blk_drew ?_ | refine blk_alloc ?_ _)); refine blk_put (cs := #[.int .i64 x396000_1,.string x396001_1,.int .i64 x396002_1]) ?_ 0 _ rfl; (with_reducible repeat (first | refine blk_bytes ?_ _ _ | refine blk_drewN ?_ _ | refine blk_drew ?_ | refine blk_alloc ?_ _)); exact BK395.out) Tryz.underlying43 rfl (by kernel_rfl)) rfl ?_
     exact ⟨by first | rfl | (simp [errW_none,errW_some] <;> rfl) | (simp [*,errW_none,errW_some] <;> rfl),by repeat (first | (with_reducible first | exact HB.out | apply below_alloc | apply pw_below_drewN | apply below_drew1 | apply bytes_below1 | refine below_set ?_ GE395.out) | exact HB.out)⟩
end
section
/-! ### dossierref08_sign: function 68 -/
mutual
def dossierref08_sign.j0 : Nat → ByteArray → Bool → Option (Int × ByteArray × Int × Int × Bool)
 | 0,_,_ => none
 | k + 1,x0,x24 => if x24 = true then (if 0 ≤ 2 then (if 2 ≤ (x0.size : Int) then (some (4,x0.extract 0 2,0,2,true)) else (none)) else (none)) else ((some (([(⟨#[40]⟩ : ByteArray),(⟨#[41]⟩ : ByteArray),(⟨#[46]⟩ : ByteArray),(⟨#[44]⟩ : ByteArray),(⟨#[43]⟩ : ByteArray),(⟨#[45]⟩ : ByteArray),(⟨#[42]⟩ : ByteArray),(⟨#[47]⟩ : ByteArray),(⟨#[37]⟩ : ByteArray),(⟨#[60]⟩ : ByteArray),(⟨#[62]⟩ : ByteArray),(⟨#[61]⟩ : ByteArray)] : List ByteArray) : List ByteArray)).bind fun y400 => (dossierref08_sign.l0 k x0 y400 (y400.length : Int) 0))
def dossierref08_sign.l0 : Nat → ByteArray → List ByteArray → Int → Int → Option (Int × ByteArray × Int × Int × Bool)
 | 0,_,_,_,_ => none
 | k + 1,x0,x28,x29,x30 => if x30 < x29 then (if 0 ≤ x30 then (if x30 < (x28.length : Int) then (if 0 ≤ 1 then (if 1 ≤ (x0.size : Int) then (if (x0.extract 0 1).toList = (rdOf ByteArray.empty x28 x30).toList then (some (4,rdOf ByteArray.empty x28 x30,0,1,true)) else (dossierref08_sign.l0 k x0 x28 x29 (wrap64 (x30 + 1)))) else (none)) else (none)) else (none)) else (none)) else (some (0,(⟨#[]⟩ : ByteArray),0,0,false))
end
def dossierref08_sign.f (k : Nat) (a0 : ByteArray) : Option (Int × ByteArray × Int × Int × Bool) := if (a0.size : Int) ≥ 2 then (if 0 ≤ 2 then (if 2 ≤ (a0.size : Int) then (if (a0.extract 0 2).toList = ([60,61] : List UInt8) then (dossierref08_sign.j0 k a0 true) else (if (a0.extract 0 2).toList = ([62,61] : List UInt8) then (dossierref08_sign.j0 k a0 true) else (dossierref08_sign.j0 k a0 ((a0.extract 0 2).toList == ([33,61] : List UInt8))))) else (none)) else (none)) else (dossierref08_sign.j0 k a0 false)
set_option maxHeartbeats 8000000 in
set_option maxRecDepth 100000 in
theorem dossierref08_sign.calls (k : Nat) (a0 : ByteArray) (r1 : Int) (r2 : ByteArray) (r3 : Int) (r4 : Int) (r5 : Bool) (w : World) (h : dossierref08_sign.f k a0 = some (r1,r2,r3,r4,r5)) :
 Calls Tryz.prog 68 #[.string a0] w fun e w' => e = .returned (.tuple #[.agg #[.int .i64 r1,.string r2,.int .i64 r3],.int .i64 r4,.bool r5]) ∧ Below w.heap.size w w' := by
 have hu43 := Tryz.underlying43
 have HB := Aside0.mk (Below.refl w.heap.size w)
 have H : (if (a0.size : Int) ≥ 2 then (if 0 ≤ 2 then (if 2 ≤ (a0.size : Int) then (if (a0.extract 0 2).toList = ([60,61] : List UInt8) then (dossierref08_sign.j0 k a0 true) else (if (a0.extract 0 2).toList = ([62,61] : List UInt8) then (dossierref08_sign.j0 k a0 true) else (dossierref08_sign.j0 k a0 ((a0.extract 0 2).toList == ([33,61] : List UInt8))))) else (none)) else (none)) else (dossierref08_sign.j0 k a0 false)) = some (r1,r2,r3,r4,r5) := h
 clear h
 have HC2 := Aside0.mk H
 clear H
 go_enter Tryz.func68,Tryz.ntmps68
 go_upto_region 1 with (first | ((with_reducible refine gate_dst (N := 2) rfl ?_); refine box_event ?hg (N := 2) ?hd (cs := #[.int .i64 0,.string (⟨#[]⟩ : ByteArray),.int .i64 0]) (t := 43) ?hr ?_; (case hd => rfl); (case hg => rfl); (case hr => first | (go_simp; done) | (go_simp; rfl)); intro gb399 hg w3 hbox hb; have n0_ := Aside0.mk (below_step (by repeat (first | (with_reducible first | exact HB.out | apply below_alloc | apply pw_below_drewN | apply below_drew1 | apply bytes_below1) | exact HB.out)) hb); have n1_ := Aside0.mk (hbox); have n2_ := Aside0.mk ((by rw [hg]; exact (below_size (by repeat (first | (with_reducible first | exact HB.out | apply below_alloc | apply pw_below_drewN | apply below_drew1 | apply bytes_below1) | exact HB.out))) : w.heap.size ≤ gb399)); have n3_ := Aside0.mk ((by rw [hg]; exact (below_size (by repeat (first | (with_reducible first | exact HB.out | apply below_alloc | apply pw_below_drewN | apply below_drew1 | apply bytes_below1) | exact HB.out))) : w.heap.size ≤ gb399)); clear HB; have HB := n0_; have BK399 := n1_; have GW399 := n2_; have GE399 := n3_; clear n0_ n1_ n2_ n3_; clear hb hbox hg))
 (try simp only [Act.put,List.setIfInBounds_toArray,List.set_cons_zero,List.set_cons_succ])
 go_cut [24] (fun v24 wc => ∃ (kq : Nat) (x24_1 : Bool),v24 = .bool x24_1 ∧ Aside0 (dossierref08_sign.j0 kq a0 x24_1 = some (r1,r2,r3,r4,r5)) ∧ Aside0 (kq ≤ k) ∧ Aside0 (wc.heap[gb399]? = some (.cells #[.int .i64 0,.string (⟨#[]⟩ : ByteArray),.int .i64 0] 43 (0,0))) ∧ Aside0 (Below w.heap.size w wc))
 case first =>
  have H := HC2.out
  clear HC2
  by_cases c4 : (a0.size : Int) ≥ 2
  · rw [if_pos c4] at H
    have c4b0 : decide (2 ≤ (a0.size : Int)) = true := decide_eq_true c4
    have c4b1 : decide (2 ≤ a0.size) = true := decide_eq_true (by omega)
    clear c4
    (first | rw [c4b0] | (simp only [i64_w,i32_w]; rw [c4b0]) | skip)
    by_cases c5 : 0 ≤ 2
    · rw [if_pos c5] at H
      have c5b0 := eq_true c5
      have c5b1 : decide (0 ≤ 2) = true := decide_eq_true c5
      clear c5
      by_cases c6 : 2 ≤ (a0.size : Int)
      · rw [if_pos c6] at H
        have c6b0 := eq_true c6
        have c6b1 : decide (2 ≤ (a0.size : Int)) = true := decide_eq_true c6
        clear c6
        by_cases c7 : (a0.extract 0 2).toList = ([60,61] : List UInt8)
        · rw [if_pos c7] at H
          have c7b0 : ((a0.extract 0 2).toList == ([60,61] : List UInt8)) = true := beq_iff_eq.mpr c7
          have c7b1 : ((a0.extract 0 2).toList != ([60,61] : List UInt8)) = false := bne_eq_false_iff_eq.mpr c7
          clear c7
          have H' := Aside0.mk H
          clear H
          go_wp2
          go_meet
          case rel => exact ⟨_,(true),(by first | rfl | (simp; done) | (simp [*]; done)),H',⟨by first | omega | exact Nat.le_refl _⟩,⟨by (with_reducible repeat (first | refine blk_bytes ?_ _ _ | refine blk_drewN ?_ _ | refine blk_drew ?_ | refine blk_alloc ?_ _)); exact BK399.out⟩,⟨by repeat (first | (with_reducible first | exact HB.out | apply below_alloc | apply pw_below_drewN | apply below_drew1 | apply bytes_below1 | refine below_set ?_ GE399.out) | exact HB.out)⟩⟩
        · rw [if_neg c7] at H
          have c7b0 : ((a0.extract 0 2).toList == ([60,61] : List UInt8)) = false := beq_eq_false_iff_ne.mpr c7
          have c7b1 : ((a0.extract 0 2).toList != ([60,61] : List UInt8)) = true := bne_iff_ne.mpr c7
          have c8b0 := eq_true (of_decide_eq_true (by first | (with_reducible assumption) | assumption) : 0 ≤ 2)
          have c9b0 := eq_true (of_decide_eq_true (by first | (with_reducible assumption) | assumption) : 2 ≤ (a0.size : Int))
          by_cases c10 : (a0.extract 0 2).toList = ([62,61] : List UInt8)
          · rw [if_pos c10] at H
            have c10b0 : ((a0.extract 0 2).toList == ([62,61] : List UInt8)) = true := beq_iff_eq.mpr c10
            have c10b1 : ((a0.extract 0 2).toList != ([62,61] : List UInt8)) = false := bne_eq_false_iff_eq.mpr c10
            clear c10
            have H' := Aside0.mk H
            clear H
            go_wp2
            go_meet
            case rel => exact ⟨_,(true),(by first | rfl | (simp; done) | (simp [*]; done)),H',⟨by first | omega | exact Nat.le_refl _⟩,⟨by (with_reducible repeat (first | refine blk_bytes ?_ _ _ | refine blk_drewN ?_ _ | refine blk_drew ?_ | refine blk_alloc ?_ _)); exact BK399.out⟩,⟨by repeat (first | (with_reducible first | exact HB.out | apply below_alloc | apply pw_below_drewN | apply below_drew1 | apply bytes_below1 | refine below_set ?_ GE399.out) | exact HB.out)⟩⟩
          · rw [if_neg c10] at H
            have c10b0 : ((a0.extract 0 2).toList == ([62,61] : List UInt8)) = false := beq_eq_false_iff_ne.mpr c10
            have c10b1 : ((a0.extract 0 2).toList != ([62,61] : List UInt8)) = true := bne_iff_ne.mpr c10
            have c11b0 := eq_true (of_decide_eq_true (by first | (with_reducible assumption) | assumption) : 0 ≤ 2)
            have c12b0 := eq_true (of_decide_eq_true (by first | (with_reducible assumption) | assumption) : 2 ≤ (a0.size : Int))
            have H' := Aside0.mk H
            clear H
            go_wp2
            go_meet
            case rel => exact ⟨_,(((a0.extract 0 2).toList == ([33,61] : List UInt8))),(by first | rfl | (simp; done) | (simp [*]; done)),H',⟨by first | omega | exact Nat.le_refl _⟩,⟨by (with_reducible repeat (first | refine blk_bytes ?_ _ _ | refine blk_drewN ?_ _ | refine blk_drew ?_ | refine blk_alloc ?_ _)); exact BK399.out⟩,⟨by repeat (first | (with_reducible first | exact HB.out | apply below_alloc | apply pw_below_drewN | apply below_drew1 | apply bytes_below1 | refine below_set ?_ GE399.out) | exact HB.out)⟩⟩
      · rw [if_neg c6] at H
        exact absurd H (by simp)
    · rw [if_neg c5] at H
      exact absurd H (by simp)
  · rw [if_neg c4] at H
    have c4b0 : decide (2 ≤ (a0.size : Int)) = false := decide_eq_false c4
    have c4b1 : decide (2 ≤ a0.size) = false := decide_eq_false (by omega)
    clear c4
    (first | rw [c4b0] | (simp only [i64_w,i32_w]; rw [c4b0]) | skip)
    have H' := Aside0.mk H
    clear H
    go_wp2
    go_meet
    case rel => exact ⟨_,(false),(by first | rfl | (simp; done) | (simp [*]; done)),H',⟨by first | omega | exact Nat.le_refl _⟩,⟨by (with_reducible repeat (first | refine blk_bytes ?_ _ _ | refine blk_drewN ?_ _ | refine blk_drew ?_ | refine blk_alloc ?_ _)); exact BK399.out⟩,⟨by repeat (first | (with_reducible first | exact HB.out | apply below_alloc | apply pw_below_drewN | apply below_drew1 | apply bytes_below1 | refine below_set ?_ GE399.out) | exact HB.out)⟩⟩
 case rest =>
  clear HC2
  try clear c1
  try clear p2
  try clear c4
  try clear c4b0
  try clear c4b1
  try clear c5
  try clear c5b0
  try clear c5b1
  try clear c6
  try clear c6b0
  try clear c6b1
  try clear c7
  try clear c7b0
  try clear c7b1
  try clear c8
  try clear c8b0
  try clear c9
  try clear c9b0
  try clear c10
  try clear c10b0
  try clear c10b1
  try clear c11
  try clear c11b0
  try clear c12
  try clear c12b0
  obtain ⟨kq,x24_1,rfl,HA,HJ1,BK399,HB⟩ := hcut
  cases kq with
  | zero => exact absurd HA.out (by simp [dossierref08_sign.j0])
  | succ kj1 =>
   have H := HA.out
   clear HA
   simp only [dossierref08_sign.j0] at H
   by_cases c13 : x24_1 = true
   · subst c13
     have H1 : (if 0 ≤ 2 then (if 2 ≤ (a0.size : Int) then (some (4,a0.extract 0 2,0,2,true)) else (none)) else (none)) = some (r1,r2,r3,r4,r5) := by rw [if_pos rfl] at H; exact H
     clear H
     have H := H1
     clear H1
     by_cases c14 : 0 ≤ 2
     · rw [if_pos c14] at H
       have c14b0 := eq_true c14
       have c14b1 : decide (0 ≤ 2) = true := decide_eq_true c14
       clear c14
       by_cases c15 : 2 ≤ (a0.size : Int)
       · rw [if_pos c15] at H
         have c15b0 := eq_true c15
         have c15b1 : decide (2 ≤ (a0.size : Int)) = true := decide_eq_true c15
         clear c15
         simp only [Option.some.injEq,Prod.mk.injEq] at H
         obtain ⟨rfl,rfl,rfl,rfl,rfl⟩ := H
         have hcz16_0 : wc.cell? ⟨gb399,0,none⟩ = some (.int .i64 0) := (blk_cell BK399.out 0).trans rfl
         have hcz16_1 : wc.cell? ⟨gb399,1,none⟩ = some (.string (⟨#[]⟩ : ByteArray)) := (blk_cell BK399.out 1).trans rfl
         have hcz16_2 : wc.cell? ⟨gb399,2,none⟩ = some (.int .i64 0) := (blk_cell BK399.out 2).trans rfl
         have hfz16_0 := blk_frozen BK399.out 0
         have hfz16_1 := blk_frozen BK399.out 1
         have hfz16_2 := blk_frozen BK399.out 2
         go_wp2
         refine bodyPost_ret (results_ctt rfl _ _ gb399 43 #[.int .i64 4,.string (a0.extract 0 2),.int .i64 0] (0,0) _ rfl (by (with_reducible repeat (first | refine blk_bytes ?_ _ _ | refine blk_drewN ?_ _ | refine blk_drew ?_ | refine blk_alloc ?_ _)); refine blk_put (cs := #[.int .i64 4,.string (a0.extract 0 2),.int .i64 0]) ?_ 2 _ rfl; (with_reducible repeat (first | refine blk_bytes ?_ _ _ | refine blk_drewN ?_ _ | refine blk_drew ?_ | refine blk_alloc ?_ _)); refine blk_put (cs := #[.int .i64 4,.string (⟨#[]⟩ : ByteArray),.int .i64 0]) ?_ 1 _ rfl; (with_reducible repeat (first | refine blk_bytes ?_ _ _ | refine blk_drewN ?_ _ | refine blk_drew ?_ | refine blk_alloc ?_ _)); refine blk_put (cs := #[.int .i64 0,.string (⟨#[]⟩ : ByteArray),.int .i64 0]) ?_ 0 _ rfl; (with_reducible repeat (first | refine blk_bytes ?_ _ _ | refine blk_drewN ?_ _ | refine blk_drew ?_ | refine blk_alloc ?_ _)); exact BK399.out) Tryz.underlying43 rfl (by kernel_rfl)) rfl ?_
         exact ⟨by first | rfl | (simp [errW_none,errW_some] <;> rfl) | (simp [*,errW_none,errW_some] <;> rfl),by repeat (first | (with_reducible first | exact HB.out | apply below_alloc | apply pw_below_drewN | apply below_drew1 | apply bytes_below1 | refine below_set ?_ GE399.out) | exact HB.out)⟩
       · rw [if_neg c15] at H
         exact absurd H (by simp)
     · rw [if_neg c14] at H
       exact absurd H (by simp)
   · replace c13 := Bool.eq_false_iff.mpr c13
     subst c13
     have H1 : ((some (([(⟨#[40]⟩ : ByteArray),(⟨#[41]⟩ : ByteArray),(⟨#[46]⟩ : ByteArray),(⟨#[44]⟩ : ByteArray),(⟨#[43]⟩ : ByteArray),(⟨#[45]⟩ : ByteArray),(⟨#[42]⟩ : ByteArray),(⟨#[47]⟩ : ByteArray),(⟨#[37]⟩ : ByteArray),(⟨#[60]⟩ : ByteArray),(⟨#[62]⟩ : ByteArray),(⟨#[61]⟩ : ByteArray)] : List ByteArray) : List ByteArray)).bind fun y400 => (dossierref08_sign.l0 kj1 a0 y400 (y400.length : Int) 0)) = some (r1,r2,r3,r4,r5) := by rw [if_neg (show ¬ (false = true) by decide)] at H; exact H
     clear H
     have H := H1
     clear H1
     obtain ⟨y400,hy400⟩ : ∃ y_ : List ByteArray,y_ = (([(⟨#[40]⟩ : ByteArray),(⟨#[41]⟩ : ByteArray),(⟨#[46]⟩ : ByteArray),(⟨#[44]⟩ : ByteArray),(⟨#[43]⟩ : ByteArray),(⟨#[45]⟩ : ByteArray),(⟨#[42]⟩ : ByteArray),(⟨#[47]⟩ : ByteArray),(⟨#[37]⟩ : ByteArray),(⟨#[60]⟩ : ByteArray),(⟨#[62]⟩ : ByteArray),(⟨#[61]⟩ : ByteArray)] : List ByteArray)) := ⟨_,rfl⟩
     replace H : (dossierref08_sign.l0 kj1 a0 y400 (y400.length : Int) 0) = some (r1,r2,r3,r4,r5) := by first | (rw [hy400]; with_reducible exact H) | (have H2_ := (Option.bind_some _ _).symm.trans H; rw [hy400]; with_reducible exact H2_) | (have H2_ := (Option.bind_some _ _).symm.trans H; with_reducible exact H2_) | with_reducible exact H | (rw [hy400]; exact H) | exact H
     have Ny400 := Aside0.mk hy400
     clear hy400
     have H' := Aside0.mk H
     clear H
     go_wp2_with (first | ((with_reducible refine gate_dst (N := 28) rfl ?_); refine Kd.R_lit Kd.string _ 9 ?hg (N := 28) ?hd (xs := ([(⟨#[40]⟩ : ByteArray),(⟨#[41]⟩ : ByteArray),(⟨#[46]⟩ : ByteArray),(⟨#[44]⟩ : ByteArray),(⟨#[43]⟩ : ByteArray),(⟨#[45]⟩ : ByteArray),(⟨#[42]⟩ : ByteArray),(⟨#[47]⟩ : ByteArray),(⟨#[37]⟩ : ByteArray),(⟨#[60]⟩ : ByteArray),(⟨#[62]⟩ : ByteArray),(⟨#[61]⟩ : ByteArray)] : List ByteArray)) (inner := [.string (⟨#[40]⟩ : ByteArray),.string (⟨#[41]⟩ : ByteArray),.string (⟨#[46]⟩ : ByteArray),.string (⟨#[44]⟩ : ByteArray),.string (⟨#[43]⟩ : ByteArray),.string (⟨#[45]⟩ : ByteArray),.string (⟨#[42]⟩ : ByteArray),.string (⟨#[47]⟩ : ByteArray),.string (⟨#[37]⟩ : ByteArray),.string (⟨#[60]⟩ : ByteArray),.string (⟨#[62]⟩ : ByteArray),.string (⟨#[61]⟩ : ByteArray)]) (ok := fun _ => True) (okp := fun _ => True) ?hr ?hp (fun _ hk => hk) trivial (Below.refl _ _) (Nat.le_refl _) (by simp) ?_; (case hd => rfl); (case hg => rfl); (case hr => first | (go_simp; done) | (go_simp; rfl)); (case hp => exact (Reps.one (show Kd.M Kd.string _ _ _ (⟨#[40]⟩ : ByteArray) [.string (⟨#[40]⟩ : ByteArray)] from rfl) (Reps.one (show Kd.M Kd.string _ _ _ (⟨#[41]⟩ : ByteArray) [.string (⟨#[41]⟩ : ByteArray)] from rfl) (Reps.one (show Kd.M Kd.string _ _ _ (⟨#[46]⟩ : ByteArray) [.string (⟨#[46]⟩ : ByteArray)] from rfl) (Reps.one (show Kd.M Kd.string _ _ _ (⟨#[44]⟩ : ByteArray) [.string (⟨#[44]⟩ : ByteArray)] from rfl) (Reps.one (show Kd.M Kd.string _ _ _ (⟨#[43]⟩ : ByteArray) [.string (⟨#[43]⟩ : ByteArray)] from rfl) (Reps.one (show Kd.M Kd.string _ _ _ (⟨#[45]⟩ : ByteArray) [.string (⟨#[45]⟩ : ByteArray)] from rfl) (Reps.one (show Kd.M Kd.string _ _ _ (⟨#[42]⟩ : ByteArray) [.string (⟨#[42]⟩ : ByteArray)] from rfl) (Reps.one (show Kd.M Kd.string _ _ _ (⟨#[47]⟩ : ByteArray) [.string (⟨#[47]⟩ : ByteArray)] from rfl) (Reps.one (show Kd.M Kd.string _ _ _ (⟨#[37]⟩ : ByteArray) [.string (⟨#[37]⟩ : ByteArray)] from rfl) (Reps.one (show Kd.M Kd.string _ _ _ (⟨#[60]⟩ : ByteArray) [.string (⟨#[60]⟩ : ByteArray)] from rfl) (Reps.one (show Kd.M Kd.string _ _ _ (⟨#[62]⟩ : ByteArray) [.string (⟨#[62]⟩ : ByteArray)] from rfl) (Reps.one (show Kd.M Kd.string _ _ _ (⟨#[61]⟩ : ByteArray) [.string (⟨#[61]⟩ : ByteArray)] from rfl) (Reps.none _ _)))))))))))))); intro v401 w17 ho18 hb hg_ hnew_; clear hg_ hnew_; (first | rw [← Ny400.out] at ho18 | (simp only [Int.reduceToNat] at ho18; rw [← Ny400.out] at ho18)); have n0_ := Aside0.mk (Kd.R_lower ho18 (below_size (by repeat (first | (with_reducible first | exact HB.out | apply below_alloc | apply pw_below_drewN | apply below_drew1 | apply bytes_below1 | refine below_set ?_ GE399.out) | exact HB.out)))); have n1_ := Aside0.mk (blk_below (g := gb399) (o := .cells #[.int .i64 0,.string (⟨#[]⟩ : ByteArray),.int .i64 0] 43 (0,0)) (by (with_reducible repeat (first | refine blk_bytes ?_ _ _ | refine blk_drewN ?_ _ | refine blk_drew ?_ | refine blk_alloc ?_ _)); exact BK399.out) hb); have n2_ := Aside0.mk (below_step (by repeat (first | (with_reducible first | exact HB.out | apply below_alloc | apply pw_below_drewN | apply below_drew1 | apply bytes_below1 | refine below_set ?_ GE399.out) | exact HB.out)) hb); clear BK399; clear HB; have HO402 := n0_; have BK399 := n1_; have HB := n2_; clear n0_ n1_ n2_; clear hb ho18; obtain ⟨Ao19,co19,eo19⟩ := Kd.R_slice HO402.out; subst eo19))
     go_loopg [30] kj1 (fun kq v30 w' => ∃ (x30_2 : Int) (x400000_2 : Int) (x400001_2 : ByteArray) (x400002_2 : Int),v30 = .int .i64 x30_2 ∧ Aside0 (dossierref08_sign.l0 kq a0 y400 (y400.length : Int) x30_2 = some (r1,r2,r3,r4,r5)) ∧ Aside0 (kq ≤ kj1) ∧ Aside0 (Kd.R Kd.string 9 w' w.heap.size (fun _ => True) (.slice Ao19 y400.length co19) y400) ∧ Aside0 (w'.heap[gb399]? = some (.cells #[.int .i64 x400000_2,.string x400001_2,.int .i64 x400002_2] 43 (0,0))) ∧ Aside0 (Below w.heap.size w w'))
     case atStart => exact ⟨(0),(0),((⟨#[]⟩ : ByteArray)),(0),(by first | rfl | (simp; done) | (simp [*]; done)),H',⟨Nat.le_refl _⟩,⟨by (with_reducible repeat (first | apply Kd.R_alloc | apply R_bytes | apply Kd.R_drewN | apply Kd.R_drew)); exact HO402.out⟩,⟨by (with_reducible repeat (first | refine blk_bytes ?_ _ _ | refine blk_drewN ?_ _ | refine blk_drew ?_ | refine blk_alloc ?_ _)); exact BK399.out⟩,⟨by repeat (first | (with_reducible first | exact HB.out | apply below_alloc | apply pw_below_drewN | apply below_drew1 | apply bytes_below1 | refine below_set ?_ GE399.out) | exact HB.out)⟩⟩
     case round =>
      clear H'
      try clear c1
      try clear p2
      try clear c4
      try clear c4b0
      try clear c4b1
      try clear c5
      try clear c5b0
      try clear c5b1
      try clear c6
      try clear c6b0
      try clear c6b1
      try clear c7
      try clear c7b0
      try clear c7b1
      try clear c8
      try clear c8b0
      try clear c9
      try clear c9b0
      try clear c10
      try clear c10b0
      try clear c10b1
      try clear c11
      try clear c11b0
      try clear c12
      try clear c12b0
      try clear c13
      try clear c14
      try clear c14b0
      try clear c14b1
      try clear c15
      try clear c15b0
      try clear c15b1
      try clear hcz16_0
      try clear hcz16_1
      try clear hcz16_2
      try clear hfz16_0
      try clear hfz16_1
      try clear hfz16_2
      try clear p2
      obtain ⟨x30_2,x400000_2,x400001_2,x400002_2,rfl,HA,HK2,HO_28,BK399,HB⟩ := hrel
      cases gk with
      | zero => exact absurd HA.out (by simp [dossierref08_sign.l0])
      | succ k2 =>
       have H := HA.out
       clear HA
       simp only [dossierref08_sign.l0] at H
       by_cases c20 : x30_2 < (y400.length : Int)
       · rw [if_pos c20] at H
         have c20b0 : decide (x30_2 < (y400.length : Int)) = true := decide_eq_true c20
         clear c20
         by_cases c21 : 0 ≤ x30_2
         · rw [if_pos c21] at H
           have c21b0 : decide (0 ≤ x30_2) = true := decide_eq_true c21
           clear c21
           by_cases c22 : x30_2 < (y400.length : Int)
           · rw [if_pos c22] at H
             have c22b0 : decide (x30_2 < (y400.length : Int)) = true := decide_eq_true c22
             clear c22
             by_cases c23 : 0 ≤ 1
             · rw [if_pos c23] at H
               have c23b0 := eq_true c23
               have c23b1 : decide (0 ≤ 1) = true := decide_eq_true c23
               clear c23
               by_cases c24 : 1 ≤ (a0.size : Int)
               · rw [if_pos c24] at H
                 have c24b0 := eq_true c24
                 have c24b1 : decide (1 ≤ (a0.size : Int)) = true := decide_eq_true c24
                 clear c24
                 by_cases c25 : (a0.extract 0 1).toList = (rdOf ByteArray.empty y400 x30_2).toList
                 · rw [if_pos c25] at H
                   have c25b0 : ((a0.extract 0 1).toList == (rdOf ByteArray.empty y400 x30_2).toList) = true := beq_iff_eq.mpr c25
                   have c25b1 : ((a0.extract 0 1).toList != (rdOf ByteArray.empty y400 x30_2).toList) = false := bne_eq_false_iff_eq.mpr c25
                   clear c25
                   simp only [Option.some.injEq,Prod.mk.injEq] at H
                   obtain ⟨rfl,rfl,rfl,rfl,rfl⟩ := H
                   have p403 : 0 ≤ (x30_2 : Int) := of_decide_eq_true (by first | (with_reducible assumption) | assumption)
                   have q403 : x30_2 < (y400.length : Int) := of_decide_eq_true (by first | (with_reducible assumption) | assumption)
                   obtain ⟨ad403,e403,hx403_0⟩ := Kd.at_string (Kd.R_reads' HO_28.out).2.2 x30_2 p403 q403
                   cases e403
                   replace p403 := eq_true p403
                   replace q403 := eq_true q403
                   have hcz26_0 : wr.cell? ⟨gb399,0,none⟩ = some (.int .i64 x400000_2) := (blk_cell BK399.out 0).trans rfl
                   have hcz26_1 : wr.cell? ⟨gb399,1,none⟩ = some (.string x400001_2) := (blk_cell BK399.out 1).trans rfl
                   have hcz26_2 : wr.cell? ⟨gb399,2,none⟩ = some (.int .i64 x400002_2) := (blk_cell BK399.out 2).trans rfl
                   have hfz26_0 := blk_frozen BK399.out 0
                   have hfz26_1 := blk_frozen BK399.out 1
                   have hfz26_2 := blk_frozen BK399.out 2
                   go_wp2
                   refine bodyPost_ret (results_ctt rfl _ _ gb399 43 #[.int .i64 4,.string (rdOf ByteArray.empty y400 x30_2),.int .i64 0] (0,0) _ rfl (by (with_reducible repeat (first | refine blk_bytes ?_ _ _ | refine blk_drewN ?_ _ | refine blk_drew ?_ | refine blk_alloc ?_ _)); refine blk_put (cs := #[.int .i64 4,.string (rdOf ByteArray.empty y400 x30_2),.int .i64 x400002_2]) ?_ 2 _ rfl; (with_reducible repeat (first | refine blk_bytes ?_ _ _ | refine blk_drewN ?_ _ | refine blk_drew ?_ | refine blk_alloc ?_ _)); refine blk_put (cs := #[.int .i64 4,.string x400001_2,.int .i64 x400002_2]) ?_ 1 _ rfl; (with_reducible repeat (first | refine blk_bytes ?_ _ _ | refine blk_drewN ?_ _ | refine blk_drew ?_ | refine blk_alloc ?_ _)); refine blk_put (cs := #[.int .i64 x400000_2,.string x400001_2,.int .i64 x400002_2]) ?_ 0 _ rfl; (with_reducible repeat (first | refine blk_bytes ?_ _ _ | refine blk_drewN ?_ _ | refine blk_drew ?_ | refine blk_alloc ?_ _)); exact BK399.out) Tryz.underlying43 rfl (by kernel_rfl)) rfl ?_
                   exact ⟨by first | rfl | (simp [errW_none,errW_some] <;> rfl) | (simp [*,errW_none,errW_some] <;> rfl),by repeat (first | (with_reducible first | exact HB.out | apply below_alloc | apply pw_below_drewN | apply below_drew1 | apply bytes_below1 | refine below_set ?_ GE399.out) | exact HB.out)⟩
                 · rw [if_neg c25] at H
                   have c25b0 : ((a0.extract 0 1).toList == (rdOf ByteArray.empty y400 x30_2).toList) = false := beq_eq_false_iff_ne.mpr c25
                   have c25b1 : ((a0.extract 0 1).toList != (rdOf ByteArray.empty y400 x30_2).toList) = true := bne_iff_ne.mpr c25
                   have H' := Aside0.mk H
                   clear H
                   have p403 : 0 ≤ (x30_2 : Int) := of_decide_eq_true (by first | (with_reducible assumption) | assumption)
                   have q403 : x30_2 < (y400.length : Int) := of_decide_eq_true (by first | (with_reducible assumption) | assumption)
                   obtain ⟨ad403,e403,hx403_0⟩ := Kd.at_string (Kd.R_reads' HO_28.out).2.2 x30_2 p403 q403
                   cases e403
                   replace p403 := eq_true p403
                   replace q403 := eq_true q403
                   go_wp2
                   go_roundg k2
                   case measure => have := HJ1.out; have := HK2.out; omega
                   case rel => exact ⟨(wrap64 (x30_2 + 1)),(x400000_2),(x400001_2),(x400002_2),(by first | rfl | (simp; done) | (simp [*]; done)),H',⟨by have := HJ1.out; have := HK2.out; omega⟩,⟨by (with_reducible repeat (first | apply Kd.R_alloc | apply R_bytes | apply Kd.R_drewN | apply Kd.R_drew)); exact HO_28.out⟩,⟨by (with_reducible repeat (first | refine blk_bytes ?_ _ _ | refine blk_drewN ?_ _ | refine blk_drew ?_ | refine blk_alloc ?_ _)); exact BK399.out⟩,⟨by repeat (first | (with_reducible first | exact HB.out | apply below_alloc | apply pw_below_drewN | apply below_drew1 | apply bytes_below1 | refine below_set ?_ GE399.out) | exact HB.out)⟩⟩
               · rw [if_neg c24] at H
                 exact absurd H (by simp)
             · rw [if_neg c23] at H
               exact absurd H (by simp)
           · rw [if_neg c22] at H
             exact absurd H (by simp)
         · rw [if_neg c21] at H
           exact absurd H (by simp)
       · rw [if_neg c20] at H
         have c20b0 : decide (x30_2 < (y400.length : Int)) = false := decide_eq_false c20
         clear c20
         simp only [Option.some.injEq,Prod.mk.injEq] at H
         obtain ⟨rfl,rfl,rfl,rfl,rfl⟩ := H
         have hcz27_0 : wr.cell? ⟨gb399,0,none⟩ = some (.int .i64 x400000_2) := (blk_cell BK399.out 0).trans rfl
         have hcz27_1 : wr.cell? ⟨gb399,1,none⟩ = some (.string x400001_2) := (blk_cell BK399.out 1).trans rfl
         have hcz27_2 : wr.cell? ⟨gb399,2,none⟩ = some (.int .i64 x400002_2) := (blk_cell BK399.out 2).trans rfl
         have hfz27_0 := blk_frozen BK399.out 0
         have hfz27_1 := blk_frozen BK399.out 1
         have hfz27_2 := blk_frozen BK399.out 2
         go_wp2
         refine bodyPost_ret (results_ctt rfl _ _ gb399 43 #[.int .i64 0,.string (⟨#[]⟩ : ByteArray),.int .i64 0] (0,0) _ rfl (by (with_reducible repeat (first | refine blk_bytes ?_ _ _ | refine blk_drewN ?_ _ | refine blk_drew ?_ | refine blk_alloc ?_ _)); refine blk_put (cs := #[.int .i64 0,.string (⟨#[]⟩ : ByteArray),.int .i64 x400002_2]) ?_ 2 _ rfl; (with_reducible repeat (first | refine blk_bytes ?_ _ _ | refine blk_drewN ?_ _ | refine blk_drew ?_ | refine blk_alloc ?_ _)); refine blk_put (cs := #[.int .i64 0,.string x400001_2,.int .i64 x400002_2]) ?_ 1 _ rfl; (with_reducible repeat (first | refine blk_bytes ?_ _ _ | refine blk_drewN ?_ _ | refine blk_drew ?_ | refine blk_alloc ?_ _)); refine blk_put (cs := #[.int .i64 x400000_2,.string x400001_2,.int .i64 x400002_2]) ?_ 0 _ rfl; (with_reducible repeat (first | refine blk_bytes ?_ _ _ | refine blk_drewN ?_ _ | refine blk_drew ?_ | refine blk_alloc ?_ _)); exact BK399.out) Tryz.underlying43 rfl (by kernel_rfl)) rfl ?_
         exact ⟨by first | rfl | (simp [errW_none,errW_some] <;> rfl) | (simp [*,errW_none,errW_some] <;> rfl),by repeat (first | (with_reducible first | exact HB.out | apply below_alloc | apply pw_below_drewN | apply below_drew1 | apply bytes_below1 | refine below_set ?_ GE399.out) | exact HB.out)⟩
end
end Go.Proofs.YtifgpigicgaadaaGreatDoor.Q
end
