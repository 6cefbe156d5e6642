/- Several texts in one, in their order. -/
import Derived.Test.YtifgpigicgaadaaGreatDoorBValueMakes2
import Derived.Test.YtifgpigicgaadaaGreatDoorBValueMakes4
import Derived.Test.YtifgpigicgaadaaGreatDoorBValueMakes5
import Derived.Test.YtifgpigicgaadaaGreatDoorBValueMakes6
import Derived.Test.YtifgpigicgaadaaGreatDoorBValueMakes7
section
namespace Go.Proofs.YtifgpigicgaadaaGreatDoor.Q
open Go.RowKit Go.Proofs.YtifgpigicgaadaaGreatDoorH Go.Proofs.YtifgpigicgaadaaGreatDoorW.PrintWords Go.Proofs.YtifgpigicgaadaaGreatDoorW.PrintLast Go.Proofs.YtifgpigicgaadaaGreatDoorW.PrintMore
attribute [local go_sem] max2_int min2_int max_two min_two max_three min_three max_four min_four
set_option linter.unusedVariables false
set_option linter.unusedSimpArgs false
section
/-! ### value_product_1: function 100 -/
def value_product_1.f (a0 : Int) : Option (Int) := if a0 < 0 then (some (IntKind.u64.wrap (-(IntKind.u64.wrap (a0))))) else (some (IntKind.u64.wrap (a0)))
set_option maxHeartbeats 8000000 in
set_option maxRecDepth 100000 in
theorem value_product_1.calls (a0 : Int) (r : Int) (w : World) (h : value_product_1.f a0 = some r) :
 Calls Tryz.prog 100 #[.int .i64 a0] w fun e w' => e = .returned (.int .u64 r) ∧ Drawn0 w w' := by
 have H : (if a0 < 0 then (some (IntKind.u64.wrap (-(IntKind.u64.wrap (a0))))) else (some (IntKind.u64.wrap (a0)))) = some r := h
 clear h
 by_cases c2 : a0 < 0
 · rw [if_pos c2] at H
   have c2b0 : decide (a0 < 0) = true := decide_eq_true c2
   clear c2
   obtain rfl := Option.some.inj H
   go_enter Tryz.func100,Tryz.ntmps100
   go_wp2
   go_ret
   exact ⟨by first | rfl | (simp; done) | (simp [*]; done),by repeat (first | exact Drawn0.refl _ | apply Drawn0.step)⟩
 · rw [if_neg c2] at H
   have c2b0 : decide (a0 < 0) = false := decide_eq_false c2
   clear c2
   obtain rfl := Option.some.inj H
   go_enter Tryz.func100,Tryz.ntmps100
   go_wp2
   go_ret
   exact ⟨by first | rfl | (simp; done) | (simp [*]; done),by repeat (first | exact Drawn0.refl _ | apply Drawn0.step)⟩
end
section
/-! ### bits_Mul64: function 101 -/
/-- The two halves of a product, of two unsigned integers (nothing at other ones). -/
def bits_Mul64.f (a0 : Int) (a1 : Int) : Option (Int × Int) := if 0 ≤ a0 ∧ a0 < 18446744073709551616 ∧ 0 ≤ a1 ∧ a1 < 18446744073709551616 then some (a0 * a1 / 18446744073709551616,a0 * a1 % 18446744073709551616) else none
theorem bits_Mul64.calls (a0 : Int) (a1 : Int) (r1 : Int) (r2 : Int) (w : World) (h : bits_Mul64.f a0 a1 = some (r1,r2)) :
 Calls Tryz.prog 101 #[.int .u64 a0,.int .u64 a1] w fun e w' => e = .returned (.tuple #[.int .u64 r1,.int .u64 r2]) ∧ Drawn0 w w' := by
 unfold bits_Mul64.f at h
 by_cases hc : 0 ≤ a0 ∧ a0 < 18446744073709551616 ∧ 0 ≤ a1 ∧ a1 < 18446744073709551616
 · rw [if_pos hc] at h
   obtain ⟨rfl,rfl⟩ := Prod.mk.inj (Option.some.inj h)
   obtain ⟨x,rfl⟩ := Int.eq_ofNat_of_zero_le hc.1
   obtain ⟨y,rfl⟩ := Int.eq_ofNat_of_zero_le hc.2.2.1
   have C := Any.bits_Mul64 Tryz.layMul64 x y (by omega) (by omega) w
   refine C.mono fun e w' ⟨h1,h2⟩ => ⟨?_,h2 ▸ Drawn0.refl _⟩
   rw [h1]
   simp only [Int.natCast_ediv,Int.natCast_emod,Int.natCast_mul]
   rfl
 · rw [if_neg hc] at h; cases h
end
section
/-! ### value_product: function 83 -/
def value_product.f (a0 : Int) (a1 : Int) : Option (Int × Bool) := (value_product_1.f a0).bind fun t277 => ((value_product_1.f a1).bind fun t278 => ((bits_Mul64.f t277 t278).bind fun bt279 => (if ((decide (a0 < 0)) != (decide (a1 < 0))) = true then (if bt279.1 = 0 then (some (wrap64 (a0 * a1),decide (bt279.2 ≤ (9223372036854775807 + 1)))) else (some (wrap64 (a0 * a1),false))) else (if bt279.1 = 0 then (some (wrap64 (a0 * a1),decide (bt279.2 ≤ 9223372036854775807))) else (some (wrap64 (a0 * a1),false))))))
set_option maxHeartbeats 8000000 in
set_option maxRecDepth 100000 in
theorem value_product.calls (a0 : Int) (a1 : Int) (r1 : Int) (r2 : Bool) (w : World) (h : value_product.f a0 a1 = some (r1,r2)) :
 Calls Tryz.prog 83 #[.int .i64 a0,.int .i64 a1] w fun e w' => e = .returned (.tuple #[.int .i64 r1,.bool r2]) ∧ Drawn0 w w' := by
 have H : ((value_product_1.f a0).bind fun t277 => ((value_product_1.f a1).bind fun t278 => ((bits_Mul64.f t277 t278).bind fun bt279 => (if ((decide (a0 < 0)) != (decide (a1 < 0))) = true then (if bt279.1 = 0 then (some (wrap64 (a0 * a1),decide (bt279.2 ≤ (9223372036854775807 + 1)))) else (some (wrap64 (a0 * a1),false))) else (if bt279.1 = 0 then (some (wrap64 (a0 * a1),decide (bt279.2 ≤ 9223372036854775807))) else (some (wrap64 (a0 * a1),false))))))) = some (r1,r2) := h
 clear h
 replace H := Option.bind_eq_some_iff.mp H
 obtain ⟨t277,A30,H⟩ := H
 replace H : ((value_product_1.f a1).bind fun t278 => ((bits_Mul64.f t277 t278).bind fun bt279 => (if ((decide (a0 < 0)) != (decide (a1 < 0))) = true then (if bt279.1 = 0 then (some (wrap64 (a0 * a1),decide (bt279.2 ≤ (9223372036854775807 + 1)))) else (some (wrap64 (a0 * a1),false))) else (if bt279.1 = 0 then (some (wrap64 (a0 * a1),decide (bt279.2 ≤ 9223372036854775807))) else (some (wrap64 (a0 * a1),false)))))) = some (r1,r2) := H
 have A3 := Aside0.mk A30
 clear A30
 replace H := Option.bind_eq_some_iff.mp H
 obtain ⟨t278,A40,H⟩ := H
 replace H : ((bits_Mul64.f t277 t278).bind fun bt279 => (if ((decide (a0 < 0)) != (decide (a1 < 0))) = true then (if bt279.1 = 0 then (some (wrap64 (a0 * a1),decide (bt279.2 ≤ (9223372036854775807 + 1)))) else (some (wrap64 (a0 * a1),false))) else (if bt279.1 = 0 then (some (wrap64 (a0 * a1),decide (bt279.2 ≤ 9223372036854775807))) else (some (wrap64 (a0 * a1),false))))) = some (r1,r2) := H
 have A4 := Aside0.mk A40
 clear A40
 replace H := Option.bind_eq_some_iff.mp H
 obtain ⟨⟨t279,t280⟩,A50,H⟩ := H
 replace H : (if ((decide (a0 < 0)) != (decide (a1 < 0))) = true then (if t279 = 0 then (some (wrap64 (a0 * a1),decide (t280 ≤ (9223372036854775807 + 1)))) else (some (wrap64 (a0 * a1),false))) else (if t279 = 0 then (some (wrap64 (a0 * a1),decide (t280 ≤ 9223372036854775807))) else (some (wrap64 (a0 * a1),false)))) = some (r1,r2) := H
 have A5 := Aside0.mk A50
 clear A50
 by_cases c6 : ((decide (a0 < 0)) != (decide (a1 < 0))) = true
 · rw [if_pos c6] at H
   have c6b0 : ((decide (a0 < 0)) != (decide (a1 < 0))) = true := c6
   (try (have c6b1 : decide ((decide (a0 < 0)) = (decide (a1 < 0))) = false := by simpa using c6))
   (try (have c6b2 : ((decide (a0 < 0)) == (decide (a1 < 0))) = false := by simpa using c6))
   (try (have c6b3 : ¬ ((decide (a0 < 0)) = (decide (a1 < 0))) := by simpa using c6))
   clear c6
   by_cases c7 : t279 = 0
   · rw [if_pos c7] at H
     have c7b0 : (t279 == 0) = true := beq_iff_eq.mpr c7
     have c7b1 : (t279 != 0) = false := bne_eq_false_iff_eq.mpr c7
     clear c7
     simp only [Option.some.injEq,Prod.mk.injEq] at H
     obtain ⟨rfl,rfl⟩ := H
     go_enter Tryz.func83,Tryz.ntmps83
     go_wp2_with (first | (go_at_call 100; (with_reducible refine (value_product_1.calls a0 t277 _ A3.out).mono ?_); rintro e w' ⟨rfl,⟨nd,rfl⟩⟩) | (go_at_call 100; (with_reducible refine (value_product_1.calls a1 t278 _ A4.out).mono ?_); rintro e w' ⟨rfl,⟨nd,rfl⟩⟩) | ((with_reducible refine gate_callee (f := 101) rfl ?_); refine goesL_ (some 17) rfl rfl Tryz.func101 (by kernel_rfl) rfl #[.int .u64 t277,.int .u64 t278] rfl (by (try simp only [List.map_toArray,List.map_cons,List.map_nil]); first | done | rfl | (simp only [List.length_drop,List.length_take]; rfl)) ?_; (with_reducible refine (bits_Mul64.calls t277 t278 t279 t280 _ A5.out).mono ?_); rintro e w' ⟨rfl,⟨nd,rfl⟩⟩; refine ⟨_,rfl,?_⟩))
     go_ret2
     exact ⟨by first | rfl | (simp; done) | (simp [*]; done),by repeat (first | exact Drawn0.refl _ | apply Drawn0.step)⟩
   · rw [if_neg c7] at H
     have c7b0 : (t279 == 0) = false := beq_eq_false_iff_ne.mpr c7
     have c7b1 : (t279 != 0) = true := bne_iff_ne.mpr c7
     simp only [Option.some.injEq,Prod.mk.injEq] at H
     obtain ⟨rfl,rfl⟩ := H
     go_enter Tryz.func83,Tryz.ntmps83
     go_wp2_with (first | (go_at_call 100; (with_reducible refine (value_product_1.calls a0 t277 _ A3.out).mono ?_); rintro e w' ⟨rfl,⟨nd,rfl⟩⟩) | (go_at_call 100; (with_reducible refine (value_product_1.calls a1 t278 _ A4.out).mono ?_); rintro e w' ⟨rfl,⟨nd,rfl⟩⟩) | ((with_reducible refine gate_callee (f := 101) rfl ?_); refine goesL_ (some 17) rfl rfl Tryz.func101 (by kernel_rfl) rfl #[.int .u64 t277,.int .u64 t278] rfl (by (try simp only [List.map_toArray,List.map_cons,List.map_nil]); first | done | rfl | (simp only [List.length_drop,List.length_take]; rfl)) ?_; (with_reducible refine (bits_Mul64.calls t277 t278 t279 t280 _ A5.out).mono ?_); rintro e w' ⟨rfl,⟨nd,rfl⟩⟩; refine ⟨_,rfl,?_⟩))
     go_ret2
     exact ⟨by first | rfl | (simp; done) | (simp [*]; done),by repeat (first | exact Drawn0.refl _ | apply Drawn0.step)⟩
 · rw [if_neg c6] at H
   have c6b0 : ((decide (a0 < 0)) != (decide (a1 < 0))) = false := by simpa using c6
   (try (have c6b1 : decide ((decide (a0 < 0)) = (decide (a1 < 0))) = true := by simpa using c6))
   (try (have c6b2 : ((decide (a0 < 0)) == (decide (a1 < 0))) = true := by simpa using c6))
   clear c6
   by_cases c8 : t279 = 0
   · rw [if_pos c8] at H
     have c8b0 : (t279 == 0) = true := beq_iff_eq.mpr c8
     have c8b1 : (t279 != 0) = false := bne_eq_false_iff_eq.mpr c8
     clear c8
     simp only [Option.some.injEq,Prod.mk.injEq] at H
     obtain ⟨rfl,rfl⟩ := H
     go_enter Tryz.func83,Tryz.ntmps83
     go_wp2_with (first | (go_at_call 100; (with_reducible refine (value_product_1.calls a0 t277 _ A3.out).mono ?_); rintro e w' ⟨rfl,⟨nd,rfl⟩⟩) | (go_at_call 100; (with_reducible refine (value_product_1.calls a1 t278 _ A4.out).mono ?_); rintro e w' ⟨rfl,⟨nd,rfl⟩⟩) | ((with_reducible refine gate_callee (f := 101) rfl ?_); refine goesL_ (some 17) rfl rfl Tryz.func101 (by kernel_rfl) rfl #[.int .u64 t277,.int .u64 t278] rfl (by (try simp only [List.map_toArray,List.map_cons,List.map_nil]); first | done | rfl | (simp only [List.length_drop,List.length_take]; rfl)) ?_; (with_reducible refine (bits_Mul64.calls t277 t278 t279 t280 _ A5.out).mono ?_); rintro e w' ⟨rfl,⟨nd,rfl⟩⟩; refine ⟨_,rfl,?_⟩))
     go_ret2
     exact ⟨by first | rfl | (simp; done) | (simp [*]; done),by repeat (first | exact Drawn0.refl _ | apply Drawn0.step)⟩
   · rw [if_neg c8] at H
     have c8b0 : (t279 == 0) = false := beq_eq_false_iff_ne.mpr c8
     have c8b1 : (t279 != 0) = true := bne_iff_ne.mpr c8
     simp only [Option.some.injEq,Prod.mk.injEq] at H
     obtain ⟨rfl,rfl⟩ := H
     go_enter Tryz.func83,Tryz.ntmps83
     go_wp2_with (first | (go_at_call 100; (with_reducible refine (value_product_1.calls a0 t277 _ A3.out).mono ?_); rintro e w' ⟨rfl,⟨nd,rfl⟩⟩) | (go_at_call 100; (with_reducible refine (value_product_1.calls a1 t278 _ A4.out).mono ?_); rintro e w' ⟨rfl,⟨nd,rfl⟩⟩) | ((with_reducible refine gate_callee (f := 101) rfl ?_); refine goesL_ (some 17) rfl rfl Tryz.func101 (by kernel_rfl) rfl #[.int .u64 t277,.int .u64 t278] rfl (by (try simp only [List.map_toArray,List.map_cons,List.map_nil]); first | done | rfl | (simp only [List.length_drop,List.length_take]; rfl)) ?_; (with_reducible refine (bits_Mul64.calls t277 t278 t279 t280 _ A5.out).mono ?_); rintro e w' ⟨rfl,⟨nd,rfl⟩⟩; refine ⟨_,rfl,?_⟩))
     go_ret2
     exact ⟨by first | rfl | (simp; done) | (simp [*]; done),by repeat (first | exact Drawn0.refl _ | apply Drawn0.step)⟩
end
section
/-! ### value_reckon: function 54 -/
def value_reckon.j0 : Nat → Int → Int → Int → Bool → Option (Int × Bool)
 | 0,_,_,_,_ => none
 | k + 1,x0,x1,x2,x55 => if x55 = true then (some (wrap64 (-x1),(x1 != (-9223372036854775808)))) else (if x2 = (-1) then (some (0,true)) else (if x0 = 8 then (if x2 = 0 then (none) else (some (wrap64 (Int.tdiv x1 x2),true))) else (if x2 = 0 then (none) else (some (Int.tmod x1 x2,true)))))
def value_reckon.f (k : Nat) (a0 : Int) (a1 : Int) (a2 : Int) : Option (Int × Bool) := if a0 = 6 then (some (wrap64 (-a1),(a1 != (-9223372036854775808)))) else (if a0 = 10 then (some (wrap64 (a1 + a2),decide ((Go.bits .and .i64 (Go.bits .xor .i64 a1 (wrap64 (a1 + a2))) (Go.bits .xor .i64 a2 (wrap64 (a1 + a2)))) ≥ 0))) else (if a0 = 11 then (some (wrap64 (a1 - a2),decide ((Go.bits .and .i64 (Go.bits .xor .i64 a1 a2) (Go.bits .xor .i64 a1 (wrap64 (a1 - a2)))) ≥ 0))) else (if a0 = 7 then ((value_product.f a1 a2).bind fun bt281 => (some (bt281.1,bt281.2))) else (if a2 = 0 then (some (0,false)) else (if a2 = (-1) then (value_reckon.j0 k a0 a1 a2 (a0 == 8)) else (value_reckon.j0 k a0 a1 a2 false))))))
set_option maxHeartbeats 8000000 in
set_option maxRecDepth 100000 in
theorem value_reckon.calls (k : Nat) (a0 : Int) (a1 : Int) (a2 : Int) (r1 : Int) (r2 : Bool) (w : World) (h : value_reckon.f k a0 a1 a2 = some (r1,r2)) :
 Calls Tryz.prog 54 #[.int .i64 a0,.int .i64 a1,.int .i64 a2] w fun e w' => e = .returned (.tuple #[.int .i64 r1,.bool r2]) ∧ Drawn0 w w' := by
 have H : (if a0 = 6 then (some (wrap64 (-a1),(a1 != (-9223372036854775808)))) else (if a0 = 10 then (some (wrap64 (a1 + a2),decide ((Go.bits .and .i64 (Go.bits .xor .i64 a1 (wrap64 (a1 + a2))) (Go.bits .xor .i64 a2 (wrap64 (a1 + a2)))) ≥ 0))) else (if a0 = 11 then (some (wrap64 (a1 - a2),decide ((Go.bits .and .i64 (Go.bits .xor .i64 a1 a2) (Go.bits .xor .i64 a1 (wrap64 (a1 - a2)))) ≥ 0))) else (if a0 = 7 then ((value_product.f a1 a2).bind fun bt281 => (some (bt281.1,bt281.2))) else (if a2 = 0 then (some (0,false)) else (if a2 = (-1) then (value_reckon.j0 k a0 a1 a2 (a0 == 8)) else (value_reckon.j0 k a0 a1 a2 false))))))) = some (r1,r2) := h
 clear h
 by_cases c4 : a0 = 6
 · rw [if_pos c4] at H
   have c4b0 : (a0 == 6) = true := beq_iff_eq.mpr c4
   have c4b1 : (a0 != 6) = false := bne_eq_false_iff_eq.mpr c4
   clear c4
   simp only [Option.some.injEq,Prod.mk.injEq] at H
   obtain ⟨rfl,rfl⟩ := H
   go_enter Tryz.func54,Tryz.ntmps54
   go_wp2
   go_ret2
   exact ⟨by first | rfl | (simp; done) | (simp [*]; done),by repeat (first | exact Drawn0.refl _ | apply Drawn0.step)⟩
 · rw [if_neg c4] at H
   have c4b0 : (a0 == 6) = false := beq_eq_false_iff_ne.mpr c4
   have c4b1 : (a0 != 6) = true := bne_iff_ne.mpr c4
   by_cases c5 : a0 = 10
   · rw [if_pos c5] at H
     have c5b0 : (a0 == 10) = true := beq_iff_eq.mpr c5
     have c5b1 : (a0 != 10) = false := bne_eq_false_iff_eq.mpr c5
     clear c5
     simp only [Option.some.injEq,Prod.mk.injEq] at H
     obtain ⟨rfl,rfl⟩ := H
     go_enter Tryz.func54,Tryz.ntmps54
     go_wp2
     go_ret2
     exact ⟨by first | rfl | (simp; done) | (simp [*]; done),by repeat (first | exact Drawn0.refl _ | apply Drawn0.step)⟩
   · rw [if_neg c5] at H
     have c5b0 : (a0 == 10) = false := beq_eq_false_iff_ne.mpr c5
     have c5b1 : (a0 != 10) = true := bne_iff_ne.mpr c5
     by_cases c6 : a0 = 11
     · rw [if_pos c6] at H
       have c6b0 : (a0 == 11) = true := beq_iff_eq.mpr c6
       have c6b1 : (a0 != 11) = false := bne_eq_false_iff_eq.mpr c6
       clear c6
       simp only [Option.some.injEq,Prod.mk.injEq] at H
       obtain ⟨rfl,rfl⟩ := H
       go_enter Tryz.func54,Tryz.ntmps54
       go_wp2
       go_ret2
       exact ⟨by first | rfl | (simp; done) | (simp [*]; done),by repeat (first | exact Drawn0.refl _ | apply Drawn0.step)⟩
     · rw [if_neg c6] at H
       have c6b0 : (a0 == 11) = false := beq_eq_false_iff_ne.mpr c6
       have c6b1 : (a0 != 11) = true := bne_iff_ne.mpr c6
       by_cases c7 : a0 = 7
       · rw [if_pos c7] at H
         have c7b0 : (a0 == 7) = true := beq_iff_eq.mpr c7
         have c7b1 : (a0 != 7) = false := bne_eq_false_iff_eq.mpr c7
         clear c7
         replace H := Option.bind_eq_some_iff.mp H
         obtain ⟨⟨t281,t282⟩,A80,H⟩ := H
         replace H : (some (t281,t282)) = some (r1,r2) := H
         have A8 := Aside0.mk A80
         clear A80
         simp only [Option.some.injEq,Prod.mk.injEq] at H
         obtain ⟨rfl,rfl⟩ := H
         go_enter Tryz.func54,Tryz.ntmps54
         go_wp2_with (first | ((with_reducible refine gate_callee (f := 83) rfl ?_); refine goesL_ (some 49) rfl rfl Tryz.func83 (by kernel_rfl) rfl #[.int .i64 a1,.int .i64 a2] rfl (by (try simp only [List.map_toArray,List.map_cons,List.map_nil]); first | done | rfl | (simp only [List.length_drop,List.length_take]; rfl)) ?_; (with_reducible refine (value_product.calls a1 a2 t281 t282 _ A8.out).mono ?_); rintro e w' ⟨rfl,⟨nd,rfl⟩⟩; refine ⟨_,rfl,?_⟩))
         go_ret2
         exact ⟨by first | rfl | (simp; done) | (simp [*]; done),by repeat (first | exact Drawn0.refl _ | apply Drawn0.step)⟩
       · rw [if_neg c7] at H
         have c7b0 : (a0 == 7) = false := beq_eq_false_iff_ne.mpr c7
         have c7b1 : (a0 != 7) = true := bne_iff_ne.mpr c7
         by_cases c9 : a2 = 0
         · rw [if_pos c9] at H
           have c9b0 : (a2 == 0) = true := beq_iff_eq.mpr c9
           have c9b1 : (a2 != 0) = false := bne_eq_false_iff_eq.mpr c9
           clear c9
           simp only [Option.some.injEq,Prod.mk.injEq] at H
           obtain ⟨rfl,rfl⟩ := H
           go_enter Tryz.func54,Tryz.ntmps54
           go_wp2
           go_ret2
           exact ⟨by first | rfl | (simp; done) | (simp [*]; done),by repeat (first | exact Drawn0.refl _ | apply Drawn0.step)⟩
         · rw [if_neg c9] at H
           have c9b0 : (a2 == 0) = false := beq_eq_false_iff_ne.mpr c9
           have c9b1 : (a2 != 0) = true := bne_iff_ne.mpr c9
           have HC10 := Aside0.mk H
           clear H
           go_enter Tryz.func54,Tryz.ntmps54
           go_upto_region 14 with (fail)
           go_cut [55] (fun v55 wc => ∃ (kq : Nat) (x55_9 : Bool),v55 = .bool x55_9 ∧ Aside0 (value_reckon.j0 kq a0 a1 a2 x55_9 = some (r1,r2)) ∧ Aside0 (kq ≤ k) ∧ Drawn0 w wc)
           case first =>
            have H := HC10.out
            clear HC10
            by_cases c11 : a2 = (-1)
            · rw [if_pos c11] at H
              have c11b0 : (a2 == (-1)) = true := beq_iff_eq.mpr c11
              have c11b1 : (a2 != (-1)) = false := bne_eq_false_iff_eq.mpr c11
              clear c11
              (first | rw [c11b0] | (simp only [i64_w,i32_w]; rw [c11b0]) | skip)
              have H' := Aside0.mk H
              clear H
              go_wp2
              go_meet
              case rel => exact ⟨_,((a0 == 8)),(by first | rfl | (simp; done) | (simp [*]; done)),H',⟨by first | omega | exact Nat.le_refl _⟩,by repeat (first | exact Drawn0.refl _ | apply Drawn0.step)⟩
            · rw [if_neg c11] at H
              have c11b0 : (a2 == (-1)) = false := beq_eq_false_iff_ne.mpr c11
              have c11b1 : (a2 != (-1)) = true := bne_iff_ne.mpr c11
              (first | rw [c11b0] | (simp only [i64_w,i32_w]; rw [c11b0]) | skip)
              have H' := Aside0.mk H
              clear H
              go_wp2
              go_meet
              case rel => exact ⟨_,(false),(by first | rfl | (simp; done) | (simp [*]; done)),H',⟨by first | omega | exact Nat.le_refl _⟩,by repeat (first | exact Drawn0.refl _ | apply Drawn0.step)⟩
           case rest =>
            clear HC10
            try clear c1
            try clear p2
            try clear c4
            try clear c4b0
            try clear c4b1
            try clear c5
            try clear c5b0
            try clear c5b1
            try clear c6
            try clear c6b0
            try clear c6b1
            try clear p6
            try clear c7
            try clear c7b0
            try clear c7b1
            try clear c8
            try clear c9
            try clear c9b0
            try clear c9b1
            try clear c11
            try clear c11b0
            try clear c11b1
            obtain ⟨kq,x55_9,rfl,HA,HJ9,⟨mc9,rfl⟩⟩ := hcut
            cases kq with
            | zero => exact absurd HA.out (by simp [value_reckon.j0])
            | succ kj9 =>
             have H := HA.out
             clear HA
             simp only [value_reckon.j0] at H
             by_cases c12 : x55_9 = true
             · subst c12
               have H1 : (some (wrap64 (-a1),(a1 != (-9223372036854775808)))) = some (r1,r2) := by rw [if_pos rfl] at H; exact H
               clear H
               have H := H1
               clear H1
               simp only [Option.some.injEq,Prod.mk.injEq] at H
               obtain ⟨rfl,rfl⟩ := H
               go_wp2
               go_ret2
               exact ⟨by first | rfl | (simp; done) | (simp [*]; done),by repeat (first | exact Drawn0.refl _ | apply Drawn0.step)⟩
             · replace c12 := Bool.eq_false_iff.mpr c12
               subst c12
               have H1 : (if a2 = (-1) then (some (0,true)) else (if a0 = 8 then (if a2 = 0 then (none) else (some (wrap64 (Int.tdiv a1 a2),true))) else (if a2 = 0 then (none) else (some (Int.tmod a1 a2,true))))) = some (r1,r2) := by rw [if_neg (show ¬ (false = true) by decide)] at H; exact H
               clear H
               have H := H1
               clear H1
               by_cases c13 : a2 = (-1)
               · rw [if_pos c13] at H
                 have c13b0 : (a2 == (-1)) = true := beq_iff_eq.mpr c13
                 have c13b1 : (a2 != (-1)) = false := bne_eq_false_iff_eq.mpr c13
                 clear c13
                 simp only [Option.some.injEq,Prod.mk.injEq] at H
                 obtain ⟨rfl,rfl⟩ := H
                 go_wp2
                 go_ret2
                 exact ⟨by first | rfl | (simp; done) | (simp [*]; done),by repeat (first | exact Drawn0.refl _ | apply Drawn0.step)⟩
               · rw [if_neg c13] at H
                 have c13b0 : (a2 == (-1)) = false := beq_eq_false_iff_ne.mpr c13
                 have c13b1 : (a2 != (-1)) = true := bne_iff_ne.mpr c13
                 by_cases c14 : a0 = 8
                 · rw [if_pos c14] at H
                   have c14b0 : (a0 == 8) = true := beq_iff_eq.mpr c14
                   have c14b1 : (a0 != 8) = false := bne_eq_false_iff_eq.mpr c14
                   clear c14
                   by_cases c15 : a2 = 0
                   · rw [if_pos c15] at H
                     exact absurd H (by simp)
                   · rw [if_neg c15] at H
                     have c15b0 : (a2 == 0) = false := beq_eq_false_iff_ne.mpr c15
                     have c15b1 : (a2 != 0) = true := bne_iff_ne.mpr c15
                     simp only [Option.some.injEq,Prod.mk.injEq] at H
                     obtain ⟨rfl,rfl⟩ := H
                     go_wp2
                     go_ret2
                     exact ⟨by first | rfl | (simp; done) | (simp [*]; done),by repeat (first | exact Drawn0.refl _ | apply Drawn0.step)⟩
                 · rw [if_neg c14] at H
                   have c14b0 : (a0 == 8) = false := beq_eq_false_iff_ne.mpr c14
                   have c14b1 : (a0 != 8) = true := bne_iff_ne.mpr c14
                   by_cases c16 : a2 = 0
                   · rw [if_pos c16] at H
                     exact absurd H (by simp)
                   · rw [if_neg c16] at H
                     have c16b0 : (a2 == 0) = false := beq_eq_false_iff_ne.mpr c16
                     have c16b1 : (a2 != 0) = true := bne_iff_ne.mpr c16
                     simp only [Option.some.injEq,Prod.mk.injEq] at H
                     obtain ⟨rfl,rfl⟩ := H
                     go_wp2
                     go_ret2
                     exact ⟨by first | rfl | (simp; done) | (simp [*]; done),by repeat (first | exact Drawn0.refl _ | apply Drawn0.step)⟩
end
section
/-! ### value_Bool: function 8 -/
def value_Bool.f (a0 : Bool) : Option (Int × Int × Bool × ByteArray) := some (2,0,a0,(⟨#[]⟩ : ByteArray))
set_option maxHeartbeats 8000000 in
set_option maxRecDepth 100000 in
theorem value_Bool.calls (a0 : Bool) (r1 : Int) (r2 : Int) (r3 : Bool) (r4 : ByteArray) (w : World) (h : value_Bool.f a0 = some (r1,r2,r3,r4)) :
 Calls Tryz.prog 8 #[.bool a0] w fun e w' => e = .returned (.agg #[.int .i64 r1,.int .i64 r2,.bool r3,.string r4]) ∧ Below w.heap.size w w' := by
 have hu23 := Tryz.underlying23
 have HB := Aside0.mk (Below.refl w.heap.size w)
 have H : (some (2,0,a0,(⟨#[]⟩ : ByteArray))) = some (r1,r2,r3,r4) := h
 clear h
 simp only [Option.some.injEq,Prod.mk.injEq] at H
 obtain ⟨rfl,rfl,rfl,rfl⟩ := H
 go_enter Tryz.func8,Tryz.ntmps8
 go_wp2_with (first | ((with_reducible refine gate_dst (N := 2) rfl ?_); refine box_event ?hg (N := 2) ?hd (cs := #[.int .i64 0,.int .i64 0,.bool false,.string (⟨#[]⟩ : ByteArray)]) (t := 23) ?hr ?_; (case hd => rfl); (case hg => rfl); (case hr => first | (go_simp; done) | (go_simp; rfl)); intro gb103 hg w2 hbox hb; have n0_ := Aside0.mk (below_step (by repeat (first | (with_reducible first | exact HB.out | apply below_alloc | apply pw_below_drewN | apply below_drew1 | apply bytes_below1) | exact HB.out)) hb); have n1_ := Aside0.mk (hbox); have n2_ := Aside0.mk ((by rw [hg]; exact (below_size (by repeat (first | (with_reducible first | exact HB.out | apply below_alloc | apply pw_below_drewN | apply below_drew1 | apply bytes_below1) | exact HB.out))) : w.heap.size ≤ gb103)); have n3_ := Aside0.mk ((by rw [hg]; exact (below_size (by repeat (first | (with_reducible first | exact HB.out | apply below_alloc | apply pw_below_drewN | apply below_drew1 | apply bytes_below1) | exact HB.out))) : w.heap.size ≤ gb103)); clear HB; have HB := n0_; have BK103 := n1_; have GW103 := n2_; have GE103 := n3_; clear n0_ n1_ n2_ n3_; clear hb hbox hg; have hcz3_0 : w2.cell? ⟨gb103,0,none⟩ = some (.int .i64 0) := (blk_cell BK103.out 0).trans rfl; have hcz3_1 : w2.cell? ⟨gb103,1,none⟩ = some (.int .i64 0) := (blk_cell BK103.out 1).trans rfl; have hcz3_2 : w2.cell? ⟨gb103,2,none⟩ = some (.bool false) := (blk_cell BK103.out 2).trans rfl; have hcz3_3 : w2.cell? ⟨gb103,3,none⟩ = some (.string (⟨#[]⟩ : ByteArray)) := (blk_cell BK103.out 3).trans rfl; have hfz3_0 := blk_frozen BK103.out 0; have hfz3_1 := blk_frozen BK103.out 1; have hfz3_2 := blk_frozen BK103.out 2; have hfz3_3 := blk_frozen BK103.out 3))
 refine bodyPost_ret (results_cell_row rfl _ _ gb103 23 #[.int .i64 2,.int .i64 0,.bool a0,.string (⟨#[]⟩ : ByteArray)] (0,0) _ rfl (by (with_reducible repeat (first | refine blk_bytes ?_ _ _ | refine blk_drewN ?_ _ | refine blk_drew ?_ | refine blk_alloc ?_ _)); refine blk_put (cs := #[.int .i64 2,.int .i64 0,.bool a0,.string (⟨#[]⟩ : ByteArray)]) ?_ 3 _ rfl; (with_reducible repeat (first | refine blk_bytes ?_ _ _ | refine blk_drewN ?_ _ | refine blk_drew ?_ | refine blk_alloc ?_ _)); refine blk_put (cs := #[.int .i64 2,.int .i64 0,.bool false,.string (⟨#[]⟩ : ByteArray)]) ?_ 2 _ rfl; (with_reducible repeat (first | refine blk_bytes ?_ _ _ | refine blk_drewN ?_ _ | refine blk_drew ?_ | refine blk_alloc ?_ _)); refine blk_put (cs := #[.int .i64 2,.int .i64 0,.bool false,.string (⟨#[]⟩ : ByteArray)]) ?_ 1 _ rfl; (with_reducible repeat (first | refine blk_bytes ?_ _ _ | refine blk_drewN ?_ _ | refine blk_drew ?_ | refine blk_alloc ?_ _)); refine blk_put (cs := #[.int .i64 0,.int .i64 0,.bool false,.string (⟨#[]⟩ : ByteArray)]) ?_ 0 _ rfl; (with_reducible repeat (first | refine blk_bytes ?_ _ _ | refine blk_drewN ?_ _ | refine blk_drew ?_ | refine blk_alloc ?_ _)); exact BK103.out) Tryz.underlying23 rfl (by kernel_rfl)) rfl ?_
 exact ⟨by first | rfl | (simp [errW_none,errW_some] <;> rfl) | (simp [*,errW_none,errW_some] <;> rfl),by repeat (first | (with_reducible first | exact HB.out | apply below_alloc | apply pw_below_drewN | apply below_drew1 | apply bytes_below1 | refine below_set ?_ GE103.out) | exact HB.out)⟩
end
section
/-! ### value_Do: function 39 -/
def value_Do.j0 : Nat → Int → Int → Bool → Int → Int → Bool → ByteArray → Int → Int → Bool → ByteArray → Option (Int × Int × Bool × ByteArray × Bool)
 | 0,_,_,_,_,_,_,_,_,_,_,_ => none
 | k + 1,x0,x8,x31,x284000,x284001,x284002,x284003,x285000,x285001,x285002,x285003 => if x31 = true then (some (0,0,false,(⟨#[]⟩ : ByteArray),false)) else (if x8 = 2 then ((value_judge.f k x0 x284000 x284001 x284002 x284003 x285000 x285001 x285002 x285003).bind fun t290 => ((value_Bool.f t290).bind fun bt291 => (some (bt291.1,bt291.2.1,bt291.2.2.1,bt291.2.2.2,true)))) else ((value_reckon.f k x0 x284001 x285001).bind fun bt295 => (if bt295.2 = true then ((value_Int.f bt295.1).bind fun bt297 => (some (bt297.1,bt297.2.1,bt297.2.2.1,bt297.2.2.2,true))) else (some (0,0,false,(⟨#[]⟩ : ByteArray),false)))))
def value_Do.f (k : Nat) (a0 : Int) (a1_0 : Int) (a1_1 : Int) (a1_2 : Bool) (a1_3 : ByteArray) (a2_0 : Int) (a2_1 : Int) (a2_2 : Bool) (a2_3 : ByteArray) : Option (Int × Int × Bool × ByteArray × Bool) := (value_Kind.f k a0 a1_0 a2_0).bind fun bt286 => (if bt286.2 = true then ((value_Can.f k a1_0 a1_1 a1_2 a1_3).bind fun t288 => (if t288 = true then ((value_Can.f k a2_0 a2_1 a2_2 a2_3).bind fun t289 => (value_Do.j0 k a0 bt286.1 (!t289) a1_0 a1_1 a1_2 a1_3 a2_0 a2_1 a2_2 a2_3)) else (value_Do.j0 k a0 bt286.1 true a1_0 a1_1 a1_2 a1_3 a2_0 a2_1 a2_2 a2_3))) else (value_Do.j0 k a0 bt286.1 true a1_0 a1_1 a1_2 a1_3 a2_0 a2_1 a2_2 a2_3))
set_option maxHeartbeats 8000000 in
set_option maxRecDepth 100000 in
theorem value_Do.calls (k : Nat) (a0 : Int) (a1_0 : Int) (a1_1 : Int) (a1_2 : Bool) (a1_3 : ByteArray) (a2_0 : Int) (a2_1 : Int) (a2_2 : Bool) (a2_3 : ByteArray) (r1 : Int) (r2 : Int) (r3 : Bool) (r4 : ByteArray) (r5 : Bool) (w : World) (hL_ : Laid w) (h : value_Do.f k a0 a1_0 a1_1 a1_2 a1_3 a2_0 a2_1 a2_2 a2_3 = some (r1,r2,r3,r4,r5)) :
 Calls Tryz.prog 39 #[.int .i64 a0,.agg #[.int .i64 a1_0,.int .i64 a1_1,.bool a1_2,.string a1_3],.agg #[.int .i64 a2_0,.int .i64 a2_1,.bool a2_2,.string a2_3]] w fun e w' => e = .returned (.tuple #[.agg #[.int .i64 r1,.int .i64 r2,.bool r3,.string r4],.bool r5]) ∧ Below w.heap.size w w' := by
 have hu23 := Tryz.underlying23
 have HB := Aside0.mk (Below.refl w.heap.size w)
 have HLd := Aside0.mk hL_
 clear hL_
 have H : ((value_Kind.f k a0 a1_0 a2_0).bind fun bt286 => (if bt286.2 = true then ((value_Can.f k a1_0 a1_1 a1_2 a1_3).bind fun t288 => (if t288 = true then ((value_Can.f k a2_0 a2_1 a2_2 a2_3).bind fun t289 => (value_Do.j0 k a0 bt286.1 (!t289) a1_0 a1_1 a1_2 a1_3 a2_0 a2_1 a2_2 a2_3)) else (value_Do.j0 k a0 bt286.1 true a1_0 a1_1 a1_2 a1_3 a2_0 a2_1 a2_2 a2_3))) else (value_Do.j0 k a0 bt286.1 true a1_0 a1_1 a1_2 a1_3 a2_0 a2_1 a2_2 a2_3))) = some (r1,r2,r3,r4,r5) := h
 clear h
 replace H := Option.bind_eq_some_iff.mp H
 obtain ⟨⟨t286,t287⟩,A40,H⟩ := H
 replace H : (if t287 = true then ((value_Can.f k a1_0 a1_1 a1_2 a1_3).bind fun t288 => (if t288 = true then ((value_Can.f k a2_0 a2_1 a2_2 a2_3).bind fun t289 => (value_Do.j0 k a0 t286 (!t289) a1_0 a1_1 a1_2 a1_3 a2_0 a2_1 a2_2 a2_3)) else (value_Do.j0 k a0 t286 true a1_0 a1_1 a1_2 a1_3 a2_0 a2_1 a2_2 a2_3))) else (value_Do.j0 k a0 t286 true a1_0 a1_1 a1_2 a1_3 a2_0 a2_1 a2_2 a2_3)) = some (r1,r2,r3,r4,r5) := H
 have A4 := Aside0.mk A40
 clear A40
 have HC5 := Aside0.mk H
 clear H
 go_enter Tryz.func39,Tryz.ntmps39
 go_upto_region 2 with (first | ((with_reducible refine gate_dst (N := 4) rfl ?_); refine box_event ?hg (N := 4) ?hd (cs := #[.int .i64 a1_0,.int .i64 a1_1,.bool a1_2,.string a1_3]) (t := 23) ?hr ?_; (case hd => rfl); (case hg => rfl); (case hr => first | (go_simp; done) | (go_simp; rfl)); intro gb283 hg w6 hbox hb; have n0_ := Aside0.mk (below_step (by repeat (first | (with_reducible first | exact HB.out | apply below_alloc | apply pw_below_drewN | apply below_drew1 | apply bytes_below1) | exact HB.out)) hb); have n1_ := Aside0.mk (hbox); have n2_ := Aside0.mk ((by rw [hg]; exact (below_size (by repeat (first | (with_reducible first | exact HB.out | apply below_alloc | apply pw_below_drewN | apply below_drew1 | apply bytes_below1) | exact HB.out))) : w.heap.size ≤ gb283)); have n3_ := Aside0.mk ((by rw [hg]; exact (below_size (by repeat (first | (with_reducible first | exact HB.out | apply below_alloc | apply pw_below_drewN | apply below_drew1 | apply bytes_below1) | exact HB.out))) : w.heap.size ≤ gb283)); clear HB; have HB := n0_; have BK283 := n1_; have GW283 := n2_; have GE283 := n3_; clear n0_ n1_ n2_ n3_; clear hb hbox hg) | ((with_reducible refine gate_dst (N := 5) rfl ?_); refine box_event ?hg (N := 5) ?hd (cs := #[.int .i64 a2_0,.int .i64 a2_1,.bool a2_2,.string a2_3]) (t := 23) ?hr ?_; (case hd => rfl); (case hg => rfl); (case hr => first | (go_simp; done) | (go_simp; rfl)); intro gb284 hg w7 hbox hb; have n0_ := Aside0.mk (blk_below (g := gb283) (o := .cells #[.int .i64 a1_0,.int .i64 a1_1,.bool a1_2,.string a1_3] 23 (0,0)) (by (with_reducible repeat (first | refine blk_bytes ?_ _ _ | refine blk_drewN ?_ _ | refine blk_drew ?_ | refine blk_alloc ?_ _)); exact BK283.out) hb); have n1_ := Aside0.mk (below_step (by repeat (first | (with_reducible first | exact HB.out | apply below_alloc | apply pw_below_drewN | apply below_drew1 | apply bytes_below1 | refine below_set ?_ GE283.out) | exact HB.out)) hb); have n2_ := Aside0.mk (hbox); have n3_ := Aside0.mk ((by rw [hg]; exact (below_size (by repeat (first | (with_reducible first | exact HB.out | apply below_alloc | apply pw_below_drewN | apply below_drew1 | apply bytes_below1 | refine below_set ?_ GE283.out) | exact HB.out))) : w.heap.size ≤ gb284)); have n4_ := Aside0.mk ((by rw [hg]; exact (below_size (by repeat (first | (with_reducible first | exact HB.out | apply below_alloc | apply pw_below_drewN | apply below_drew1 | apply bytes_below1 | refine below_set ?_ GE283.out) | exact HB.out))) : w.heap.size ≤ gb284)); have n5_ := Aside0.mk ((by rw [hg]; exact Nat.ne_of_lt (blk_lt (g := gb283) (o := .cells #[.int .i64 a1_0,.int .i64 a1_1,.bool a1_2,.string a1_3] 23 (0,0)) (by (with_reducible repeat (first | refine blk_bytes ?_ _ _ | refine blk_drewN ?_ _ | refine blk_drew ?_ | refine blk_alloc ?_ _)); exact BK283.out)) : gb283 ≠ gb284)); have n6_ := Aside0.mk ((by rw [hg]; exact Nat.ne_of_gt (blk_lt (g := gb283) (o := .cells #[.int .i64 a1_0,.int .i64 a1_1,.bool a1_2,.string a1_3] 23 (0,0)) (by (with_reducible repeat (first | refine blk_bytes ?_ _ _ | refine blk_drewN ?_ _ | refine blk_drew ?_ | refine blk_alloc ?_ _)); exact BK283.out)) : gb284 ≠ gb283)); clear BK283; clear HB; have BK283 := n0_; have HB := n1_; have BK284 := n2_; have GW284 := n3_; have GE284 := n4_; have NB283_284 := n5_; have NB284_283 := n6_; clear n0_ n1_ n2_ n3_ n4_ n5_ n6_; clear hb hbox hg) | ((with_reducible refine gate_dst (N := 6) rfl ?_); refine box_event ?hg (N := 6) ?hd (cs := #[.int .i64 0,.int .i64 0,.bool false,.string (⟨#[]⟩ : ByteArray)]) (t := 23) ?hr ?_; (case hd => rfl); (case hg => rfl); (case hr => first | (go_simp; done) | (go_simp; rfl)); intro gb285 hg w8 hbox hb; have n0_ := Aside0.mk (blk_below (g := gb283) (o := .cells #[.int .i64 a1_0,.int .i64 a1_1,.bool a1_2,.string a1_3] 23 (0,0)) (by (with_reducible repeat (first | refine blk_bytes ?_ _ _ | refine blk_drewN ?_ _ | refine blk_drew ?_ | refine blk_alloc ?_ _)); exact BK283.out) hb); have n1_ := Aside0.mk (blk_below (g := gb284) (o := .cells #[.int .i64 a2_0,.int .i64 a2_1,.bool a2_2,.string a2_3] 23 (0,0)) (by (with_reducible repeat (first | refine blk_bytes ?_ _ _ | refine blk_drewN ?_ _ | refine blk_drew ?_ | refine blk_alloc ?_ _)); exact BK284.out) hb); have n2_ := Aside0.mk (below_step (by repeat (first | (with_reducible first | exact HB.out | apply below_alloc | apply pw_below_drewN | apply below_drew1 | apply bytes_below1 | refine below_set ?_ GE283.out | refine below_set ?_ GE284.out) | exact HB.out)) hb); have n3_ := Aside0.mk (hbox); have n4_ := Aside0.mk ((by rw [hg]; exact (below_size (by repeat (first | (with_reducible first | exact HB.out | apply below_alloc | apply pw_below_drewN | apply below_drew1 | apply bytes_below1 | refine below_set ?_ GE283.out | refine below_set ?_ GE284.out) | exact HB.out))) : w.heap.size ≤ gb285)); have n5_ := Aside0.mk ((by rw [hg]; exact (below_size (by repeat (first | (with_reducible first | exact HB.out | apply below_alloc | apply pw_below_drewN | apply below_drew1 | apply bytes_below1 | refine below_set ?_ GE283.out | refine below_set ?_ GE284.out) | exact HB.out))) : w.heap.size ≤ gb285)); have n6_ := Aside0.mk ((by rw [hg]; exact Nat.ne_of_lt (blk_lt (g := gb283) (o := .cells #[.int .i64 a1_0,.int .i64 a1_1,.bool a1_2,.string a1_3] 23 (0,0)) (by (with_reducible repeat (first | refine blk_bytes ?_ _ _ | refine blk_drewN ?_ _ | refine blk_drew ?_ | refine blk_alloc ?_ _)); exact BK283.out)) : gb283 ≠ gb285)); have n7_ := Aside0.mk ((by rw [hg]; exact Nat.ne_of_gt (blk_lt (g := gb283) (o := .cells #[.int .i64 a1_0,.int .i64 a1_1,.bool a1_2,.string a1_3] 23 (0,0)) (by (with_reducible repeat (first | refine blk_bytes ?_ _ _ | refine blk_drewN ?_ _ | refine blk_drew ?_ | refine blk_alloc ?_ _)); exact BK283.out)) : gb285 ≠ gb283)); have n8_ := Aside0.mk ((by rw [hg]; exact Nat.ne_of_lt (blk_lt (g := gb284) (o := .cells #[.int .i64 a2_0,.int .i64 a2_1,.bool a2_2,.string a2_3] 23 (0,0)) (by (with_reducible repeat (first | refine blk_bytes ?_ _ _ | refine blk_drewN ?_ _ | refine blk_drew ?_ | refine blk_alloc ?_ _)); exact BK284.out)) : gb284 ≠ gb285)); have n9_ := Aside0.mk ((by rw [hg]; exact Nat.ne_of_gt (blk_lt (g := gb284) (o := .cells #[.int .i64 a2_0,.int .i64 a2_1,.bool a2_2,.string a2_3] 23 (0,0)) (by (with_reducible repeat (first | refine blk_bytes ?_ _ _ | refine blk_drewN ?_ _ | refine blk_drew ?_ | refine blk_alloc ?_ _)); exact BK284.out)) : gb285 ≠ gb284)); clear BK283; clear BK284; clear HB; have BK283 := n0_; have BK284 := n1_; have HB := n2_; have BK285 := n3_; have GW285 := n4_; have GE285 := n5_; have NB283_285 := n6_; have NB285_283 := n7_; have NB284_285 := n8_; have NB285_284 := n9_; clear n0_ n1_ n2_ n3_ n4_ n5_ n6_ n7_ n8_ n9_; clear hb hbox hg; have hnb9 := NB283_284.out; have hnc9 := NB284_283.out; have hnb10 := NB283_285.out; have hnc10 := NB285_283.out; have hcz11_0 : w8.cell? ⟨gb283,0,none⟩ = some (.int .i64 a1_0) := (blk_cell BK283.out 0).trans rfl; have hcz11_1 : w8.cell? ⟨gb283,1,none⟩ = some (.int .i64 a1_1) := (blk_cell BK283.out 1).trans rfl; have hcz11_2 : w8.cell? ⟨gb283,2,none⟩ = some (.bool a1_2) := (blk_cell BK283.out 2).trans rfl; have hcz11_3 : w8.cell? ⟨gb283,3,none⟩ = some (.string a1_3) := (blk_cell BK283.out 3).trans rfl; have hfz11_0 := blk_frozen BK283.out 0; have hfz11_1 := blk_frozen BK283.out 1; have hfz11_2 := blk_frozen BK283.out 2; have hfz11_3 := blk_frozen BK283.out 3; have hnb12 := NB284_285.out; have hnc12 := NB285_284.out; have hcz13_0 : w8.cell? ⟨gb284,0,none⟩ = some (.int .i64 a2_0) := (blk_cell BK284.out 0).trans rfl; have hcz13_1 : w8.cell? ⟨gb284,1,none⟩ = some (.int .i64 a2_1) := (blk_cell BK284.out 1).trans rfl; have hcz13_2 : w8.cell? ⟨gb284,2,none⟩ = some (.bool a2_2) := (blk_cell BK284.out 2).trans rfl; have hcz13_3 : w8.cell? ⟨gb284,3,none⟩ = some (.string a2_3) := (blk_cell BK284.out 3).trans rfl; have hfz13_0 := blk_frozen BK284.out 0; have hfz13_1 := blk_frozen BK284.out 1; have hfz13_2 := blk_frozen BK284.out 2; have hfz13_3 := blk_frozen BK284.out 3) | ((with_reducible refine gate_callee (f := 52) rfl ?_); refine goesL_ (some 17) rfl rfl Tryz.func52 (by kernel_rfl) rfl #[.int .i64 a0,.int .i64 a1_0,.int .i64 a2_0] rfl (by (try simp only [List.map_toArray,List.map_cons,List.map_nil]); first | done | rfl | (simp only [List.length_drop,List.length_take]; rfl)) ?_; (with_reducible refine (value_Kind.calls k a0 a1_0 a2_0 t286 t287 _ A4.out).mono ?_); rintro e w' ⟨rfl,⟨nd,rfl⟩⟩; refine ⟨_,rfl,?_⟩))
 (try simp only [Act.put,List.setIfInBounds_toArray,List.set_cons_zero,List.set_cons_succ])
 go_cut [31] (fun v31 wc => ∃ (kq : Nat) (x31_4 : Bool),v31 = .bool x31_4 ∧ Aside0 (value_Do.j0 kq a0 t286 x31_4 a1_0 a1_1 a1_2 a1_3 a2_0 a2_1 a2_2 a2_3 = some (r1,r2,r3,r4,r5)) ∧ Aside0 (kq ≤ k) ∧ Aside0 (wc.heap[gb283]? = some (.cells #[.int .i64 a1_0,.int .i64 a1_1,.bool a1_2,.string a1_3] 23 (0,0))) ∧ Aside0 (wc.heap[gb284]? = some (.cells #[.int .i64 a2_0,.int .i64 a2_1,.bool a2_2,.string a2_3] 23 (0,0))) ∧ Aside0 (wc.heap[gb285]? = some (.cells #[.int .i64 0,.int .i64 0,.bool false,.string (⟨#[]⟩ : ByteArray)] 23 (0,0))) ∧ Aside0 (Below w.heap.size w wc))
 case first =>
  have H := HC5.out
  clear HC5
  by_cases c14 : t287 = true
  · subst c14
    have H1 : ((value_Can.f k a1_0 a1_1 a1_2 a1_3).bind fun t288 => (if t288 = true then ((value_Can.f k a2_0 a2_1 a2_2 a2_3).bind fun t289 => (value_Do.j0 k a0 t286 (!t289) a1_0 a1_1 a1_2 a1_3 a2_0 a2_1 a2_2 a2_3)) else (value_Do.j0 k a0 t286 true a1_0 a1_1 a1_2 a1_3 a2_0 a2_1 a2_2 a2_3))) = some (r1,r2,r3,r4,r5) := by rw [if_pos rfl] at H; exact H
    clear H
    have H := H1
    clear H1
    replace H := Option.bind_eq_some_iff.mp H
    obtain ⟨t288,A150,H⟩ := H
    replace H : (if t288 = true then ((value_Can.f k a2_0 a2_1 a2_2 a2_3).bind fun t289 => (value_Do.j0 k a0 t286 (!t289) a1_0 a1_1 a1_2 a1_3 a2_0 a2_1 a2_2 a2_3)) else (value_Do.j0 k a0 t286 true a1_0 a1_1 a1_2 a1_3 a2_0 a2_1 a2_2 a2_3)) = some (r1,r2,r3,r4,r5) := H
    have A15 := Aside0.mk A150
    clear A150
    by_cases c16 : t288 = true
    · subst c16
      have H1 : ((value_Can.f k a2_0 a2_1 a2_2 a2_3).bind fun t289 => (value_Do.j0 k a0 t286 (!t289) a1_0 a1_1 a1_2 a1_3 a2_0 a2_1 a2_2 a2_3)) = some (r1,r2,r3,r4,r5) := by rw [if_pos rfl] at H; exact H
      clear H
      have H := H1
      clear H1
      replace H := Option.bind_eq_some_iff.mp H
      obtain ⟨t289,A170,H⟩ := H
      replace H : (value_Do.j0 k a0 t286 (!t289) a1_0 a1_1 a1_2 a1_3 a2_0 a2_1 a2_2 a2_3) = some (r1,r2,r3,r4,r5) := H
      have A17 := Aside0.mk A170
      clear A170
      have H' := Aside0.mk H
      clear H
      have hnb18 := NB283_284.out
      have hnc18 := NB284_283.out
      have hnb19 := NB283_285.out
      have hnc19 := NB285_283.out
      have hcz20_0 : w8.cell? ⟨gb283,0,none⟩ = some (.int .i64 a1_0) := (blk_cell BK283.out 0).trans rfl
      have hcz20_1 : w8.cell? ⟨gb283,1,none⟩ = some (.int .i64 a1_1) := (blk_cell BK283.out 1).trans rfl
      have hcz20_2 : w8.cell? ⟨gb283,2,none⟩ = some (.bool a1_2) := (blk_cell BK283.out 2).trans rfl
      have hcz20_3 : w8.cell? ⟨gb283,3,none⟩ = some (.string a1_3) := (blk_cell BK283.out 3).trans rfl
      have hfz20_0 := blk_frozen BK283.out 0
      have hfz20_1 := blk_frozen BK283.out 1
      have hfz20_2 := blk_frozen BK283.out 2
      have hfz20_3 := blk_frozen BK283.out 3
      go_wp2_with (first | (go_at_call 12; (with_reducible refine (value_Can.calls k a1_0 a1_1 a1_2 a1_3 true _ ?side1 A15.out).mono ?_); (case side1 => exact Laid_below HLd.out (by repeat (first | (with_reducible first | exact HB.out | apply below_alloc | apply pw_below_drewN | apply below_drew1 | apply bytes_below1 | refine below_set ?_ GE283.out | refine below_set ?_ GE284.out | refine below_set ?_ GE285.out) | exact HB.out))); rintro e w21 ⟨rfl,hb⟩; have n0_ := Aside0.mk (blk_below (g := gb283) (o := .cells #[.int .i64 a1_0,.int .i64 a1_1,.bool a1_2,.string a1_3] 23 (0,0)) (by (with_reducible repeat (first | refine blk_bytes ?_ _ _ | refine blk_drewN ?_ _ | refine blk_drew ?_ | refine blk_alloc ?_ _)); exact BK283.out) hb); have n1_ := Aside0.mk (blk_below (g := gb284) (o := .cells #[.int .i64 a2_0,.int .i64 a2_1,.bool a2_2,.string a2_3] 23 (0,0)) (by (with_reducible repeat (first | refine blk_bytes ?_ _ _ | refine blk_drewN ?_ _ | refine blk_drew ?_ | refine blk_alloc ?_ _)); exact BK284.out) hb); have n2_ := Aside0.mk (blk_below (g := gb285) (o := .cells #[.int .i64 0,.int .i64 0,.bool false,.string (⟨#[]⟩ : ByteArray)] 23 (0,0)) (by (with_reducible repeat (first | refine blk_bytes ?_ _ _ | refine blk_drewN ?_ _ | refine blk_drew ?_ | refine blk_alloc ?_ _)); exact BK285.out) hb); have n3_ := Aside0.mk (below_step (by repeat (first | (with_reducible first | exact HB.out | apply below_alloc | apply pw_below_drewN | apply below_drew1 | apply bytes_below1 | refine below_set ?_ GE283.out | refine below_set ?_ GE284.out | refine below_set ?_ GE285.out) | exact HB.out)) hb); clear BK283; clear BK284; clear BK285; clear HB; have BK283 := n0_; have BK284 := n1_; have BK285 := n2_; have HB := n3_; clear n0_ n1_ n2_ n3_; (try clear hb); (try clear hb2); (try clear hk); (try clear hi); have hnb22 := NB284_285.out; have hnc22 := NB285_284.out; have hcz23_0 : w21.cell? ⟨gb284,0,none⟩ = some (.int .i64 a2_0) := (blk_cell BK284.out 0).trans rfl; have hcz23_1 : w21.cell? ⟨gb284,1,none⟩ = some (.int .i64 a2_1) := (blk_cell BK284.out 1).trans rfl; have hcz23_2 : w21.cell? ⟨gb284,2,none⟩ = some (.bool a2_2) := (blk_cell BK284.out 2).trans rfl; have hcz23_3 : w21.cell? ⟨gb284,3,none⟩ = some (.string a2_3) := (blk_cell BK284.out 3).trans rfl; have hfz23_0 := blk_frozen BK284.out 0; have hfz23_1 := blk_frozen BK284.out 1; have hfz23_2 := blk_frozen BK284.out 2; have hfz23_3 := blk_frozen BK284.out 3) | (go_at_call 12; (with_reducible refine (value_Can.calls k a2_0 a2_1 a2_2 a2_3 t289 _ ?side1 A17.out).mono ?_); (case side1 => exact Laid_below HLd.out (by repeat (first | (with_reducible first | exact HB.out | apply below_alloc | apply pw_below_drewN | apply below_drew1 | apply bytes_below1 | refine below_set ?_ GE283.out | refine below_set ?_ GE284.out | refine below_set ?_ GE285.out) | exact HB.out))); rintro e w24 ⟨rfl,hb⟩; have n0_ := Aside0.mk (blk_below (g := gb283) (o := .cells #[.int .i64 a1_0,.int .i64 a1_1,.bool a1_2,.string a1_3] 23 (0,0)) (by (with_reducible repeat (first | refine blk_bytes ?_ _ _ | refine blk_drewN ?_ _ | refine blk_drew ?_ | refine blk_alloc ?_ _)); exact BK283.out) hb); have n1_ := Aside0.mk (blk_below (g := gb284) (o := .cells #[.int .i64 a2_0,.int .i64 a2_1,.bool a2_2,.string a2_3] 23 (0,0)) (by (with_reducible repeat (first | refine blk_bytes ?_ _ _ | refine blk_drewN ?_ _ | refine blk_drew ?_ | refine blk_alloc ?_ _)); exact BK284.out) hb); have n2_ := Aside0.mk (blk_below (g := gb285) (o := .cells #[.int .i64 0,.int .i64 0,.bool false,.string (⟨#[]⟩ : ByteArray)] 23 (0,0)) (by (with_reducible repeat (first | refine blk_bytes ?_ _ _ | refine blk_drewN ?_ _ | refine blk_drew ?_ | refine blk_alloc ?_ _)); exact BK285.out) hb); have n3_ := Aside0.mk (below_step (by repeat (first | (with_reducible first | exact HB.out | apply below_alloc | apply pw_below_drewN | apply below_drew1 | apply bytes_below1 | refine below_set ?_ GE283.out | refine below_set ?_ GE284.out | refine below_set ?_ GE285.out) | exact HB.out)) hb); clear BK283; clear BK284; clear BK285; clear HB; have BK283 := n0_; have BK284 := n1_; have BK285 := n2_; have HB := n3_; clear n0_ n1_ n2_ n3_; (try clear hb); (try clear hb2); (try clear hk); (try clear hi)))
      go_meet
      case rel => exact ⟨_,(!t289),(by first | rfl | (simp; done) | (simp [*]; done)),H',⟨by first | omega | exact Nat.le_refl _⟩,⟨by (with_reducible repeat (first | refine blk_bytes ?_ _ _ | refine blk_drewN ?_ _ | refine blk_drew ?_ | refine blk_alloc ?_ _)); exact BK283.out⟩,⟨by (with_reducible repeat (first | refine blk_bytes ?_ _ _ | refine blk_drewN ?_ _ | refine blk_drew ?_ | refine blk_alloc ?_ _)); exact BK284.out⟩,⟨by (with_reducible repeat (first | refine blk_bytes ?_ _ _ | refine blk_drewN ?_ _ | refine blk_drew ?_ | refine blk_alloc ?_ _)); exact BK285.out⟩,⟨by repeat (first | (with_reducible first | exact HB.out | apply below_alloc | apply pw_below_drewN | apply below_drew1 | apply bytes_below1 | refine below_set ?_ GE283.out | refine below_set ?_ GE284.out | refine below_set ?_ GE285.out) | exact HB.out)⟩⟩
    · replace c16 := Bool.eq_false_iff.mpr c16
      subst c16
      have H1 : (value_Do.j0 k a0 t286 true a1_0 a1_1 a1_2 a1_3 a2_0 a2_1 a2_2 a2_3) = some (r1,r2,r3,r4,r5) := by rw [if_neg (show ¬ (false = true) by decide)] at H; exact H
      clear H
      have H := H1
      clear H1
      have H' := Aside0.mk H
      clear H
      have hnb25 := NB283_284.out
      have hnc25 := NB284_283.out
      have hnb26 := NB283_285.out
      have hnc26 := NB285_283.out
      have hcz27_0 : w8.cell? ⟨gb283,0,none⟩ = some (.int .i64 a1_0) := (blk_cell BK283.out 0).trans rfl
      have hcz27_1 : w8.cell? ⟨gb283,1,none⟩ = some (.int .i64 a1_1) := (blk_cell BK283.out 1).trans rfl
      have hcz27_2 : w8.cell? ⟨gb283,2,none⟩ = some (.bool a1_2) := (blk_cell BK283.out 2).trans rfl
      have hcz27_3 : w8.cell? ⟨gb283,3,none⟩ = some (.string a1_3) := (blk_cell BK283.out 3).trans rfl
      have hfz27_0 := blk_frozen BK283.out 0
      have hfz27_1 := blk_frozen BK283.out 1
      have hfz27_2 := blk_frozen BK283.out 2
      have hfz27_3 := blk_frozen BK283.out 3
      go_wp2_with (first | (go_at_call 12; (with_reducible refine (value_Can.calls k a1_0 a1_1 a1_2 a1_3 false _ ?side1 A15.out).mono ?_); (case side1 => exact Laid_below HLd.out (by repeat (first | (with_reducible first | exact HB.out | apply below_alloc | apply pw_below_drewN | apply below_drew1 | apply bytes_below1 | refine below_set ?_ GE283.out | refine below_set ?_ GE284.out | refine below_set ?_ GE285.out) | exact HB.out))); rintro e w28 ⟨rfl,hb⟩; have n0_ := Aside0.mk (blk_below (g := gb283) (o := .cells #[.int .i64 a1_0,.int .i64 a1_1,.bool a1_2,.string a1_3] 23 (0,0)) (by (with_reducible repeat (first | refine blk_bytes ?_ _ _ | refine blk_drewN ?_ _ | refine blk_drew ?_ | refine blk_alloc ?_ _)); exact BK283.out) hb); have n1_ := Aside0.mk (blk_below (g := gb284) (o := .cells #[.int .i64 a2_0,.int .i64 a2_1,.bool a2_2,.string a2_3] 23 (0,0)) (by (with_reducible repeat (first | refine blk_bytes ?_ _ _ | refine blk_drewN ?_ _ | refine blk_drew ?_ | refine blk_alloc ?_ _)); exact BK284.out) hb); have n2_ := Aside0.mk (blk_below (g := gb285) (o := .cells #[.int .i64 0,.int .i64 0,.bool false,.string (⟨#[]⟩ : ByteArray)] 23 (0,0)) (by (with_reducible repeat (first | refine blk_bytes ?_ _ _ | refine blk_drewN ?_ _ | refine blk_drew ?_ | refine blk_alloc ?_ _)); exact BK285.out) hb); have n3_ := Aside0.mk (below_step (by repeat (first | (with_reducible first | exact HB.out | apply below_alloc | apply pw_below_drewN | apply below_drew1 | apply bytes_below1 | refine below_set ?_ GE283.out | refine below_set ?_ GE284.out | refine below_set ?_ GE285.out) | exact HB.out)) hb); clear BK283; clear BK284; clear BK285; clear HB; have BK283 := n0_; have BK284 := n1_; have BK285 := n2_; have HB := n3_; clear n0_ n1_ n2_ n3_; (try clear hb); (try clear hb2); (try clear hk); (try clear hi)))
      go_meet
      case rel => exact ⟨_,(true),(by first | rfl | (simp; done) | (simp [*]; done)),H',⟨by first | omega | exact Nat.le_refl _⟩,⟨by (with_reducible repeat (first | refine blk_bytes ?_ _ _ | refine blk_drewN ?_ _ | refine blk_drew ?_ | refine blk_alloc ?_ _)); exact BK283.out⟩,⟨by (with_reducible repeat (first | refine blk_bytes ?_ _ _ | refine blk_drewN ?_ _ | refine blk_drew ?_ | refine blk_alloc ?_ _)); exact BK284.out⟩,⟨by (with_reducible repeat (first | refine blk_bytes ?_ _ _ | refine blk_drewN ?_ _ | refine blk_drew ?_ | refine blk_alloc ?_ _)); exact BK285.out⟩,⟨by repeat (first | (with_reducible first | exact HB.out | apply below_alloc | apply pw_below_drewN | apply below_drew1 | apply bytes_below1 | refine below_set ?_ GE283.out | refine below_set ?_ GE284.out | refine below_set ?_ GE285.out) | exact HB.out)⟩⟩
  · replace c14 := Bool.eq_false_iff.mpr c14
    subst c14
    have H1 : (value_Do.j0 k a0 t286 true a1_0 a1_1 a1_2 a1_3 a2_0 a2_1 a2_2 a2_3) = some (r1,r2,r3,r4,r5) := by rw [if_neg (show ¬ (false = true) by decide)] at H; exact H
    clear H
    have H := H1
    clear H1
    have H' := Aside0.mk H
    clear H
    go_wp2
    go_meet
    case rel => exact ⟨_,(true),(by first | rfl | (simp; done) | (simp [*]; done)),H',⟨by first | omega | exact Nat.le_refl _⟩,⟨by (with_reducible repeat (first | refine blk_bytes ?_ _ _ | refine blk_drewN ?_ _ | refine blk_drew ?_ | refine blk_alloc ?_ _)); exact BK283.out⟩,⟨by (with_reducible repeat (first | refine blk_bytes ?_ _ _ | refine blk_drewN ?_ _ | refine blk_drew ?_ | refine blk_alloc ?_ _)); exact BK284.out⟩,⟨by (with_reducible repeat (first | refine blk_bytes ?_ _ _ | refine blk_drewN ?_ _ | refine blk_drew ?_ | refine blk_alloc ?_ _)); exact BK285.out⟩,⟨by repeat (first | (with_reducible first | exact HB.out | apply below_alloc | apply pw_below_drewN | apply below_drew1 | apply bytes_below1 | refine below_set ?_ GE283.out | refine below_set ?_ GE284.out | refine below_set ?_ GE285.out) | exact HB.out)⟩⟩
 case rest =>
  clear HC5
  try clear c1
  try clear c2
  try clear p2
  try clear c3
  try clear c5
  try clear c9
  try clear c10
  try clear c12
  try clear c14
  try clear c16
  try clear c18
  try clear c19
  try clear c22
  try clear c25
  try clear c26
  try clear hcz11_0
  try clear hcz11_1
  try clear hcz11_2
  try clear hcz11_3
  try clear hcz13_0
  try clear hcz13_1
  try clear hcz13_2
  try clear hcz13_3
  try clear hcz20_0
  try clear hcz20_1
  try clear hcz20_2
  try clear hcz20_3
  try clear hcz23_0
  try clear hcz23_1
  try clear hcz23_2
  try clear hcz23_3
  try clear hcz27_0
  try clear hcz27_1
  try clear hcz27_2
  try clear hcz27_3
  try clear hfz11_0
  try clear hfz11_1
  try clear hfz11_2
  try clear hfz11_3
  try clear hfz13_0
  try clear hfz13_1
  try clear hfz13_2
  try clear hfz13_3
  try clear hfz20_0
  try clear hfz20_1
  try clear hfz20_2
  try clear hfz20_3
  try clear hfz23_0
  try clear hfz23_1
  try clear hfz23_2
  try clear hfz23_3
  try clear hfz27_0
  try clear hfz27_1
  try clear hfz27_2
  try clear hfz27_3
  obtain ⟨kq,x31_4,rfl,HA,HJ4,BK283,BK284,BK285,HB⟩ := hcut
  cases kq with
  | zero => exact absurd HA.out (by simp [value_Do.j0])
  | succ kj4 =>
   have H := HA.out
   clear HA
   simp only [value_Do.j0] at H
   by_cases c29 : x31_4 = true
   · subst c29
     have H1 : (some (0,0,false,(⟨#[]⟩ : ByteArray),false)) = some (r1,r2,r3,r4,r5) := by rw [if_pos rfl] at H; exact H
     clear H
     have H := H1
     clear H1
     simp only [Option.some.injEq,Prod.mk.injEq] at H
     obtain ⟨rfl,rfl,rfl,rfl,rfl⟩ := H
     have hnb30 := NB285_283.out
     have hnc30 := NB283_285.out
     have hnb31 := NB285_284.out
     have hnc31 := NB284_285.out
     have hcz32_0 : wc.cell? ⟨gb285,0,none⟩ = some (.int .i64 0) := (blk_cell BK285.out 0).trans rfl
     have hcz32_1 : wc.cell? ⟨gb285,1,none⟩ = some (.int .i64 0) := (blk_cell BK285.out 1).trans rfl
     have hcz32_2 : wc.cell? ⟨gb285,2,none⟩ = some (.bool false) := (blk_cell BK285.out 2).trans rfl
     have hcz32_3 : wc.cell? ⟨gb285,3,none⟩ = some (.string (⟨#[]⟩ : ByteArray)) := (blk_cell BK285.out 3).trans rfl
     have hfz32_0 := blk_frozen BK285.out 0
     have hfz32_1 := blk_frozen BK285.out 1
     have hfz32_2 := blk_frozen BK285.out 2
     have hfz32_3 := blk_frozen BK285.out 3
     go_wp2
     refine bodyPost_ret (results_ct rfl _ _ gb285 23 #[.int .i64 0,.int .i64 0,.bool false,.string (⟨#[]⟩ : ByteArray)] (0,0) _ rfl (by (with_reducible repeat (first | refine blk_bytes ?_ _ _ | refine blk_drewN ?_ _ | refine blk_drew ?_ | refine blk_alloc ?_ _)); refine blk_put (cs := #[.int .i64 0,.int .i64 0,.bool false,.string (⟨#[]⟩ : ByteArray)]) ?_ 3 _ rfl; (with_reducible repeat (first | refine blk_bytes ?_ _ _ | refine blk_drewN ?_ _ | refine blk_drew ?_ | refine blk_alloc ?_ _)); refine blk_put (cs := #[.int .i64 0,.int .i64 0,.bool false,.string (⟨#[]⟩ : ByteArray)]) ?_ 2 _ rfl; (with_reducible repeat (first | refine blk_bytes ?_ _ _ | refine blk_drewN ?_ _ | refine blk_drew ?_ | refine blk_alloc ?_ _)); refine blk_put (cs := #[.int .i64 0,.int .i64 0,.bool false,.string (⟨#[]⟩ : ByteArray)]) ?_ 1 _ rfl; (with_reducible repeat (first | refine blk_bytes ?_ _ _ | refine blk_drewN ?_ _ | refine blk_drew ?_ | refine blk_alloc ?_ _)); refine blk_put (cs := #[.int .i64 0,.int .i64 0,.bool false,.string (⟨#[]⟩ : ByteArray)]) ?_ 0 _ rfl; (with_reducible repeat (first | refine blk_bytes ?_ _ _ | refine blk_drewN ?_ _ | refine blk_drew ?_ | refine blk_alloc ?_ _)); exact BK285.out) Tryz.underlying23 rfl (by kernel_rfl)) rfl ?_
     exact ⟨by first | rfl | (simp [errW_none,errW_some] <;> rfl) | (simp [*,errW_none,errW_some] <;> rfl),by repeat (first | (with_reducible first | exact HB.out | apply below_alloc | apply pw_below_drewN | apply below_drew1 | apply bytes_below1 | refine below_set ?_ GE283.out | refine below_set ?_ GE284.out | refine below_set ?_ GE285.out) | exact HB.out)⟩
   · replace c29 := Bool.eq_false_iff.mpr c29
     subst c29
     have H1 : (if t286 = 2 then ((value_judge.f kj4 a0 a1_0 a1_1 a1_2 a1_3 a2_0 a2_1 a2_2 a2_3).bind fun t290 => ((value_Bool.f t290).bind fun bt291 => (some (bt291.1,bt291.2.1,bt291.2.2.1,bt291.2.2.2,true)))) else ((value_reckon.f kj4 a0 a1_1 a2_1).bind fun bt295 => (if bt295.2 = true then ((value_Int.f bt295.1).bind fun bt297 => (some (bt297.1,bt297.2.1,bt297.2.2.1,bt297.2.2.2,true))) else (some (0,0,false,(⟨#[]⟩ : ByteArray),false))))) = some (r1,r2,r3,r4,r5) := by rw [if_neg (show ¬ (false = true) by decide)] at H; exact H
     clear H
     have H := H1
     clear H1
     by_cases c33 : t286 = 2
     · rw [if_pos c33] at H
       have c33b0 : (t286 == 2) = true := beq_iff_eq.mpr c33
       have c33b1 : (t286 != 2) = false := bne_eq_false_iff_eq.mpr c33
       clear c33
       replace H := Option.bind_eq_some_iff.mp H
       obtain ⟨t290,A340,H⟩ := H
       replace H : ((value_Bool.f t290).bind fun bt291 => (some (bt291.1,bt291.2.1,bt291.2.2.1,bt291.2.2.2,true))) = some (r1,r2,r3,r4,r5) := H
       have A34 := Aside0.mk A340
       clear A340
       replace H := Option.bind_eq_some_iff.mp H
       obtain ⟨⟨t291,t292,t293,t294⟩,A350,H⟩ := H
       replace H : (some (t291,t292,t293,t294,true)) = some (r1,r2,r3,r4,r5) := H
       have A35 := Aside0.mk A350
       clear A350
       simp only [Option.some.injEq,Prod.mk.injEq] at H
       obtain ⟨rfl,rfl,rfl,rfl,rfl⟩ := H
       have hnb36 := NB283_284.out
       have hnc36 := NB284_283.out
       have hnb37 := NB283_285.out
       have hnc37 := NB285_283.out
       have hcz38_0 : wc.cell? ⟨gb283,0,none⟩ = some (.int .i64 a1_0) := (blk_cell BK283.out 0).trans rfl
       have hcz38_1 : wc.cell? ⟨gb283,1,none⟩ = some (.int .i64 a1_1) := (blk_cell BK283.out 1).trans rfl
       have hcz38_2 : wc.cell? ⟨gb283,2,none⟩ = some (.bool a1_2) := (blk_cell BK283.out 2).trans rfl
       have hcz38_3 : wc.cell? ⟨gb283,3,none⟩ = some (.string a1_3) := (blk_cell BK283.out 3).trans rfl
       have hfz38_0 := blk_frozen BK283.out 0
       have hfz38_1 := blk_frozen BK283.out 1
       have hfz38_2 := blk_frozen BK283.out 2
       have hfz38_3 := blk_frozen BK283.out 3
       have hnb39 := NB284_285.out
       have hnc39 := NB285_284.out
       have hcz40_0 : wc.cell? ⟨gb284,0,none⟩ = some (.int .i64 a2_0) := (blk_cell BK284.out 0).trans rfl
       have hcz40_1 : wc.cell? ⟨gb284,1,none⟩ = some (.int .i64 a2_1) := (blk_cell BK284.out 1).trans rfl
       have hcz40_2 : wc.cell? ⟨gb284,2,none⟩ = some (.bool a2_2) := (blk_cell BK284.out 2).trans rfl
       have hcz40_3 : wc.cell? ⟨gb284,3,none⟩ = some (.string a2_3) := (blk_cell BK284.out 3).trans rfl
       have hfz40_0 := blk_frozen BK284.out 0
       have hfz40_1 := blk_frozen BK284.out 1
       have hfz40_2 := blk_frozen BK284.out 2
       have hfz40_3 := blk_frozen BK284.out 3
       go_wp2_with (first | ((with_reducible refine gate_callee (f := 53) rfl ?_); refine goesL_ (some 38) rfl rfl Tryz.func53 (by kernel_rfl) rfl #[.int .i64 a0,.agg #[.int .i64 a1_0,.int .i64 a1_1,.bool a1_2,.string a1_3],.agg #[.int .i64 a2_0,.int .i64 a2_1,.bool a2_2,.string a2_3]] rfl (by (try simp only [List.map_toArray,List.map_cons,List.map_nil]); first | done | rfl | (simp only [List.length_drop,List.length_take]; rfl)) ?_; (with_reducible refine (value_judge.calls kj4 a0 a1_0 a1_1 a1_2 a1_3 a2_0 a2_1 a2_2 a2_3 t290 _ A34.out).mono ?_); rintro e w41 ⟨rfl,hb⟩; refine ⟨_,rfl,?_⟩; have n0_ := Aside0.mk (blk_below (g := gb283) (o := .cells #[.int .i64 a1_0,.int .i64 a1_1,.bool a1_2,.string a1_3] 23 (0,0)) (by (with_reducible repeat (first | refine blk_bytes ?_ _ _ | refine blk_drewN ?_ _ | refine blk_drew ?_ | refine blk_alloc ?_ _)); exact BK283.out) hb); have n1_ := Aside0.mk (blk_below (g := gb284) (o := .cells #[.int .i64 a2_0,.int .i64 a2_1,.bool a2_2,.string a2_3] 23 (0,0)) (by (with_reducible repeat (first | refine blk_bytes ?_ _ _ | refine blk_drewN ?_ _ | refine blk_drew ?_ | refine blk_alloc ?_ _)); exact BK284.out) hb); have n2_ := Aside0.mk (blk_below (g := gb285) (o := .cells #[.int .i64 0,.int .i64 0,.bool false,.string (⟨#[]⟩ : ByteArray)] 23 (0,0)) (by (with_reducible repeat (first | refine blk_bytes ?_ _ _ | refine blk_drewN ?_ _ | refine blk_drew ?_ | refine blk_alloc ?_ _)); exact BK285.out) hb); have n3_ := Aside0.mk (below_step (by repeat (first | (with_reducible first | exact HB.out | apply below_alloc | apply pw_below_drewN | apply below_drew1 | apply bytes_below1 | refine below_set ?_ GE283.out | refine below_set ?_ GE284.out | refine below_set ?_ GE285.out) | exact HB.out)) hb); clear BK283; clear BK284; clear BK285; clear HB; have BK283 := n0_; have BK284 := n1_; have BK285 := n2_; have HB := n3_; clear n0_ n1_ n2_ n3_; (try clear hb); (try clear hb2); (try clear hk); (try clear hi)) | ((with_reducible refine gate_callee (f := 8) rfl ?_); refine goesL_ (some 39) rfl rfl Tryz.func8 (by kernel_rfl) rfl #[.bool t290] rfl (by (try simp only [List.map_toArray,List.map_cons,List.map_nil]); first | done | rfl | (simp only [List.length_drop,List.length_take]; rfl)) ?_; (with_reducible refine (value_Bool.calls t290 t291 t292 t293 t294 _ A35.out).mono ?_); rintro e w42 ⟨rfl,hb⟩; refine ⟨_,rfl,?_⟩; have n0_ := Aside0.mk (blk_below (g := gb283) (o := .cells #[.int .i64 a1_0,.int .i64 a1_1,.bool a1_2,.string a1_3] 23 (0,0)) (by (with_reducible repeat (first | refine blk_bytes ?_ _ _ | refine blk_drewN ?_ _ | refine blk_drew ?_ | refine blk_alloc ?_ _)); exact BK283.out) hb); have n1_ := Aside0.mk (blk_below (g := gb284) (o := .cells #[.int .i64 a2_0,.int .i64 a2_1,.bool a2_2,.string a2_3] 23 (0,0)) (by (with_reducible repeat (first | refine blk_bytes ?_ _ _ | refine blk_drewN ?_ _ | refine blk_drew ?_ | refine blk_alloc ?_ _)); exact BK284.out) hb); have n2_ := Aside0.mk (blk_below (g := gb285) (o := .cells #[.int .i64 0,.int .i64 0,.bool false,.string (⟨#[]⟩ : ByteArray)] 23 (0,0)) (by (with_reducible repeat (first | refine blk_bytes ?_ _ _ | refine blk_drewN ?_ _ | refine blk_drew ?_ | refine blk_alloc ?_ _)); exact BK285.out) hb); have n3_ := Aside0.mk (below_step (by repeat (first | (with_reducible first | exact HB.out | apply below_alloc | apply pw_below_drewN | apply below_drew1 | apply bytes_below1 | refine below_set ?_ GE283.out | refine below_set ?_ GE284.out | refine below_set ?_ GE285.out) | exact HB.out)) hb); clear BK283; clear BK284; clear BK285; clear HB; have BK283 := n0_; have BK284 := n1_; have BK285 := n2_; have HB := n3_; clear n0_ n1_ n2_ n3_; (try clear hb); (try clear hb2); (try clear hk); (try clear hi); have hcz43_0 : w42.cell? ⟨gb285,0,none⟩ = some (.int .i64 0) := (blk_cell BK285.out 0).trans rfl; have hcz43_1 : w42.cell? ⟨gb285,1,none⟩ = some (.int .i64 0) := (blk_cell BK285.out 1).trans rfl; have hcz43_2 : w42.cell? ⟨gb285,2,none⟩ = some (.bool false) := (blk_cell BK285.out 2).trans rfl; have hcz43_3 : w42.cell? ⟨gb285,3,none⟩ = some (.string (⟨#[]⟩ : ByteArray)) := (blk_cell BK285.out 3).trans rfl; have hfz43_0 := blk_frozen BK285.out 0; have hfz43_1 := blk_frozen BK285.out 1; have hfz43_2 := blk_frozen BK285.out 2; have hfz43_3 := blk_frozen BK285.out 3))
       refine bodyPost_ret (results_ct rfl _ _ gb285 23 #[.int .i64 t291,.int .i64 t292,.bool t293,.string t294] (0,0) _ rfl (by (with_reducible repeat (first | refine blk_bytes ?_ _ _ | refine blk_drewN ?_ _ | refine blk_drew ?_ | refine blk_alloc ?_ _)); refine blk_put (cs := #[.int .i64 t291,.int .i64 t292,.bool t293,.string (⟨#[]⟩ : ByteArray)]) ?_ 3 _ rfl; (with_reducible repeat (first | refine blk_bytes ?_ _ _ | refine blk_drewN ?_ _ | refine blk_drew ?_ | refine blk_alloc ?_ _)); refine blk_put (cs := #[.int .i64 t291,.int .i64 t292,.bool false,.string (⟨#[]⟩ : ByteArray)]) ?_ 2 _ rfl; (with_reducible repeat (first | refine blk_bytes ?_ _ _ | refine blk_drewN ?_ _ | refine blk_drew ?_ | refine blk_alloc ?_ _)); refine blk_put (cs := #[.int .i64 t291,.int .i64 0,.bool false,.string (⟨#[]⟩ : ByteArray)]) ?_ 1 _ rfl; (with_reducible repeat (first | refine blk_bytes ?_ _ _ | refine blk_drewN ?_ _ | refine blk_drew ?_ | refine blk_alloc ?_ _)); refine blk_put (cs := #[.int .i64 0,.int .i64 0,.bool false,.string (⟨#[]⟩ : ByteArray)]) ?_ 0 _ rfl; (with_reducible repeat (first | refine blk_bytes ?_ _ _ | refine blk_drewN ?_ _ | refine blk_drew ?_ | refine blk_alloc ?_ _)); exact BK285.out) Tryz.underlying23 rfl (by kernel_rfl)) rfl ?_
       exact ⟨by first | rfl | (simp [errW_none,errW_some] <;> rfl) | (simp [*,errW_none,errW_some] <;> rfl),by repeat (first | (with_reducible first | exact HB.out | apply below_alloc | apply pw_below_drewN | apply below_drew1 | apply bytes_below1 | refine below_set ?_ GE283.out | refine below_set ?_ GE284.out | refine below_set ?_ GE285.out) | exact HB.out)⟩
     · rw [if_neg c33] at H
       have c33b0 : (t286 == 2) = false := beq_eq_false_iff_ne.mpr c33
       have c33b1 : (t286 != 2) = true := bne_iff_ne.mpr c33
       replace H := Option.bind_eq_some_iff.mp H
       obtain ⟨⟨t295,t296⟩,A440,H⟩ := H
       replace H : (if t296 = true then ((value_Int.f t295).bind fun bt297 => (some (bt297.1,bt297.2.1,bt297.2.2.1,bt297.2.2.2,true))) else (some (0,0,false,(⟨#[]⟩ : ByteArray),false))) = some (r1,r2,r3,r4,r5) := H
       have A44 := Aside0.mk A440
       clear A440
       by_cases c45 : t296 = true
       · subst c45
         have H1 : ((value_Int.f t295).bind fun bt297 => (some (bt297.1,bt297.2.1,bt297.2.2.1,bt297.2.2.2,true))) = some (r1,r2,r3,r4,r5) := by rw [if_pos rfl] at H; exact H
         clear H
         have H := H1
         clear H1
         replace H := Option.bind_eq_some_iff.mp H
         obtain ⟨⟨t297,t298,t299,t300⟩,A460,H⟩ := H
         replace H : (some (t297,t298,t299,t300,true)) = some (r1,r2,r3,r4,r5) := H
         have A46 := Aside0.mk A460
         clear A460
         simp only [Option.some.injEq,Prod.mk.injEq] at H
         obtain ⟨rfl,rfl,rfl,rfl,rfl⟩ := H
         have hnb47 := NB283_284.out
         have hnc47 := NB284_283.out
         have hnb48 := NB283_285.out
         have hnc48 := NB285_283.out
         have hcz49_0 : wc.cell? ⟨gb283,0,none⟩ = some (.int .i64 a1_0) := (blk_cell BK283.out 0).trans rfl
         have hcz49_1 : wc.cell? ⟨gb283,1,none⟩ = some (.int .i64 a1_1) := (blk_cell BK283.out 1).trans rfl
         have hcz49_2 : wc.cell? ⟨gb283,2,none⟩ = some (.bool a1_2) := (blk_cell BK283.out 2).trans rfl
         have hcz49_3 : wc.cell? ⟨gb283,3,none⟩ = some (.string a1_3) := (blk_cell BK283.out 3).trans rfl
         have hfz49_0 := blk_frozen BK283.out 0
         have hfz49_1 := blk_frozen BK283.out 1
         have hfz49_2 := blk_frozen BK283.out 2
         have hfz49_3 := blk_frozen BK283.out 3
         have hnb50 := NB284_285.out
         have hnc50 := NB285_284.out
         have hcz51_0 : wc.cell? ⟨gb284,0,none⟩ = some (.int .i64 a2_0) := (blk_cell BK284.out 0).trans rfl
         have hcz51_1 : wc.cell? ⟨gb284,1,none⟩ = some (.int .i64 a2_1) := (blk_cell BK284.out 1).trans rfl
         have hcz51_2 : wc.cell? ⟨gb284,2,none⟩ = some (.bool a2_2) := (blk_cell BK284.out 2).trans rfl
         have hcz51_3 : wc.cell? ⟨gb284,3,none⟩ = some (.string a2_3) := (blk_cell BK284.out 3).trans rfl
         have hfz51_0 := blk_frozen BK284.out 0
         have hfz51_1 := blk_frozen BK284.out 1
         have hfz51_2 := blk_frozen BK284.out 2
         have hfz51_3 := blk_frozen BK284.out 3
         go_wp2_with (first | ((with_reducible refine gate_callee (f := 54) rfl ?_); refine goesL_ (some 46) rfl rfl Tryz.func54 (by kernel_rfl) rfl #[.int .i64 a0,.int .i64 a1_1,.int .i64 a2_1] rfl (by (try simp only [List.map_toArray,List.map_cons,List.map_nil]); first | done | rfl | (simp only [List.length_drop,List.length_take]; rfl)) ?_; (with_reducible refine (value_reckon.calls kj4 a0 a1_1 a2_1 t295 true _ A44.out).mono ?_); rintro e w' ⟨rfl,⟨nd,rfl⟩⟩; refine ⟨_,rfl,?_⟩; (try (rw [drewN_self wc]; generalize hq_ : World.drewN wc _ = wc; have n0_ : Aside0 (wc.heap[gb283]? = some (.cells #[.int .i64 a1_0,.int .i64 a1_1,.bool a1_2,.string a1_3] 23 (0,0))) := ⟨by rw [← hq_]; exact (by (with_reducible repeat (first | refine blk_bytes ?_ _ _ | refine blk_drewN ?_ _ | refine blk_drew ?_ | refine blk_alloc ?_ _)); exact BK283.out)⟩; have n1_ : Aside0 (wc.heap[gb284]? = some (.cells #[.int .i64 a2_0,.int .i64 a2_1,.bool a2_2,.string a2_3] 23 (0,0))) := ⟨by rw [← hq_]; exact (by (with_reducible repeat (first | refine blk_bytes ?_ _ _ | refine blk_drewN ?_ _ | refine blk_drew ?_ | refine blk_alloc ?_ _)); exact BK284.out)⟩; have n2_ : Aside0 (wc.heap[gb285]? = some (.cells #[.int .i64 0,.int .i64 0,.bool false,.string (⟨#[]⟩ : ByteArray)] 23 (0,0))) := ⟨by rw [← hq_]; exact (by (with_reducible repeat (first | refine blk_bytes ?_ _ _ | refine blk_drewN ?_ _ | refine blk_drew ?_ | refine blk_alloc ?_ _)); exact BK285.out)⟩; have n3_ : Aside0 (Below w.heap.size w wc) := ⟨by rw [← hq_]; exact (by repeat (first | (with_reducible first | exact HB.out | apply below_alloc | apply pw_below_drewN | apply below_drew1 | apply bytes_below1 | refine below_set ?_ GE283.out | refine below_set ?_ GE284.out | refine below_set ?_ GE285.out) | exact HB.out))⟩; clear BK283 BK284 BK285 HB hq_; have BK283 := n0_; have BK284 := n1_; have BK285 := n2_; have HB := n3_; clear n0_ n1_ n2_ n3_))) | ((with_reducible refine gate_callee (f := 6) rfl ?_); refine goesL_ (some 53) rfl rfl Tryz.func6 (by kernel_rfl) rfl #[.int .i64 t295] rfl (by (try simp only [List.map_toArray,List.map_cons,List.map_nil]); first | done | rfl | (simp only [List.length_drop,List.length_take]; rfl)) ?_; (with_reducible refine (value_Int.calls t295 t297 t298 t299 t300 _ A46.out).mono ?_); rintro e w52 ⟨rfl,hb⟩; refine ⟨_,rfl,?_⟩; have n0_ := Aside0.mk (blk_below (g := gb283) (o := .cells #[.int .i64 a1_0,.int .i64 a1_1,.bool a1_2,.string a1_3] 23 (0,0)) (by (with_reducible repeat (first | refine blk_bytes ?_ _ _ | refine blk_drewN ?_ _ | refine blk_drew ?_ | refine blk_alloc ?_ _)); exact BK283.out) hb); have n1_ := Aside0.mk (blk_below (g := gb284) (o := .cells #[.int .i64 a2_0,.int .i64 a2_1,.bool a2_2,.string a2_3] 23 (0,0)) (by (with_reducible repeat (first | refine blk_bytes ?_ _ _ | refine blk_drewN ?_ _ | refine blk_drew ?_ | refine blk_alloc ?_ _)); exact BK284.out) hb); have n2_ := Aside0.mk (blk_below (g := gb285) (o := .cells #[.int .i64 0,.int .i64 0,.bool false,.string (⟨#[]⟩ : ByteArray)] 23 (0,0)) (by (with_reducible repeat (first | refine blk_bytes ?_ _ _ | refine blk_drewN ?_ _ | refine blk_drew ?_ | refine blk_alloc ?_ _)); exact BK285.out) hb); have n3_ := Aside0.mk (below_step (by repeat (first | (with_reducible first | exact HB.out | apply below_alloc | apply pw_below_drewN | apply below_drew1 | apply bytes_below1 | refine below_set ?_ GE283.out | refine below_set ?_ GE284.out | refine below_set ?_ GE285.out) | exact HB.out)) hb); clear BK283; clear BK284; clear BK285; clear HB; have BK283 := n0_; have BK284 := n1_; have BK285 := n2_; have HB := n3_; clear n0_ n1_ n2_ n3_; (try clear hb); (try clear hb2); (try clear hk); (try clear hi); have hcz53_0 : w52.cell? ⟨gb285,0,none⟩ = some (.int .i64 0) := (blk_cell BK285.out 0).trans rfl; have hcz53_1 : w52.cell? ⟨gb285,1,none⟩ = some (.int .i64 0) := (blk_cell BK285.out 1).trans rfl; have hcz53_2 : w52.cell? ⟨gb285,2,none⟩ = some (.bool false) := (blk_cell BK285.out 2).trans rfl; have hcz53_3 : w52.cell? ⟨gb285,3,none⟩ = some (.string (⟨#[]⟩ : ByteArray)) := (blk_cell BK285.out 3).trans rfl; have hfz53_0 := blk_frozen BK285.out 0; have hfz53_1 := blk_frozen BK285.out 1; have hfz53_2 := blk_frozen BK285.out 2; have hfz53_3 := blk_frozen BK285.out 3))
         refine bodyPost_ret (results_ct rfl _ _ gb285 23 #[.int .i64 t297,.int .i64 t298,.bool t299,.string t300] (0,0) _ rfl (by (with_reducible repeat (first | refine blk_bytes ?_ _ _ | refine blk_drewN ?_ _ | refine blk_drew ?_ | refine blk_alloc ?_ _)); refine blk_put (cs := #[.int .i64 t297,.int .i64 t298,.bool t299,.string (⟨#[]⟩ : ByteArray)]) ?_ 3 _ rfl; (with_reducible repeat (first | refine blk_bytes ?_ _ _ | refine blk_drewN ?_ _ | refine blk_drew ?_ | refine blk_alloc ?_ _)); refine blk_put (cs := #[.int .i64 t297,.int .i64 t298,.bool false,.string (⟨#[]⟩ : ByteArray)]) ?_ 2 _ rfl; (with_reducible repeat (first | refine blk_bytes ?_ _ _ | refine blk_drewN ?_ _ | refine blk_drew ?_ | refine blk_alloc ?_ _)); refine blk_put (cs := #[.int .i64 t297,.int .i64 0,.bool false,.string (⟨#[]⟩ : ByteArray)]) ?_ 1 _ rfl; (with_reducible repeat (first | refine blk_bytes ?_ _ _ | refine blk_drewN ?_ _ | refine blk_drew ?_ | refine blk_alloc ?_ _)); refine blk_put (cs := #[.int .i64 0,.int .i64 0,.bool false,.string (⟨#[]⟩ : ByteArray)]) ?_ 0 _ rfl; (with_reducible repeat (first | refine blk_bytes ?_ _ _ | refine blk_drewN ?_ _ | refine blk_drew ?_ | refine blk_alloc ?_ _)); exact BK285.out) Tryz.underlying23 rfl (by kernel_rfl)) rfl ?_
         exact ⟨by first | rfl | (simp [errW_none,errW_some] <;> rfl) | (simp [*,errW_none,errW_some] <;> rfl),by repeat (first | (with_reducible first | exact HB.out | apply below_alloc | apply pw_below_drewN | apply below_drew1 | apply bytes_below1 | refine below_set ?_ GE283.out | refine below_set ?_ GE284.out | refine below_set ?_ GE285.out) | exact HB.out)⟩
       · replace c45 := Bool.eq_false_iff.mpr c45
         subst c45
         have H1 : (some (0,0,false,(⟨#[]⟩ : ByteArray),false)) = some (r1,r2,r3,r4,r5) := by rw [if_neg (show ¬ (false = true) by decide)] at H; exact H
         clear H
         have H := H1
         clear H1
         simp only [Option.some.injEq,Prod.mk.injEq] at H
         obtain ⟨rfl,rfl,rfl,rfl,rfl⟩ := H
         have hnb54 := NB283_284.out
         have hnc54 := NB284_283.out
         have hnb55 := NB283_285.out
         have hnc55 := NB285_283.out
         have hcz56_0 : wc.cell? ⟨gb283,0,none⟩ = some (.int .i64 a1_0) := (blk_cell BK283.out 0).trans rfl
         have hcz56_1 : wc.cell? ⟨gb283,1,none⟩ = some (.int .i64 a1_1) := (blk_cell BK283.out 1).trans rfl
         have hcz56_2 : wc.cell? ⟨gb283,2,none⟩ = some (.bool a1_2) := (blk_cell BK283.out 2).trans rfl
         have hcz56_3 : wc.cell? ⟨gb283,3,none⟩ = some (.string a1_3) := (blk_cell BK283.out 3).trans rfl
         have hfz56_0 := blk_frozen BK283.out 0
         have hfz56_1 := blk_frozen BK283.out 1
         have hfz56_2 := blk_frozen BK283.out 2
         have hfz56_3 := blk_frozen BK283.out 3
         have hnb57 := NB284_285.out
         have hnc57 := NB285_284.out
         have hcz58_0 : wc.cell? ⟨gb284,0,none⟩ = some (.int .i64 a2_0) := (blk_cell BK284.out 0).trans rfl
         have hcz58_1 : wc.cell? ⟨gb284,1,none⟩ = some (.int .i64 a2_1) := (blk_cell BK284.out 1).trans rfl
         have hcz58_2 : wc.cell? ⟨gb284,2,none⟩ = some (.bool a2_2) := (blk_cell BK284.out 2).trans rfl
         have hcz58_3 : wc.cell? ⟨gb284,3,none⟩ = some (.string a2_3) := (blk_cell BK284.out 3).trans rfl
         have hfz58_0 := blk_frozen BK284.out 0
         have hfz58_1 := blk_frozen BK284.out 1
         have hfz58_2 := blk_frozen BK284.out 2
         have hfz58_3 := blk_frozen BK284.out 3
         go_wp2_with (first | ((with_reducible refine gate_callee (f := 54) rfl ?_); refine goesL_ (some 46) rfl rfl Tryz.func54 (by kernel_rfl) rfl #[.int .i64 a0,.int .i64 a1_1,.int .i64 a2_1] rfl (by (try simp only [List.map_toArray,List.map_cons,List.map_nil]); first | done | rfl | (simp only [List.length_drop,List.length_take]; rfl)) ?_; (with_reducible refine (value_reckon.calls kj4 a0 a1_1 a2_1 t295 false _ A44.out).mono ?_); rintro e w' ⟨rfl,⟨nd,rfl⟩⟩; refine ⟨_,rfl,?_⟩; (try (rw [drewN_self wc]; generalize hq_ : World.drewN wc _ = wc; have n0_ : Aside0 (wc.heap[gb283]? = some (.cells #[.int .i64 a1_0,.int .i64 a1_1,.bool a1_2,.string a1_3] 23 (0,0))) := ⟨by rw [← hq_]; exact (by (with_reducible repeat (first | refine blk_bytes ?_ _ _ | refine blk_drewN ?_ _ | refine blk_drew ?_ | refine blk_alloc ?_ _)); exact BK283.out)⟩; have n1_ : Aside0 (wc.heap[gb284]? = some (.cells #[.int .i64 a2_0,.int .i64 a2_1,.bool a2_2,.string a2_3] 23 (0,0))) := ⟨by rw [← hq_]; exact (by (with_reducible repeat (first | refine blk_bytes ?_ _ _ | refine blk_drewN ?_ _ | refine blk_drew ?_ | refine blk_alloc ?_ _)); exact BK284.out)⟩; have n2_ : Aside0 (wc.heap[gb285]? = some (.cells #[.int .i64 0,.int .i64 0,.bool false,.string (⟨#[]⟩ : ByteArray)] 23 (0,0))) := ⟨by rw [← hq_]; exact (by (with_reducible repeat (first | refine blk_bytes ?_ _ _ | refine blk_drewN ?_ _ | refine blk_drew ?_ | refine blk_alloc ?_ _)); exact BK285.out)⟩; have n3_ : Aside0 (Below w.heap.size w wc) := ⟨by rw [← hq_]; exact (by repeat (first | (with_reducible first | exact HB.out | apply below_alloc | apply pw_below_drewN | apply below_drew1 | apply bytes_below1 | refine below_set ?_ GE283.out | refine below_set ?_ GE284.out | refine below_set ?_ GE285.out) | exact HB.out))⟩; clear BK283 BK284 BK285 HB hq_; have BK283 := n0_; have BK284 := n1_; have BK285 := n2_; have HB := n3_; clear n0_ n1_ n2_ n3_)); have hcz59_0 : wc.cell? ⟨gb285,0,none⟩ = some (.int .i64 0) := (blk_cell BK285.out 0).trans rfl; have hcz59_1 : wc.cell? ⟨gb285,1,none⟩ = some (.int .i64 0) := (blk_cell BK285.out 1).trans rfl; have hcz59_2 : wc.cell? ⟨gb285,2,none⟩ = some (.bool false) := (blk_cell BK285.out 2).trans rfl; have hcz59_3 : wc.cell? ⟨gb285,3,none⟩ = some (.string (⟨#[]⟩ : ByteArray)) := (blk_cell BK285.out 3).trans rfl; have hfz59_0 := blk_frozen BK285.out 0; have hfz59_1 := blk_frozen BK285.out 1; have hfz59_2 := blk_frozen BK285.out 2; have hfz59_3 := blk_frozen BK285.out 3))
         refine bodyPost_ret (results_ct rfl _ _ gb285 23 #[.int .i64 0,.int .i64 0,.bool false,.string (⟨#[]⟩ : ByteArray)] (0,0) _ rfl (by (with_reducible repeat (first | refine blk_bytes ?_ _ _ | refine blk_drewN ?_ _ | refine blk_drew ?_ | refine blk_alloc ?_ _)); refine blk_put (cs := #[.int .i64 0,.int .i64 0,.bool false,.string (⟨#[]⟩ : ByteArray)]) ?_ 3 _ rfl; (with_reducible repeat (first | refine blk_bytes ?_ _ _ | refine blk_drewN ?_ _ | refine blk_drew ?_ | refine blk_alloc ?_ _)); refine blk_put (cs := #[.int .i64 0,.int .i64 0,.bool false,.string (⟨#[]⟩ : ByteArray)]) ?_ 2 _ rfl; (with_reducible repeat (first | refine blk_bytes ?_ _ _ | refine blk_drewN ?_ _ | refine blk_drew ?_ | refine blk_alloc ?_ _)); refine blk_put (cs := #[.int .i64 0,.int .i64 0,.bool false,.string (⟨#[]⟩ : ByteArray)]) ?_ 1 _ rfl; (with_reducible repeat (first | refine blk_bytes ?_ _ _ | refine blk_drewN ?_ _ | refine blk_drew ?_ | refine blk_alloc ?_ _)); refine blk_put (cs := #[.int .i64 0,.int .i64 0,.bool false,.string (⟨#[]⟩ : ByteArray)]) ?_ 0 _ rfl; (with_reducible repeat (first | refine blk_bytes ?_ _ _ | refine blk_drewN ?_ _ | refine blk_drew ?_ | refine blk_alloc ?_ _)); exact BK285.out) Tryz.underlying23 rfl (by kernel_rfl)) rfl ?_
         exact ⟨by first | rfl | (simp [errW_none,errW_some] <;> rfl) | (simp [*,errW_none,errW_some] <;> rfl),by repeat (first | (with_reducible first | exact HB.out | apply below_alloc | apply pw_below_drewN | apply below_drew1 | apply bytes_below1 | refine below_set ?_ GE283.out | refine below_set ?_ GE284.out | refine below_set ?_ GE285.out) | exact HB.out)⟩
end
section
/-! ### dossierlaw07_awake: function 20 -/
def dossierlaw07_awake.f (k : Nat)  : Option (Bool) := (value_Int.f (-7)).bind fun bt301 => ((value_Int.f 2).bind fun bt305 => ((value_Do.f k 8 bt301.1 bt301.2.1 bt301.2.2.1 bt301.2.2.2 bt305.1 bt305.2.1 bt305.2.2.1 bt305.2.2.2).bind fun bt309 => (if bt309.2.2.2.2 = true then (some (bt309.2.1 == (-3))) else (some false))))
set_option maxHeartbeats 8000000 in
set_option maxRecDepth 100000 in
theorem dossierlaw07_awake.calls (k : Nat)  (r : Bool) (w : World) (hL_ : Laid w) (h : dossierlaw07_awake.f k  = some r) :
 Calls Tryz.prog 20 #[] w fun e w' => e = .returned (.bool r) ∧ Below w.heap.size w w' := by
 have hu23 := Tryz.underlying23
 have HB := Aside0.mk (Below.refl w.heap.size w)
 have HLd := Aside0.mk hL_
 clear hL_
 have H : ((value_Int.f (-7)).bind fun bt301 => ((value_Int.f 2).bind fun bt305 => ((value_Do.f k 8 bt301.1 bt301.2.1 bt301.2.2.1 bt301.2.2.2 bt305.1 bt305.2.1 bt305.2.2.1 bt305.2.2.2).bind fun bt309 => (if bt309.2.2.2.2 = true then (some (bt309.2.1 == (-3))) else (some false))))) = some r := h
 clear h
 replace H := Option.bind_eq_some_iff.mp H
 obtain ⟨⟨t301,t302,t303,t304⟩,A10,H⟩ := H
 replace H : ((value_Int.f 2).bind fun bt305 => ((value_Do.f k 8 t301 t302 t303 t304 bt305.1 bt305.2.1 bt305.2.2.1 bt305.2.2.2).bind fun bt309 => (if bt309.2.2.2.2 = true then (some (bt309.2.1 == (-3))) else (some false)))) = some r := H
 have A1 := Aside0.mk A10
 clear A10
 replace H := Option.bind_eq_some_iff.mp H
 obtain ⟨⟨t305,t306,t307,t308⟩,A20,H⟩ := H
 replace H : ((value_Do.f k 8 t301 t302 t303 t304 t305 t306 t307 t308).bind fun bt309 => (if bt309.2.2.2.2 = true then (some (bt309.2.1 == (-3))) else (some false))) = some r := H
 have A2 := Aside0.mk A20
 clear A20
 replace H := Option.bind_eq_some_iff.mp H
 obtain ⟨⟨t309,t310,t311,t312,t313⟩,A30,H⟩ := H
 replace H : (if t313 = true then (some (t310 == (-3))) else (some false)) = some r := H
 have A3 := Aside0.mk A30
 clear A30
 by_cases c4 : t313 = true
 · subst c4
   have H1 : (some (t310 == (-3))) = some r := by rw [if_pos rfl] at H; exact H
   clear H
   have H := H1
   clear H1
   obtain rfl := Option.some.inj H
   go_enter Tryz.func20,Tryz.ntmps20
   go_wp2_with (first | ((with_reducible refine gate_callee (f := 6) rfl ?_); refine goesL_ (some 4) rfl rfl Tryz.func6 (by kernel_rfl) rfl #[.int .i64 (-7)] rfl (by (try simp only [List.map_toArray,List.map_cons,List.map_nil]); first | done | rfl | (simp only [List.length_drop,List.length_take]; rfl)) ?_; (with_reducible refine (value_Int.calls (-7) t301 t302 t303 t304 _ A1.out).mono ?_); rintro e w5 ⟨rfl,hb⟩; refine ⟨_,rfl,?_⟩; have n0_ := Aside0.mk (below_step (by repeat (first | (with_reducible first | exact HB.out | apply below_alloc | apply pw_below_drewN | apply below_drew1 | apply bytes_below1) | exact HB.out)) hb); clear HB; have HB := n0_; clear n0_; (try clear hb); (try clear hb2); (try clear hk); (try clear hi)) | ((with_reducible refine gate_callee (f := 6) rfl ?_); refine goesL_ (some 5) rfl rfl Tryz.func6 (by kernel_rfl) rfl #[.int .i64 2] rfl (by (try simp only [List.map_toArray,List.map_cons,List.map_nil]); first | done | rfl | (simp only [List.length_drop,List.length_take]; rfl)) ?_; (with_reducible refine (value_Int.calls 2 t305 t306 t307 t308 _ A2.out).mono ?_); rintro e w6 ⟨rfl,hb⟩; refine ⟨_,rfl,?_⟩; have n0_ := Aside0.mk (below_step (by repeat (first | (with_reducible first | exact HB.out | apply below_alloc | apply pw_below_drewN | apply below_drew1 | apply bytes_below1) | exact HB.out)) hb); clear HB; have HB := n0_; clear n0_; (try clear hb); (try clear hb2); (try clear hk); (try clear hi)) | ((with_reducible refine gate_callee (f := 39) rfl ?_); refine goesL_ (some 6) rfl rfl Tryz.func39 (by kernel_rfl) rfl #[.int .i64 8,.agg #[.int .i64 t301,.int .i64 t302,.bool t303,.string t304],.agg #[.int .i64 t305,.int .i64 t306,.bool t307,.string t308]] rfl (by (try simp only [List.map_toArray,List.map_cons,List.map_nil]); first | done | rfl | (simp only [List.length_drop,List.length_take]; rfl)) ?_; (with_reducible refine (value_Do.calls k 8 t301 t302 t303 t304 t305 t306 t307 t308 t309 t310 t311 t312 true _ ?side1 A3.out).mono ?_); (case side1 => exact Laid_below HLd.out (by repeat (first | (with_reducible first | exact HB.out | apply below_alloc | apply pw_below_drewN | apply below_drew1 | apply bytes_below1) | exact HB.out))); rintro e w7 ⟨rfl,hb⟩; refine ⟨_,rfl,?_⟩; have n0_ := Aside0.mk (below_step (by repeat (first | (with_reducible first | exact HB.out | apply below_alloc | apply pw_below_drewN | apply below_drew1 | apply bytes_below1) | exact HB.out)) hb); clear HB; have HB := n0_; clear n0_; (try clear hb); (try clear hb2); (try clear hk); (try clear hi)) | ((with_reducible refine gate_dst (N := 1) rfl ?_); refine box_event ?hg (N := 1) ?hd (cs := #[.int .i64 0,.int .i64 0,.bool false,.string (⟨#[]⟩ : ByteArray)]) (t := 23) ?hr ?_; (case hd => rfl); (case hg => rfl); (case hr => first | (go_simp; done) | (go_simp; rfl)); intro gb314 hg w8 hbox hb; have n0_ := Aside0.mk (below_step (by repeat (first | (with_reducible first | exact HB.out | apply below_alloc | apply pw_below_drewN | apply below_drew1 | apply bytes_below1) | exact HB.out)) hb); have n1_ := Aside0.mk (hbox); have n2_ := Aside0.mk ((by rw [hg]; exact (below_size (by repeat (first | (with_reducible first | exact HB.out | apply below_alloc | apply pw_below_drewN | apply below_drew1 | apply bytes_below1) | exact HB.out))) : w.heap.size ≤ gb314)); have n3_ := Aside0.mk ((by rw [hg]; exact (below_size (by repeat (first | (with_reducible first | exact HB.out | apply below_alloc | apply pw_below_drewN | apply below_drew1 | apply bytes_below1) | exact HB.out))) : w.heap.size ≤ gb314)); clear HB; have HB := n0_; have BK314 := n1_; have GW314 := n2_; have GE314 := n3_; clear n0_ n1_ n2_ n3_; clear hb hbox hg; have hcz9_0 : w8.cell? ⟨gb314,0,none⟩ = some (.int .i64 0) := (blk_cell BK314.out 0).trans rfl; have hcz9_1 : w8.cell? ⟨gb314,1,none⟩ = some (.int .i64 0) := (blk_cell BK314.out 1).trans rfl; have hcz9_2 : w8.cell? ⟨gb314,2,none⟩ = some (.bool false) := (blk_cell BK314.out 2).trans rfl; have hcz9_3 : w8.cell? ⟨gb314,3,none⟩ = some (.string (⟨#[]⟩ : ByteArray)) := (blk_cell BK314.out 3).trans rfl; have hfz9_0 := blk_frozen BK314.out 0; have hfz9_1 := blk_frozen BK314.out 1; have hfz9_2 := blk_frozen BK314.out 2; have hfz9_3 := blk_frozen BK314.out 3))
   go_ret
   exact ⟨by first | rfl | (simp [errW_none,errW_some] <;> rfl) | (simp [*,errW_none,errW_some] <;> rfl),by repeat (first | (with_reducible first | exact HB.out | apply below_alloc | apply pw_below_drewN | apply below_drew1 | apply bytes_below1 | refine below_set ?_ GE314.out) | exact HB.out)⟩
 · replace c4 := Bool.eq_false_iff.mpr c4
   subst c4
   have H1 : (some false) = some r := by rw [if_neg (show ¬ (false = true) by decide)] at H; exact H
   clear H
   have H := H1
   clear H1
   obtain rfl := Option.some.inj H
   go_enter Tryz.func20,Tryz.ntmps20
   go_wp2_with (first | ((with_reducible refine gate_callee (f := 6) rfl ?_); refine goesL_ (some 4) rfl rfl Tryz.func6 (by kernel_rfl) rfl #[.int .i64 (-7)] rfl (by (try simp only [List.map_toArray,List.map_cons,List.map_nil]); first | done | rfl | (simp only [List.length_drop,List.length_take]; rfl)) ?_; (with_reducible refine (value_Int.calls (-7) t301 t302 t303 t304 _ A1.out).mono ?_); rintro e w10 ⟨rfl,hb⟩; refine ⟨_,rfl,?_⟩; have n0_ := Aside0.mk (below_step (by repeat (first | (with_reducible first | exact HB.out | apply below_alloc | apply pw_below_drewN | apply below_drew1 | apply bytes_below1) | exact HB.out)) hb); clear HB; have HB := n0_; clear n0_; (try clear hb); (try clear hb2); (try clear hk); (try clear hi)) | ((with_reducible refine gate_callee (f := 6) rfl ?_); refine goesL_ (some 5) rfl rfl Tryz.func6 (by kernel_rfl) rfl #[.int .i64 2] rfl (by (try simp only [List.map_toArray,List.map_cons,List.map_nil]); first | done | rfl | (simp only [List.length_drop,List.length_take]; rfl)) ?_; (with_reducible refine (value_Int.calls 2 t305 t306 t307 t308 _ A2.out).mono ?_); rintro e w11 ⟨rfl,hb⟩; refine ⟨_,rfl,?_⟩; have n0_ := Aside0.mk (below_step (by repeat (first | (with_reducible first | exact HB.out | apply below_alloc | apply pw_below_drewN | apply below_drew1 | apply bytes_below1) | exact HB.out)) hb); clear HB; have HB := n0_; clear n0_; (try clear hb); (try clear hb2); (try clear hk); (try clear hi)) | ((with_reducible refine gate_callee (f := 39) rfl ?_); refine goesL_ (some 6) rfl rfl Tryz.func39 (by kernel_rfl) rfl #[.int .i64 8,.agg #[.int .i64 t301,.int .i64 t302,.bool t303,.string t304],.agg #[.int .i64 t305,.int .i64 t306,.bool t307,.string t308]] rfl (by (try simp only [List.map_toArray,List.map_cons,List.map_nil]); first | done | rfl | (simp only [List.length_drop,List.length_take]; rfl)) ?_; (with_reducible refine (value_Do.calls k 8 t301 t302 t303 t304 t305 t306 t307 t308 t309 t310 t311 t312 false _ ?side1 A3.out).mono ?_); (case side1 => exact Laid_below HLd.out (by repeat (first | (with_reducible first | exact HB.out | apply below_alloc | apply pw_below_drewN | apply below_drew1 | apply bytes_below1) | exact HB.out))); rintro e w12 ⟨rfl,hb⟩; refine ⟨_,rfl,?_⟩; have n0_ := Aside0.mk (below_step (by repeat (first | (with_reducible first | exact HB.out | apply below_alloc | apply pw_below_drewN | apply below_drew1 | apply bytes_below1) | exact HB.out)) hb); clear HB; have HB := n0_; clear n0_; (try clear hb); (try clear hb2); (try clear hk); (try clear hi)) | ((with_reducible refine gate_dst (N := 1) rfl ?_); refine box_event ?hg (N := 1) ?hd (cs := #[.int .i64 0,.int .i64 0,.bool false,.string (⟨#[]⟩ : ByteArray)]) (t := 23) ?hr ?_; (case hd => rfl); (case hg => rfl); (case hr => first | (go_simp; done) | (go_simp; rfl)); intro gb314 hg w13 hbox hb; have n0_ := Aside0.mk (below_step (by repeat (first | (with_reducible first | exact HB.out | apply below_alloc | apply pw_below_drewN | apply below_drew1 | apply bytes_below1) | exact HB.out)) hb); have n1_ := Aside0.mk (hbox); have n2_ := Aside0.mk ((by rw [hg]; exact (below_size (by repeat (first | (with_reducible first | exact HB.out | apply below_alloc | apply pw_below_drewN | apply below_drew1 | apply bytes_below1) | exact HB.out))) : w.heap.size ≤ gb314)); have n3_ := Aside0.mk ((by rw [hg]; exact (below_size (by repeat (first | (with_reducible first | exact HB.out | apply below_alloc | apply pw_below_drewN | apply below_drew1 | apply bytes_below1) | exact HB.out))) : w.heap.size ≤ gb314)); clear HB; have HB := n0_; have BK314 := n1_; have GW314 := n2_; have GE314 := n3_; clear n0_ n1_ n2_ n3_; clear hb hbox hg; have hcz14_0 : w13.cell? ⟨gb314,0,none⟩ = some (.int .i64 0) := (blk_cell BK314.out 0).trans rfl; have hcz14_1 : w13.cell? ⟨gb314,1,none⟩ = some (.int .i64 0) := (blk_cell BK314.out 1).trans rfl; have hcz14_2 : w13.cell? ⟨gb314,2,none⟩ = some (.bool false) := (blk_cell BK314.out 2).trans rfl; have hcz14_3 : w13.cell? ⟨gb314,3,none⟩ = some (.string (⟨#[]⟩ : ByteArray)) := (blk_cell BK314.out 3).trans rfl; have hfz14_0 := blk_frozen BK314.out 0; have hfz14_1 := blk_frozen BK314.out 1; have hfz14_2 := blk_frozen BK314.out 2; have hfz14_3 := blk_frozen BK314.out 3))
   go_ret
   exact ⟨by first | rfl | (simp [errW_none,errW_some] <;> rfl) | (simp [*,errW_none,errW_some] <;> rfl),by repeat (first | (with_reducible first | exact HB.out | apply below_alloc | apply pw_below_drewN | apply below_drew1 | apply bytes_below1 | refine below_set ?_ GE314.out) | exact HB.out)⟩
end
end Go.Proofs.YtifgpigicgaadaaGreatDoor.Q
end
section
/- What an operator makes: the program's and the reference's reckoning and judging are the same wherever they are asked. -/
set_option linter.unusedSimpArgs false
set_option linter.unusedVariables false
namespace Go.Proofs.YtifgpigicgaadaaGreatDoor.Does
open Go.RowKit Go.Proofs.YtifgpigicgaadaaGreatDoor.Q Go.Proofs.YtifgpigicgaadaaGreatDoorW.PrintWords Go.Proofs.YtifgpigicgaadaaGreatDoorW.PrintLast Go.Proofs.YtifgpigicgaadaaGreatDoorH Go.Proofs.YtifgpigicgaadaaGreatDoor.Chars Go.Proofs.YtifgpigicgaadaaGreatDoor.Values

def In64 (x : Int) : Prop := -9223372036854775808 ≤ x ∧ x < 9223372036854775808
theorem wrap_in (x : Int) : In64 (wrap64 x) := by unfold In64 wrap64; omega
theorem wrap_at {x : Int} (h : In64 x) : wrap64 x = x := by unfold In64 at h; unfold wrap64; omega

/-! ## Signs of bits -/
theorem sgn_wrap (v : BitVec 64) : IntKind.i64.wrap (v.toNat : Int) < 0 ↔ v.msb = true := by
  have h := v.isLt
  rw [BitVec.msb_eq_decide, decide_eq_true_eq]
  simp [IntKind.wrap, IntKind.bits, IntKind.signed]
  omega
theorem msb_of (x : Int) (h : In64 x) : (BitVec.ofInt 64 x).msb = true ↔ x < 0 := by
  unfold In64 at h
  rw [BitVec.msb_eq_decide, decide_eq_true_eq, BitVec.toNat_ofInt]
  omega
theorem in_wrap (n : Int) : In64 (IntKind.i64.wrap n) := by
  unfold In64
  simp [IntKind.wrap, IntKind.bits, IntKind.signed]
  omega
theorem xor_in (x y : Int) : In64 (Go.bits .xor .i64 x y) := in_wrap _
theorem sgn_xor (x y : Int) (hx : In64 x) (hy : In64 y) : Go.bits .xor .i64 x y < 0 ↔ ¬ (x < 0 ↔ y < 0) := by
  have e : Go.bits .xor .i64 x y < 0 ↔ (BitVec.ofInt 64 x ^^^ BitVec.ofInt 64 y).msb = true := sgn_wrap _
  rw [e, BitVec.msb_xor, ← msb_of x hx, ← msb_of y hy]
  cases (BitVec.ofInt 64 x).msb <;> cases (BitVec.ofInt 64 y).msb <;> simp
theorem sgn_and (x y : Int) (hx : In64 x) (hy : In64 y) : Go.bits .and .i64 x y < 0 ↔ (x < 0 ∧ y < 0) := by
  have e : Go.bits .and .i64 x y < 0 ↔ (BitVec.ofInt 64 x &&& BitVec.ofInt 64 y).msb = true := sgn_wrap _
  rw [e, BitVec.msb_and, ← msb_of x hx, ← msb_of y hy]
  cases (BitVec.ofInt 64 x).msb <;> cases (BitVec.ofInt 64 y).msb <;> simp

theorem add_ok (a b : Int) (ha : In64 a) (hb : In64 b) :
    decide ((Go.bits .and .i64 (Go.bits .xor .i64 a (wrap64 (a + b))) (Go.bits .xor .i64 b (wrap64 (a + b)))) ≥ 0) = ((decide ((wrap64 (a + b)) > a)) == (decide (b > 0))) := by
  have hs := wrap_in (a + b)
  have h1 := sgn_and _ _ (xor_in a (wrap64 (a + b))) (xor_in b (wrap64 (a + b)))
  rw [sgn_xor a _ ha hs, sgn_xor b _ hb hs] at h1
  have hw : wrap64 (a + b) = a + b ∨ wrap64 (a + b) = a + b - 18446744073709551616 ∨ wrap64 (a + b) = a + b + 18446744073709551616 := by
    unfold In64 at ha hb; unfold wrap64; omega
  unfold In64 at ha hb hs
  generalize wrap64 (a + b) = s at *
  generalize Go.bits .and .i64 (Go.bits .xor .i64 a s) (Go.bits .xor .i64 b s) = q at *
  rw [Bool.eq_iff_iff]
  simp only [decide_eq_true_eq, beq_iff_eq, decide_eq_decide]
  omega
theorem sub_ok (a b : Int) (ha : In64 a) (hb : In64 b) :
    decide ((Go.bits .and .i64 (Go.bits .xor .i64 a b) (Go.bits .xor .i64 a (wrap64 (a - b)))) ≥ 0) = ((decide ((wrap64 (a - b)) < a)) == (decide (b > 0))) := by
  have hs := wrap_in (a - b)
  have h1 := sgn_and _ _ (xor_in a b) (xor_in a (wrap64 (a - b)))
  rw [sgn_xor a _ ha hs, sgn_xor a _ ha hb] at h1
  have hw : wrap64 (a - b) = a - b ∨ wrap64 (a - b) = a - b - 18446744073709551616 ∨ wrap64 (a - b) = a - b + 18446744073709551616 := by
    unfold In64 at ha hb; unfold wrap64; omega
  unfold In64 at ha hb hs
  generalize wrap64 (a - b) = s at *
  generalize Go.bits .and .i64 (Go.bits .xor .i64 a b) (Go.bits .xor .i64 a s) = q at *
  rw [Bool.eq_iff_iff]
  simp only [decide_eq_true_eq, beq_iff_eq, decide_eq_decide]
  omega

/-! ## Products -/
def mag (a : Int) : Int := if a < 0 then -a else a
theorem product_1_spec (a : Int) (h : In64 a) : value_product_1.f a = some (mag a) := by
  unfold In64 at h
  unfold value_product_1.f mag
  simp only [IntKind.wrap_u64]
  split
  · congr 1; omega
  · congr 1; omega
theorem mag_mul (a b : Int) : mag a * mag b = mag (a * b) := by
  unfold mag
  by_cases h1 : a < 0
  · by_cases h2 : b < 0
    · rw [if_pos h1, if_pos h2, if_neg (by have := Int.mul_pos_of_neg_of_neg h1 h2; omega), Int.neg_mul_neg]
    · by_cases h3 : b = 0
      · subst h3; simp
      · rw [if_pos h1, if_neg h2, if_pos (Int.mul_neg_of_neg_of_pos h1 (by omega)), Int.neg_mul]
  · by_cases h4 : a = 0
    · subst h4; simp
    · by_cases h2 : b < 0
      · rw [if_neg h1, if_pos h2, if_pos (Int.mul_neg_of_pos_of_neg (by omega) h2), Int.mul_neg]
      · rw [if_neg h1, if_neg h2, if_neg (by have := Int.mul_nonneg (a := a) (b := b) (by omega) (by omega); omega)]
instance (x : Int) : Decidable (In64 x) := by unfold In64; infer_instance
theorem sign_mul (a b : Int) : ((decide (a < 0)) != (decide (b < 0))) = true → a * b ≤ 0 := by
  intro h
  simp at h
  by_cases h1 : a < 0
  · exact Int.mul_nonpos_of_nonpos_of_nonneg (by omega) (by omega)
  · exact Int.mul_nonpos_of_nonneg_of_nonpos (by omega) (by omega)
theorem sign_mul' (a b : Int) : ¬ ((decide (a < 0)) != (decide (b < 0))) = true → 0 ≤ a * b := by
  intro h
  simp at h
  by_cases h1 : a < 0
  · exact Int.mul_nonneg_of_nonpos_of_nonpos (by omega) (by omega)
  · exact Int.mul_nonneg (by omega) (by omega)
theorem product_spec (a b : Int) (ha : In64 a) (hb : In64 b) : value_product.f a b = some (wrap64 (a * b), decide (In64 (a * b))) := by
  unfold value_product.f
  rw [product_1_spec a ha, Option.bind_some, product_1_spec b hb, Option.bind_some]
  unfold bits_Mul64.f
  have h1 : 0 ≤ mag a ∧ mag a < 18446744073709551616 := by unfold In64 at ha; unfold mag; split <;> omega
  have h2 : 0 ≤ mag b ∧ mag b < 18446744073709551616 := by unfold In64 at hb; unfold mag; split <;> omega
  rw [if_pos ⟨h1.1, h1.2, h2⟩, Option.bind_some, mag_mul]
  have s1 := sign_mul a b
  have s2 := sign_mul' a b
  generalize a * b = q at *
  by_cases hc : ((decide (a < 0)) != (decide (b < 0))) = true
  · have s1 := s1 hc
    rw [if_pos hc]
    have hm : mag q = -q := by unfold mag; split <;> omega
    simp only [hm]
    split
    · congr 2; rw [decide_eq_decide]; unfold In64; omega
    · congr 2; symm; rw [decide_eq_false_iff_not]; unfold In64; omega
  · have s2 := s2 hc
    rw [if_neg hc]
    have hm : mag q = q := by unfold mag; split <;> omega
    simp only [hm]
    split
    · congr 2; rw [decide_eq_decide]; unfold In64; omega
    · congr 2; symm; rw [decide_eq_false_iff_not]; unfold In64; omega
theorem tdiv_mul_in (a b : Int) (ha : In64 a) (hb : In64 b) (h0 : b ≠ 0) (h1 : ¬ (b = -1 ∧ a = -9223372036854775808)) :
    ((wrap64 (Int.tdiv (wrap64 (a * b)) b)) == a) = decide (In64 (a * b)) := by
  by_cases h : In64 (a * b)
  · rw [wrap_at h, Int.mul_tdiv_cancel _ h0, wrap_at ha]; simp [h]
  · simp only [h, decide_false, beq_eq_false_iff_ne, ne_eq]
    intro e
    have hp := wrap_in (a * b)
    have hq : ∃ m : Int, m ≠ 0 ∧ wrap64 (a * b) = a * b - m * 18446744073709551616 := by
      refine ⟨(a * b + 9223372036854775808) / 18446744073709551616, ?_, ?_⟩
      · unfold In64 at h; omega
      · unfold wrap64; omega
    obtain ⟨m, hm, hq⟩ := hq
    generalize hP : wrap64 (a * b) = p at *
    have hdm := Int.mul_tdiv_add_tmod p b
    have hlt : (Int.tmod p b).natAbs < b.natAbs := by
      rw [Int.natAbs_tmod]; exact Nat.mod_lt _ (by omega)
    have hr : Int.tdiv p b = a ∨ (Int.tdiv p b = 9223372036854775808 ∧ b = -1 ∧ p = -9223372036854775808) := by
      by_cases hin : In64 (Int.tdiv p b)
      · rw [wrap_at hin] at e; exact Or.inl e
      · right
        have hle : (Int.tdiv p b).natAbs = p.natAbs / b.natAbs := Int.natAbs_tdiv p b
        have hb2 : b.natAbs = 1 ∨ 2 ≤ b.natAbs := by omega
        have hpn : p.natAbs ≤ 9223372036854775808 := by unfold In64 at hp; omega
        rcases hb2 with hb1 | hb2
        · have : b = 1 ∨ b = -1 := by omega
          rcases this with rfl | rfl
          · rw [Int.tdiv_one] at hin; exact absurd hp hin
          · rw [Int.tdiv_neg, Int.tdiv_one] at hin ⊢
            unfold In64 at hin hp; omega
        · have h3 : p.natAbs / b.natAbs ≤ p.natAbs / 2 := Nat.div_le_div_left hb2 (by decide)
          unfold In64 at hin; omega
    rcases hr with hr | ⟨hr, rfl, hp2⟩
    · rw [hr] at hdm
      have hc : b * a = a * b := Int.mul_comm b a
      unfold In64 at hb
      omega
    · rw [hp2] at hq
      unfold In64 at ha
      omega

/-! ## An operator's integer -/
def reckonV (op a b : Int) : Int × Bool :=
  if op = 6 then (wrap64 (-a), (a != (-9223372036854775808)))
  else if op = 10 then (wrap64 (a + b), ((decide ((wrap64 (a + b)) > a)) == (decide (b > 0))))
  else if op = 11 then (wrap64 (a - b), ((decide ((wrap64 (a - b)) < a)) == (decide (b > 0))))
  else if op = 7 then (wrap64 (a * b), decide (In64 (a * b)))
  else if b = 0 then (0, false)
  else if op = 8 then (if b = -1 then (wrap64 (-a), (a != (-9223372036854775808))) else (wrap64 (Int.tdiv a b), true))
  else if b = -1 then (0, true)
  else (Int.tmod a b, true)
theorem reckon_spec (k : Nat) (op a b : Int) (ha : In64 a) (hb : In64 b) : value_reckon.f (k + 3) op a b = some (reckonV op a b) := by
  unfold value_reckon.f reckonV
  by_cases h6 : op = 6
  · rw [if_pos h6, if_pos h6]
  rw [if_neg h6, if_neg h6]
  by_cases h10 : op = 10
  · rw [if_pos h10, if_pos h10, add_ok a b ha hb]
  rw [if_neg h10, if_neg h10]
  by_cases h11 : op = 11
  · rw [if_pos h11, if_pos h11, sub_ok a b ha hb]
  rw [if_neg h11, if_neg h11]
  by_cases h7 : op = 7
  · rw [if_pos h7, if_pos h7, product_spec a b ha hb]; rfl
  rw [if_neg h7, if_neg h7]
  by_cases h0 : b = 0
  · rw [if_pos h0, if_pos h0]
  rw [if_neg h0, if_neg h0]
  by_cases h8 : op = 8 <;> by_cases h1 : b = -1
  · simp [h8, h1, value_reckon.j0]
  · simp [h8, h1, value_reckon.j0, h0]
  · simp [h8, h1, value_reckon.j0]
  · simp [h8, h1, value_reckon.j0, h0]
def wholeV (op a b : Int) : Int × Bool :=
  if op = 6 then (wrap64 (-a), (a != (-9223372036854775808)))
  else if op = 7 then (if a = 0 ∨ b = 0 then (0, true) else if (a = -1 ∧ b = -9223372036854775808) ∨ (b = -1 ∧ a = -9223372036854775808) then (0, false) else (wrap64 (a * b), decide (In64 (a * b))))
  else if op = 8 then (if b = 0 then (0, false) else if a = -9223372036854775808 ∧ b = -1 then (0, false) else (wrap64 (Int.tdiv a b), true))
  else if op = 9 then (if b = 0 then (0, false) else if b = -1 then (0, true) else (Int.tmod a b, true))
  else if op = 10 then (wrap64 (a + b), ((decide ((wrap64 (a + b)) > a)) == (decide (b > 0))))
  else (wrap64 (a - b), ((decide ((wrap64 (a - b)) < a)) == (decide (b > 0))))
/-- The same wherever an operator makes an integer. -/
theorem reckon_whole (op a b : Int) (ha : In64 a) (hb : In64 b) (hop : 6 ≤ op ∧ op ≤ 11) : (reckonV op a b).2 = (wholeV op a b).2 ∧ ((wholeV op a b).2 = true → (reckonV op a b).1 = (wholeV op a b).1) := by
  have hc : op = 6 ∨ op = 7 ∨ op = 8 ∨ op = 9 ∨ op = 10 ∨ op = 11 := by omega
  rcases hc with rfl | rfl | rfl | rfl | rfl | rfl
  · simp [reckonV, wholeV]
  · simp only [reckonV, wholeV]
    simp
    by_cases h : a = 0 ∨ b = 0
    · rw [if_pos h]
      have e : a * b = 0 := by rcases h with rfl | rfl <;> simp
      rw [e]; simp [In64]; unfold wrap64; omega
    · rw [if_neg h]
      by_cases h3 : (a = -1 ∧ b = -9223372036854775808) ∨ (b = -1 ∧ a = -9223372036854775808)
      · rw [if_pos h3]
        have e : a * b = 9223372036854775808 := by rcases h3 with ⟨rfl, rfl⟩ | ⟨rfl, rfl⟩ <;> rfl
        rw [e]; simp [In64]
      · rw [if_neg h3]; simp
  · simp only [reckonV, wholeV]
    simp
    by_cases h0 : b = 0
    · simp [h0]
    by_cases h1 : b = -1
    · subst h1
      by_cases h2 : a = -9223372036854775808
      · simp [h2]
      · simp [h2, Int.tdiv_neg]
    · simp [h0, h1]
  · simp only [reckonV, wholeV]
    by_cases h0 : b = 0
    · simp [h0]
    by_cases h1 : b = -1
    · simp [h1]
    · simp [h0, h1]
  · simp [reckonV, wholeV]
  · simp [reckonV, wholeV]

/-! ## An operator's truth -/
theorem less_compare : ∀ a b : List UInt8, (Op.bytesLess a b = decide (Lib.compareBytes a b < 0)) ∧ (Op.bytesLess b a = decide (Lib.compareBytes a b > 0))
  | [], [] => ⟨rfl, rfl⟩
  | [], _ :: _ => ⟨rfl, rfl⟩
  | _ :: _, [] => ⟨rfl, rfl⟩
  | a :: x, b :: y => by
    have ih := less_compare x y
    unfold Op.bytesLess Lib.compareBytes
    by_cases h1 : a < b
    · have h2 : ¬ b < a := fun h => absurd (UInt8.lt_trans h1 h) (UInt8.lt_irrefl a)
      have h3 : ¬ b = a := fun h => by subst h; exact h2 h1
      simp [h1, h2, h3]
    · by_cases h2 : b < a
      · have h3 : ¬ a = b := fun h => by subst h; exact h1 h2
        simp [h1, h2, h3]
      · have h3 : a = b := UInt8.le_antisymm (UInt8.not_lt.1 h2) (UInt8.not_lt.1 h1)
        subst h3
        simp [UInt8.lt_irrefl, ih.1, ih.2]
def ordV (i : Int) (t : ByteArray) (j : Int) (u : ByteArray) : Int := if i < j then -1 else if j < i then 1 else Lib.compareBytes t.data.toList u.data.toList
theorem or2 (k : Nat) (x y : Int) : cmp_Or_int.f (k + 3) [x, y] = some (if x = 0 then (if y = 0 then 0 else y) else x) := by
  have w1 : wrap64 (0 + 1) = 1 := wrap_at (by unfold In64; omega)
  have w2 : wrap64 (1 + 1) = 2 := wrap_at (by unfold In64; omega)
  have r0 : rd [x, y] 0 = x := rfl
  have r1 : rd [x, y] 1 = y := rfl
  unfold cmp_Or_int.f
  rw [show k + 3 = (k + 2) + 1 from rfl, cmp_Or_int.l0, if_pos (by simp), if_pos (by simp), if_pos (by simp), r0, w1]
  by_cases hx : x = 0
  · rw [if_pos hx, if_pos hx, show k + 2 = (k + 1) + 1 from rfl, cmp_Or_int.l0, if_pos (by simp), if_pos (by simp), if_pos (by simp), r1, w2]
    by_cases hy : y = 0
    · rw [if_pos hy, if_pos hy, cmp_Or_int.l0, if_neg (by simp)]
    · rw [if_neg hy, if_neg hy]
  · rw [if_neg hx, if_neg hx]
def sameV (n1 i1 : Int) (y1 : Bool) (t1 : ByteArray) (n2 i2 : Int) (y2 : Bool) (t2 : ByteArray) : Bool := n1 == n2 && (i1 == i2 && (y1 == y2 && (t1.toList == t2.toList)))
def judgeV (op n1 i1 : Int) (y1 : Bool) (t1 : ByteArray) (n2 i2 : Int) (y2 : Bool) (t2 : ByteArray) : Bool :=
  if op = 5 then !y1 else if op = 18 then y1 && y2 else if op = 19 then y1 || y2
  else if op = 16 then sameV n1 i1 y1 t1 n2 i2 y2 t2 else if op = 17 then !sameV n1 i1 y1 t1 n2 i2 y2 t2
  else if op = 12 then decide (ordV i1 t1 i2 t2 < 0) else if op = 13 then decide (ordV i1 t1 i2 t2 ≤ 0) else if op = 14 then decide (ordV i1 t1 i2 t2 > 0) else decide (ordV i1 t1 i2 t2 ≥ 0)
theorem judge_spec (k : Nat) (op n1 i1 : Int) (y1 : Bool) (t1 : ByteArray) (n2 i2 : Int) (y2 : Bool) (t2 : ByteArray) : value_judge.f (k + 3) op n1 i1 y1 t1 n2 i2 y2 t2 = some (judgeV op n1 i1 y1 t1 n2 i2 y2 t2) := by
  unfold value_judge.f judgeV
  have c : cmp_Compare_int.f i1 i2 = some (if i1 < i2 then -1 else if i2 < i1 then 1 else 0) := by
    unfold cmp_Compare_int.f cmp_isNaN_int.f
    simp
    repeat' split
    all_goals rfl
  rw [c, Option.bind_some]
  unfold strings_Compare.f
  rw [Option.bind_some, or2, Option.bind_some]
  have e : (if (if i1 < i2 then (-1 : Int) else if i2 < i1 then 1 else 0) = 0 then (if Lib.compareBytes t1.data.toList t2.data.toList = 0 then 0 else Lib.compareBytes t1.data.toList t2.data.toList) else (if i1 < i2 then (-1 : Int) else if i2 < i1 then 1 else 0)) = ordV i1 t1 i2 t2 := by
    unfold ordV
    repeat' split
    all_goals omega
  rw [e]
  unfold sameV
  repeat' split
  all_goals first | rfl | (simp_all; done)
def truthV (op n1 i1 : Int) (y1 : Bool) (t1 : ByteArray) (n2 i2 : Int) (y2 : Bool) (t2 : ByteArray) (o : Int) : Bool :=
  if op = 5 then !y1 else if op = 12 then decide (o < 0) else if op = 13 then decide (o ≤ 0) else if op = 14 then decide (o > 0) else if op = 15 then decide (o ≥ 0)
  else if op = 16 then sameV n1 i1 y1 t1 n2 i2 y2 t2 else if op = 17 then !sameV n1 i1 y1 t1 n2 i2 y2 t2 else if op = 18 then y1 && y2 else y1 || y2
def orderV (i : Int) (t : ByteArray) (j : Int) (u : ByteArray) : Int :=
  if i < j ∨ Op.bytesLess t.toList u.toList = true then -1 else if i > j ∨ Op.bytesLess u.toList t.toList = true then 1 else 0
/-- Of integers alone, or of texts alone, both orders are one. -/
theorem orders (i j : Int) (t u : ByteArray) (h : (t.toList = [] ∧ u.toList = []) ∨ (i = 0 ∧ j = 0)) : (ordV i t j u < 0 ↔ orderV i t j u < 0) ∧ (ordV i t j u > 0 ↔ orderV i t j u > 0) := by
  have hc := less_compare t.toList u.toList
  unfold ordV orderV
  rw [← Lib.toList_data, ← Lib.toList_data, hc.1, hc.2]
  rcases h with ⟨h1, h2⟩ | ⟨rfl, rfl⟩
  · rw [h1, h2]
    simp only [Lib.compareBytes]
    simp
  · generalize Lib.compareBytes t.toList u.toList = c
    simp
    constructor
    · repeat' split
      all_goals omega
    · repeat' split
      all_goals omega
theorem judge_truth (op n1 i1 : Int) (y1 : Bool) (t1 : ByteArray) (n2 i2 : Int) (y2 : Bool) (t2 : ByteArray) (hK : (kindV op n1 n2) = (2, true)) (h1 : canV n1 i1 y1 t1 = true) (h2 : canV n2 i2 y2 t2 = true) :
    judgeV op n1 i1 y1 t1 n2 i2 y2 t2 = truthV op n1 i1 y1 t1 n2 i2 y2 t2 (orderV i1 t1 i2 t2) := by
  by_cases hout : op < 5 ∨ 19 < op
  · rw [kindV_out _ _ _ hout] at hK; cases hK
  by_cases hm : 12 ≤ op ∧ op ≤ 15
  · have hk : n1 = n2 ∧ (n1 = 1 ∨ n1 = 3) := by
      unfold kindV at hK
      rw [if_neg (by omega), if_neg (by omega), if_neg (by omega), if_pos hm] at hK
      by_cases h : n1 = n2 ∧ (n1 = 1 ∨ n1 = 3)
      · exact h
      · rw [if_neg h] at hK; cases hK
    have ho : (t1.toList = [] ∧ t2.toList = []) ∨ (i1 = 0 ∧ i2 = 0) := by
      obtain ⟨rfl, rfl | rfl⟩ := hk
      · left
        simp [canV] at h1 h2
        exact ⟨h1.2, h2.2⟩
      · right
        simp [canV] at h1 h2
        exact ⟨h1.1, h2.1⟩
    have hO := orders i1 i2 t1 t2 ho
    unfold judgeV truthV
    generalize ordV i1 t1 i2 t2 = p at *
    generalize orderV i1 t1 i2 t2 = q at *
    have hc : op = 12 ∨ op = 13 ∨ op = 14 ∨ op = 15 := by omega
    rcases hc with rfl | rfl | rfl | rfl
    · simp; omega
    · simp; omega
    · simp; omega
    · simp; omega
  · have hc : op = 5 ∨ op = 16 ∨ op = 17 ∨ op = 18 ∨ op = 19 := by
      by_cases h : 6 ≤ op ∧ op ≤ 11
      · exfalso
        unfold kindV at hK
        rw [if_neg (by omega)] at hK
        repeat' split at hK
        all_goals first | (cases hK; done) | omega
      · omega
    rcases hc with rfl | rfl | rfl | rfl | rfl <;> simp [judgeV, truthV]

/-! ## An operator's value -/
def doV (J : Bool) (R K : Int × Bool) (c : Bool) : Int × Int × Bool × ByteArray × Bool :=
  if K.2 = true ∧ c = true then (if K.1 = 2 then (2, 0, J, ⟨#[]⟩, true) else if R.2 = true then (1, R.1, false, ⟨#[]⟩, true) else (0, 0, false, ⟨#[]⟩, false)) else (0, 0, false, ⟨#[]⟩, false)
theorem Do_spec (k : Nat) (op n1 i1 : Int) (y1 : Bool) (t1 : ByteArray) (n2 i2 : Int) (y2 : Bool) (t2 : ByteArray) (g1 : In64 i1) (g2 : In64 i2) :
    value_Do.f (k + 400) op n1 i1 y1 t1 n2 i2 y2 t2 = some (doV (judgeV op n1 i1 y1 t1 n2 i2 y2 t2) (reckonV op i1 i2) (kindV op n1 n2) (canV n1 i1 y1 t1 && canV n2 i2 y2 t2)) := by
  unfold value_Do.f doV
  rw [show k + 400 = (k + 395) + 5 from rfl, Kind_spec, Option.bind_some, show k + 395 + 5 = (k + 99) + 301 from rfl, Can_spec, Can_spec]
  simp only [Option.bind_some]
  rw [show k + 99 + 301 = (k + 399) + 1 from rfl]
  simp only [value_Do.j0]
  rw [show k + 399 = (k + 396) + 3 from rfl, judge_spec, reckon_spec _ _ _ _ g1 g2]
  unfold value_Int.f value_Bool.f
  generalize canV n1 i1 y1 t1 = c1
  generalize canV n2 i2 y2 t2 = c2
  generalize kindV op n1 n2 = K
  generalize reckonV op i1 i2 = R
  cases c1 <;> cases c2 <;> simp <;> repeat' split
  all_goals first | rfl | (simp_all; done)
theorem kind_int (op a b : Int) (h : (kindV op a b).2 = true) : (kindV op a b).1 = 2 ∨ ((kindV op a b).1 = 1 ∧ 6 ≤ op ∧ op ≤ 11) := by
  unfold kindV at h ⊢
  repeat' split
  all_goals simp_all
  all_goals omega
theorem Do_same (op n1 i1 : Int) (y1 : Bool) (t1 : ByteArray) (n2 i2 : Int) (y2 : Bool) (t2 : ByteArray) (g1 : In64 i1) (g2 : In64 i2) :
    doV (judgeV op n1 i1 y1 t1 n2 i2 y2 t2) (reckonV op i1 i2) (kindV op n1 n2) (canV n1 i1 y1 t1 && canV n2 i2 y2 t2) = doV (truthV op n1 i1 y1 t1 n2 i2 y2 t2 (orderV i1 t1 i2 t2)) (wholeV op i1 i2) (kindV op n1 n2) (canV n1 i1 y1 t1 && canV n2 i2 y2 t2) := by
  unfold doV
  by_cases h : (kindV op n1 n2).2 = true ∧ (canV n1 i1 y1 t1 && canV n2 i2 y2 t2) = true
  · rw [if_pos h, if_pos h]
    rcases kind_int op n1 n2 h.1 with hk | ⟨hk, hop⟩
    · have hc := h.2
      rw [Bool.and_eq_true] at hc
      rw [if_pos hk, if_pos hk, judge_truth op n1 i1 y1 t1 n2 i2 y2 t2 (Prod.ext hk h.1) hc.1 hc.2]
    · have hk2 : ¬ (kindV op n1 n2).1 = 2 := by rw [hk]; decide
      rw [if_neg hk2, if_neg hk2]
      have := reckon_whole op i1 i2 g1 g2 hop
      rw [this.1]
      by_cases h2 : (wholeV op i1 i2).2 = true
      · rw [if_pos h2, if_pos h2, this.2 h2]
      · rw [if_neg h2, if_neg h2]
  · rw [if_neg h, if_neg h]
theorem awake_spec (k : Nat) : dossierlaw07_awake.f (k + 400) = some true := by
  unfold dossierlaw07_awake.f value_Int.f
  simp only [Option.bind_some]
  rw [Do_spec k 8 1 (-7) false ⟨#[]⟩ 1 2 false ⟨#[]⟩ (by unfold In64; omega) (by unfold In64; omega)]
  have e1 : canV 1 (-7) false ⟨#[]⟩ = true := by unfold canV; rw [toList_nil]; rfl
  have e2 : canV 1 2 false ⟨#[]⟩ = true := by unfold canV; rw [toList_nil]; rfl
  have e3 : reckonV 8 (-7) 2 = (-3, true) := by
    unfold reckonV
    have : wrap64 (-3) = -3 := wrap_at (by unfold In64; omega)
    simp [this]
  rw [e1, e2, e3]
  rfl
end Go.Proofs.YtifgpigicgaadaaGreatDoor.Does
end
