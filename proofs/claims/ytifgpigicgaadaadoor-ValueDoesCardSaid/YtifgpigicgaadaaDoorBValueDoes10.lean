/- Several texts in one, in their order. -/
import Derived.Test.YtifgpigicgaadaaDoorBValueDoes1
import Derived.Test.YtifgpigicgaadaaDoorBValueDoes4
import Derived.Test.YtifgpigicgaadaaDoorBValueDoes5
import Derived.Test.YtifgpigicgaadaaDoorBValueDoes6
import Derived.Test.YtifgpigicgaadaaDoorBValueDoes7
import Derived.Test.YtifgpigicgaadaaDoorBValueDoes8
import Derived.Test.YtifgpigicgaadaaDoorBValueDoes9
section
-- Made by this session's own program (p2) out of the translation. Lean checks it.
namespace Go.Proofs.YtifgpigicgaadaaDoor.Q
open Go.RowKit Go.Proofs.YtifgpigicgaadaaDoorH Go.Proofs.YtifgpigicgaadaaDoorW.PrintWords Go.Proofs.YtifgpigicgaadaaDoorW.PrintLast Go.Proofs.YtifgpigicgaadaaDoorW.PrintMore
attribute [local go_sem] max2_int min2_int max_two min_two max_three min_three max_four min_four   -- for this text's walks alone
set_option linter.unusedVariables false
set_option linter.unusedSimpArgs false

/-! ### dossierref07_Do: function 8 -/
def dossierref07_Do.j0 : Nat → Int → Int → Bool → Int → Int → Bool → ByteArray → Int → Int → Bool → ByteArray → Option (Int × Int × Bool × ByteArray × Bool)
  | 0, _, _, _, _, _, _, _, _, _, _, _ => none
  | k + 1, x0, x8, x31, x217000, x217001, x217002, x217003, x218000, x218001, x218002, x218003 => if x31 = true then (some (0, 0, false, (⟨#[]⟩ : ByteArray), false)) else (if x8 = 2 then ((dossierref07_truth.f k x0 x217000 x217001 x217002 x217003 x218000 x218001 x218002 x218003).bind fun t223 => ((dossierref07_Bool.f t223).bind fun bt224 => (some (bt224.1, bt224.2.1, bt224.2.2.1, bt224.2.2.2, true)))) else ((dossierref07_whole.f k x0 x217001 x218001).bind fun bt228 => (if bt228.2 = true then ((dossierref07_Int.f bt228.1).bind fun bt230 => (some (bt230.1, bt230.2.1, bt230.2.2.1, bt230.2.2.2, true))) else (some (0, 0, false, (⟨#[]⟩ : ByteArray), false)))))
def dossierref07_Do.f (k : Nat) (a0 : Int) (a1_0 : Int) (a1_1 : Int) (a1_2 : Bool) (a1_3 : ByteArray) (a2_0 : Int) (a2_1 : Int) (a2_2 : Bool) (a2_3 : ByteArray) : Option (Int × Int × Bool × ByteArray × Bool) := (dossierref07_Kind.f k a0 a1_0 a2_0).bind fun bt219 => (if bt219.2 = true then ((dossierref07_Can.f k a1_0 a1_1 a1_2 a1_3).bind fun t221 => (if t221 = true then ((dossierref07_Can.f k a2_0 a2_1 a2_2 a2_3).bind fun t222 => (dossierref07_Do.j0 k a0 bt219.1 (!t222) a1_0 a1_1 a1_2 a1_3 a2_0 a2_1 a2_2 a2_3)) else (dossierref07_Do.j0 k a0 bt219.1 true a1_0 a1_1 a1_2 a1_3 a2_0 a2_1 a2_2 a2_3))) else (dossierref07_Do.j0 k a0 bt219.1 true a1_0 a1_1 a1_2 a1_3 a2_0 a2_1 a2_2 a2_3))
set_option maxHeartbeats 8000000 in
set_option maxRecDepth 100000 in
theorem dossierref07_Do.calls (k : Nat) (a0 : Int) (a1_0 : Int) (a1_1 : Int) (a1_2 : Bool) (a1_3 : ByteArray) (a2_0 : Int) (a2_1 : Int) (a2_2 : Bool) (a2_3 : ByteArray) (r1 : Int) (r2 : Int) (r3 : Bool) (r4 : ByteArray) (r5 : Bool) (w : World) (h : dossierref07_Do.f k a0 a1_0 a1_1 a1_2 a1_3 a2_0 a2_1 a2_2 a2_3 = some (r1, r2, r3, r4, r5)) :
    Calls Tryd.prog 8 #[.int .i64 a0, .agg #[.int .i64 a1_0, .int .i64 a1_1, .bool a1_2, .string a1_3], .agg #[.int .i64 a2_0, .int .i64 a2_1, .bool a2_2, .string a2_3]] w fun e w' => e = .returned (.tuple #[.agg #[.int .i64 r1, .int .i64 r2, .bool r3, .string r4], .bool r5]) ∧ Below w.heap.size w w' := by
  have hu23 := Tryd.underlying23
  have HB := Aside0.mk (Below.refl w.heap.size w)
  have H : ((dossierref07_Kind.f k a0 a1_0 a2_0).bind fun bt219 => (if bt219.2 = true then ((dossierref07_Can.f k a1_0 a1_1 a1_2 a1_3).bind fun t221 => (if t221 = true then ((dossierref07_Can.f k a2_0 a2_1 a2_2 a2_3).bind fun t222 => (dossierref07_Do.j0 k a0 bt219.1 (!t222) a1_0 a1_1 a1_2 a1_3 a2_0 a2_1 a2_2 a2_3)) else (dossierref07_Do.j0 k a0 bt219.1 true a1_0 a1_1 a1_2 a1_3 a2_0 a2_1 a2_2 a2_3))) else (dossierref07_Do.j0 k a0 bt219.1 true a1_0 a1_1 a1_2 a1_3 a2_0 a2_1 a2_2 a2_3))) = some (r1, r2, r3, r4, r5) := h
  clear h
  replace H := Option.bind_eq_some_iff.mp H
  obtain ⟨⟨t219, t220⟩, A40, H⟩ := H
  replace H : (if t220 = true then ((dossierref07_Can.f k a1_0 a1_1 a1_2 a1_3).bind fun t221 => (if t221 = true then ((dossierref07_Can.f k a2_0 a2_1 a2_2 a2_3).bind fun t222 => (dossierref07_Do.j0 k a0 t219 (!t222) a1_0 a1_1 a1_2 a1_3 a2_0 a2_1 a2_2 a2_3)) else (dossierref07_Do.j0 k a0 t219 true a1_0 a1_1 a1_2 a1_3 a2_0 a2_1 a2_2 a2_3))) else (dossierref07_Do.j0 k a0 t219 true a1_0 a1_1 a1_2 a1_3 a2_0 a2_1 a2_2 a2_3)) = some (r1, r2, r3, r4, r5) := H
  have A4 := Aside0.mk A40
  clear A40
  have HC5 := Aside0.mk H
  clear H
  go_enter Tryd.func8, Tryd.ntmps8
  go_upto_region 2 with (first | ((with_reducible refine gate_dst (N := 4) rfl ?_); refine box_event ?hg (N := 4) ?hd (cs := #[.int .i64 a1_0, .int .i64 a1_1, .bool a1_2, .string a1_3]) (t := 23) ?hr ?_; (case hd => rfl); (case hg => rfl); (case hr => first | (go_simp; done) | (go_simp; rfl)); intro gb216 hg w6 hbox hb; have n0_ := Aside0.mk (below_step (by repeat (first | (with_reducible first | exact HB.out | apply below_alloc | apply pw_below_drewN | apply below_drew1 | apply bytes_below1) | exact HB.out)) hb); have n1_ := Aside0.mk (hbox); have n2_ := Aside0.mk ((by rw [hg]; exact (below_size (by repeat (first | (with_reducible first | exact HB.out | apply below_alloc | apply pw_below_drewN | apply below_drew1 | apply bytes_below1) | exact HB.out))) : w.heap.size ≤ gb216)); have n3_ := Aside0.mk ((by rw [hg]; exact (below_size (by repeat (first | (with_reducible first | exact HB.out | apply below_alloc | apply pw_below_drewN | apply below_drew1 | apply bytes_below1) | exact HB.out))) : w.heap.size ≤ gb216)); clear HB; have HB := n0_; have BK216 := n1_; have GW216 := n2_; have GE216 := n3_; clear n0_ n1_ n2_ n3_; clear hb hbox hg) | ((with_reducible refine gate_dst (N := 5) rfl ?_); refine box_event ?hg (N := 5) ?hd (cs := #[.int .i64 a2_0, .int .i64 a2_1, .bool a2_2, .string a2_3]) (t := 23) ?hr ?_; (case hd => rfl); (case hg => rfl); (case hr => first | (go_simp; done) | (go_simp; rfl)); intro gb217 hg w7 hbox hb; have n0_ := Aside0.mk (blk_below (g := gb216) (o := .cells #[.int .i64 a1_0, .int .i64 a1_1, .bool a1_2, .string a1_3] 23 (0, 0)) (by (with_reducible repeat (first | refine blk_bytes ?_ _ _ | refine blk_drewN ?_ _ | refine blk_drew ?_ | refine blk_alloc ?_ _)); exact BK216.out) hb); have n1_ := Aside0.mk (below_step (by repeat (first | (with_reducible first | exact HB.out | apply below_alloc | apply pw_below_drewN | apply below_drew1 | apply bytes_below1 | refine below_set ?_ GE216.out) | exact HB.out)) hb); have n2_ := Aside0.mk (hbox); have n3_ := Aside0.mk ((by rw [hg]; exact (below_size (by repeat (first | (with_reducible first | exact HB.out | apply below_alloc | apply pw_below_drewN | apply below_drew1 | apply bytes_below1 | refine below_set ?_ GE216.out) | exact HB.out))) : w.heap.size ≤ gb217)); have n4_ := Aside0.mk ((by rw [hg]; exact (below_size (by repeat (first | (with_reducible first | exact HB.out | apply below_alloc | apply pw_below_drewN | apply below_drew1 | apply bytes_below1 | refine below_set ?_ GE216.out) | exact HB.out))) : w.heap.size ≤ gb217)); have n5_ := Aside0.mk ((by rw [hg]; exact Nat.ne_of_lt (blk_lt (g := gb216) (o := .cells #[.int .i64 a1_0, .int .i64 a1_1, .bool a1_2, .string a1_3] 23 (0, 0)) (by (with_reducible repeat (first | refine blk_bytes ?_ _ _ | refine blk_drewN ?_ _ | refine blk_drew ?_ | refine blk_alloc ?_ _)); exact BK216.out)) : gb216 ≠ gb217)); have n6_ := Aside0.mk ((by rw [hg]; exact Nat.ne_of_gt (blk_lt (g := gb216) (o := .cells #[.int .i64 a1_0, .int .i64 a1_1, .bool a1_2, .string a1_3] 23 (0, 0)) (by (with_reducible repeat (first | refine blk_bytes ?_ _ _ | refine blk_drewN ?_ _ | refine blk_drew ?_ | refine blk_alloc ?_ _)); exact BK216.out)) : gb217 ≠ gb216)); clear BK216; clear HB; have BK216 := n0_; have HB := n1_; have BK217 := n2_; have GW217 := n3_; have GE217 := n4_; have NB216_217 := n5_; have NB217_216 := n6_; clear n0_ n1_ n2_ n3_ n4_ n5_ n6_; clear hb hbox hg) | ((with_reducible refine gate_dst (N := 6) rfl ?_); refine box_event ?hg (N := 6) ?hd (cs := #[.int .i64 0, .int .i64 0, .bool false, .string (⟨#[]⟩ : ByteArray)]) (t := 23) ?hr ?_; (case hd => rfl); (case hg => rfl); (case hr => first | (go_simp; done) | (go_simp; rfl)); intro gb218 hg w8 hbox hb; have n0_ := Aside0.mk (blk_below (g := gb216) (o := .cells #[.int .i64 a1_0, .int .i64 a1_1, .bool a1_2, .string a1_3] 23 (0, 0)) (by (with_reducible repeat (first | refine blk_bytes ?_ _ _ | refine blk_drewN ?_ _ | refine blk_drew ?_ | refine blk_alloc ?_ _)); exact BK216.out) hb); have n1_ := Aside0.mk (blk_below (g := gb217) (o := .cells #[.int .i64 a2_0, .int .i64 a2_1, .bool a2_2, .string a2_3] 23 (0, 0)) (by (with_reducible repeat (first | refine blk_bytes ?_ _ _ | refine blk_drewN ?_ _ | refine blk_drew ?_ | refine blk_alloc ?_ _)); exact BK217.out) hb); have n2_ := Aside0.mk (below_step (by repeat (first | (with_reducible first | exact HB.out | apply below_alloc | apply pw_below_drewN | apply below_drew1 | apply bytes_below1 | refine below_set ?_ GE216.out | refine below_set ?_ GE217.out) | exact HB.out)) hb); have n3_ := Aside0.mk (hbox); have n4_ := Aside0.mk ((by rw [hg]; exact (below_size (by repeat (first | (with_reducible first | exact HB.out | apply below_alloc | apply pw_below_drewN | apply below_drew1 | apply bytes_below1 | refine below_set ?_ GE216.out | refine below_set ?_ GE217.out) | exact HB.out))) : w.heap.size ≤ gb218)); have n5_ := Aside0.mk ((by rw [hg]; exact (below_size (by repeat (first | (with_reducible first | exact HB.out | apply below_alloc | apply pw_below_drewN | apply below_drew1 | apply bytes_below1 | refine below_set ?_ GE216.out | refine below_set ?_ GE217.out) | exact HB.out))) : w.heap.size ≤ gb218)); have n6_ := Aside0.mk ((by rw [hg]; exact Nat.ne_of_lt (blk_lt (g := gb216) (o := .cells #[.int .i64 a1_0, .int .i64 a1_1, .bool a1_2, .string a1_3] 23 (0, 0)) (by (with_reducible repeat (first | refine blk_bytes ?_ _ _ | refine blk_drewN ?_ _ | refine blk_drew ?_ | refine blk_alloc ?_ _)); exact BK216.out)) : gb216 ≠ gb218)); have n7_ := Aside0.mk ((by rw [hg]; exact Nat.ne_of_gt (blk_lt (g := gb216) (o := .cells #[.int .i64 a1_0, .int .i64 a1_1, .bool a1_2, .string a1_3] 23 (0, 0)) (by (with_reducible repeat (first | refine blk_bytes ?_ _ _ | refine blk_drewN ?_ _ | refine blk_drew ?_ | refine blk_alloc ?_ _)); exact BK216.out)) : gb218 ≠ gb216)); have n8_ := Aside0.mk ((by rw [hg]; exact Nat.ne_of_lt (blk_lt (g := gb217) (o := .cells #[.int .i64 a2_0, .int .i64 a2_1, .bool a2_2, .string a2_3] 23 (0, 0)) (by (with_reducible repeat (first | refine blk_bytes ?_ _ _ | refine blk_drewN ?_ _ | refine blk_drew ?_ | refine blk_alloc ?_ _)); exact BK217.out)) : gb217 ≠ gb218)); have n9_ := Aside0.mk ((by rw [hg]; exact Nat.ne_of_gt (blk_lt (g := gb217) (o := .cells #[.int .i64 a2_0, .int .i64 a2_1, .bool a2_2, .string a2_3] 23 (0, 0)) (by (with_reducible repeat (first | refine blk_bytes ?_ _ _ | refine blk_drewN ?_ _ | refine blk_drew ?_ | refine blk_alloc ?_ _)); exact BK217.out)) : gb218 ≠ gb217)); clear BK216; clear BK217; clear HB; have BK216 := n0_; have BK217 := n1_; have HB := n2_; have BK218 := n3_; have GW218 := n4_; have GE218 := n5_; have NB216_218 := n6_; have NB218_216 := n7_; have NB217_218 := n8_; have NB218_217 := n9_; clear n0_ n1_ n2_ n3_ n4_ n5_ n6_ n7_ n8_ n9_; clear hb hbox hg; have hnb9 := NB216_217.out; have hnc9 := NB217_216.out; have hnb10 := NB216_218.out; have hnc10 := NB218_216.out; have hcz11_0 : w8.cell? ⟨gb216, 0, none⟩ = some (.int .i64 a1_0) := (blk_cell BK216.out 0).trans rfl; have hcz11_1 : w8.cell? ⟨gb216, 1, none⟩ = some (.int .i64 a1_1) := (blk_cell BK216.out 1).trans rfl; have hcz11_2 : w8.cell? ⟨gb216, 2, none⟩ = some (.bool a1_2) := (blk_cell BK216.out 2).trans rfl; have hcz11_3 : w8.cell? ⟨gb216, 3, none⟩ = some (.string a1_3) := (blk_cell BK216.out 3).trans rfl; have hfz11_0 := blk_frozen BK216.out 0; have hfz11_1 := blk_frozen BK216.out 1; have hfz11_2 := blk_frozen BK216.out 2; have hfz11_3 := blk_frozen BK216.out 3; have hnb12 := NB217_218.out; have hnc12 := NB218_217.out; have hcz13_0 : w8.cell? ⟨gb217, 0, none⟩ = some (.int .i64 a2_0) := (blk_cell BK217.out 0).trans rfl; have hcz13_1 : w8.cell? ⟨gb217, 1, none⟩ = some (.int .i64 a2_1) := (blk_cell BK217.out 1).trans rfl; have hcz13_2 : w8.cell? ⟨gb217, 2, none⟩ = some (.bool a2_2) := (blk_cell BK217.out 2).trans rfl; have hcz13_3 : w8.cell? ⟨gb217, 3, none⟩ = some (.string a2_3) := (blk_cell BK217.out 3).trans rfl; have hfz13_0 := blk_frozen BK217.out 0; have hfz13_1 := blk_frozen BK217.out 1; have hfz13_2 := blk_frozen BK217.out 2; have hfz13_3 := blk_frozen BK217.out 3) | ((with_reducible refine gate_callee (f := 10) rfl ?_); refine goesL_ (some 17) rfl rfl Tryd.func10 (by kernel_rfl) rfl #[.int .i64 a0, .int .i64 a1_0, .int .i64 a2_0] rfl (by (try simp only [List.map_toArray, List.map_cons, List.map_nil]); first | done | rfl | (simp only [List.length_drop, List.length_take]; rfl)) ?_; (with_reducible refine (dossierref07_Kind.calls k a0 a1_0 a2_0 t219 t220 _ A4.out).mono ?_); rintro e w' ⟨rfl, ⟨nd, rfl⟩⟩; refine ⟨_, rfl, ?_⟩))
  (try simp only [Act.put, List.setIfInBounds_toArray, List.set_cons_zero, List.set_cons_succ])
  go_cut [31] (fun v31 wc => ∃ (kq : Nat) (x31_4 : Bool), v31 = .bool x31_4 ∧ Aside0 (dossierref07_Do.j0 kq a0 t219 x31_4 a1_0 a1_1 a1_2 a1_3 a2_0 a2_1 a2_2 a2_3 = some (r1, r2, r3, r4, r5)) ∧ Aside0 (kq ≤ k) ∧ Aside0 (wc.heap[gb216]? = some (.cells #[.int .i64 a1_0, .int .i64 a1_1, .bool a1_2, .string a1_3] 23 (0, 0))) ∧ Aside0 (wc.heap[gb217]? = some (.cells #[.int .i64 a2_0, .int .i64 a2_1, .bool a2_2, .string a2_3] 23 (0, 0))) ∧ Aside0 (wc.heap[gb218]? = some (.cells #[.int .i64 0, .int .i64 0, .bool false, .string (⟨#[]⟩ : ByteArray)] 23 (0, 0))) ∧ Aside0 (Below w.heap.size w wc))
  case first =>
    have H := HC5.out
    clear HC5
    by_cases c14 : t220 = true
    · subst c14
      have H1 : ((dossierref07_Can.f k a1_0 a1_1 a1_2 a1_3).bind fun t221 => (if t221 = true then ((dossierref07_Can.f k a2_0 a2_1 a2_2 a2_3).bind fun t222 => (dossierref07_Do.j0 k a0 t219 (!t222) a1_0 a1_1 a1_2 a1_3 a2_0 a2_1 a2_2 a2_3)) else (dossierref07_Do.j0 k a0 t219 true a1_0 a1_1 a1_2 a1_3 a2_0 a2_1 a2_2 a2_3))) = some (r1, r2, r3, r4, r5) := by rw [if_pos rfl] at H; exact H
      clear H
      have H := H1
      clear H1
      replace H := Option.bind_eq_some_iff.mp H
      obtain ⟨t221, A150, H⟩ := H
      replace H : (if t221 = true then ((dossierref07_Can.f k a2_0 a2_1 a2_2 a2_3).bind fun t222 => (dossierref07_Do.j0 k a0 t219 (!t222) a1_0 a1_1 a1_2 a1_3 a2_0 a2_1 a2_2 a2_3)) else (dossierref07_Do.j0 k a0 t219 true a1_0 a1_1 a1_2 a1_3 a2_0 a2_1 a2_2 a2_3)) = some (r1, r2, r3, r4, r5) := H
      have A15 := Aside0.mk A150
      clear A150
      by_cases c16 : t221 = true
      · subst c16
        have H1 : ((dossierref07_Can.f k a2_0 a2_1 a2_2 a2_3).bind fun t222 => (dossierref07_Do.j0 k a0 t219 (!t222) a1_0 a1_1 a1_2 a1_3 a2_0 a2_1 a2_2 a2_3)) = some (r1, r2, r3, r4, r5) := by rw [if_pos rfl] at H; exact H
        clear H
        have H := H1
        clear H1
        replace H := Option.bind_eq_some_iff.mp H
        obtain ⟨t222, A170, H⟩ := H
        replace H : (dossierref07_Do.j0 k a0 t219 (!t222) a1_0 a1_1 a1_2 a1_3 a2_0 a2_1 a2_2 a2_3) = some (r1, r2, r3, r4, r5) := H
        have A17 := Aside0.mk A170
        clear A170
        have H' := Aside0.mk H
        clear H
        have hnb18 := NB216_217.out
        have hnc18 := NB217_216.out
        have hnb19 := NB216_218.out
        have hnc19 := NB218_216.out
        have hcz20_0 : w8.cell? ⟨gb216, 0, none⟩ = some (.int .i64 a1_0) := (blk_cell BK216.out 0).trans rfl
        have hcz20_1 : w8.cell? ⟨gb216, 1, none⟩ = some (.int .i64 a1_1) := (blk_cell BK216.out 1).trans rfl
        have hcz20_2 : w8.cell? ⟨gb216, 2, none⟩ = some (.bool a1_2) := (blk_cell BK216.out 2).trans rfl
        have hcz20_3 : w8.cell? ⟨gb216, 3, none⟩ = some (.string a1_3) := (blk_cell BK216.out 3).trans rfl
        have hfz20_0 := blk_frozen BK216.out 0
        have hfz20_1 := blk_frozen BK216.out 1
        have hfz20_2 := blk_frozen BK216.out 2
        have hfz20_3 := blk_frozen BK216.out 3
        go_wp2_with (first | (go_at_call 15; (with_reducible refine (dossierref07_Can.calls k a1_0 a1_1 a1_2 a1_3 true _ A15.out).mono ?_); rintro e w21 ⟨rfl, hb⟩; have n0_ := Aside0.mk (blk_below (g := gb216) (o := .cells #[.int .i64 a1_0, .int .i64 a1_1, .bool a1_2, .string a1_3] 23 (0, 0)) (by (with_reducible repeat (first | refine blk_bytes ?_ _ _ | refine blk_drewN ?_ _ | refine blk_drew ?_ | refine blk_alloc ?_ _)); exact BK216.out) hb); have n1_ := Aside0.mk (blk_below (g := gb217) (o := .cells #[.int .i64 a2_0, .int .i64 a2_1, .bool a2_2, .string a2_3] 23 (0, 0)) (by (with_reducible repeat (first | refine blk_bytes ?_ _ _ | refine blk_drewN ?_ _ | refine blk_drew ?_ | refine blk_alloc ?_ _)); exact BK217.out) hb); have n2_ := Aside0.mk (blk_below (g := gb218) (o := .cells #[.int .i64 0, .int .i64 0, .bool false, .string (⟨#[]⟩ : ByteArray)] 23 (0, 0)) (by (with_reducible repeat (first | refine blk_bytes ?_ _ _ | refine blk_drewN ?_ _ | refine blk_drew ?_ | refine blk_alloc ?_ _)); exact BK218.out) hb); have n3_ := Aside0.mk (below_step (by repeat (first | (with_reducible first | exact HB.out | apply below_alloc | apply pw_below_drewN | apply below_drew1 | apply bytes_below1 | refine below_set ?_ GE216.out | refine below_set ?_ GE217.out | refine below_set ?_ GE218.out) | exact HB.out)) hb); clear BK216; clear BK217; clear BK218; clear HB; have BK216 := n0_; have BK217 := n1_; have BK218 := n2_; have HB := n3_; clear n0_ n1_ n2_ n3_; (try clear hb); (try clear hb2); (try clear hk); (try clear hi); have hnb22 := NB217_218.out; have hnc22 := NB218_217.out; have hcz23_0 : w21.cell? ⟨gb217, 0, none⟩ = some (.int .i64 a2_0) := (blk_cell BK217.out 0).trans rfl; have hcz23_1 : w21.cell? ⟨gb217, 1, none⟩ = some (.int .i64 a2_1) := (blk_cell BK217.out 1).trans rfl; have hcz23_2 : w21.cell? ⟨gb217, 2, none⟩ = some (.bool a2_2) := (blk_cell BK217.out 2).trans rfl; have hcz23_3 : w21.cell? ⟨gb217, 3, none⟩ = some (.string a2_3) := (blk_cell BK217.out 3).trans rfl; have hfz23_0 := blk_frozen BK217.out 0; have hfz23_1 := blk_frozen BK217.out 1; have hfz23_2 := blk_frozen BK217.out 2; have hfz23_3 := blk_frozen BK217.out 3) | (go_at_call 15; (with_reducible refine (dossierref07_Can.calls k a2_0 a2_1 a2_2 a2_3 t222 _ A17.out).mono ?_); rintro e w24 ⟨rfl, hb⟩; have n0_ := Aside0.mk (blk_below (g := gb216) (o := .cells #[.int .i64 a1_0, .int .i64 a1_1, .bool a1_2, .string a1_3] 23 (0, 0)) (by (with_reducible repeat (first | refine blk_bytes ?_ _ _ | refine blk_drewN ?_ _ | refine blk_drew ?_ | refine blk_alloc ?_ _)); exact BK216.out) hb); have n1_ := Aside0.mk (blk_below (g := gb217) (o := .cells #[.int .i64 a2_0, .int .i64 a2_1, .bool a2_2, .string a2_3] 23 (0, 0)) (by (with_reducible repeat (first | refine blk_bytes ?_ _ _ | refine blk_drewN ?_ _ | refine blk_drew ?_ | refine blk_alloc ?_ _)); exact BK217.out) hb); have n2_ := Aside0.mk (blk_below (g := gb218) (o := .cells #[.int .i64 0, .int .i64 0, .bool false, .string (⟨#[]⟩ : ByteArray)] 23 (0, 0)) (by (with_reducible repeat (first | refine blk_bytes ?_ _ _ | refine blk_drewN ?_ _ | refine blk_drew ?_ | refine blk_alloc ?_ _)); exact BK218.out) hb); have n3_ := Aside0.mk (below_step (by repeat (first | (with_reducible first | exact HB.out | apply below_alloc | apply pw_below_drewN | apply below_drew1 | apply bytes_below1 | refine below_set ?_ GE216.out | refine below_set ?_ GE217.out | refine below_set ?_ GE218.out) | exact HB.out)) hb); clear BK216; clear BK217; clear BK218; clear HB; have BK216 := n0_; have BK217 := n1_; have BK218 := n2_; have HB := n3_; clear n0_ n1_ n2_ n3_; (try clear hb); (try clear hb2); (try clear hk); (try clear hi)))
        go_meet
        case rel => exact ⟨_, (!t222), (by first | rfl | (simp; done) | (simp [*]; done)), H', ⟨by first | omega | exact Nat.le_refl _⟩, ⟨by (with_reducible repeat (first | refine blk_bytes ?_ _ _ | refine blk_drewN ?_ _ | refine blk_drew ?_ | refine blk_alloc ?_ _)); exact BK216.out⟩, ⟨by (with_reducible repeat (first | refine blk_bytes ?_ _ _ | refine blk_drewN ?_ _ | refine blk_drew ?_ | refine blk_alloc ?_ _)); exact BK217.out⟩, ⟨by (with_reducible repeat (first | refine blk_bytes ?_ _ _ | refine blk_drewN ?_ _ | refine blk_drew ?_ | refine blk_alloc ?_ _)); exact BK218.out⟩, ⟨by repeat (first | (with_reducible first | exact HB.out | apply below_alloc | apply pw_below_drewN | apply below_drew1 | apply bytes_below1 | refine below_set ?_ GE216.out | refine below_set ?_ GE217.out | refine below_set ?_ GE218.out) | exact HB.out)⟩⟩
      · replace c16 := Bool.eq_false_iff.mpr c16
        subst c16
        have H1 : (dossierref07_Do.j0 k a0 t219 true a1_0 a1_1 a1_2 a1_3 a2_0 a2_1 a2_2 a2_3) = some (r1, r2, r3, r4, r5) := by rw [if_neg (show ¬ (false = true) by decide)] at H; exact H
        clear H
        have H := H1
        clear H1
        have H' := Aside0.mk H
        clear H
        have hnb25 := NB216_217.out
        have hnc25 := NB217_216.out
        have hnb26 := NB216_218.out
        have hnc26 := NB218_216.out
        have hcz27_0 : w8.cell? ⟨gb216, 0, none⟩ = some (.int .i64 a1_0) := (blk_cell BK216.out 0).trans rfl
        have hcz27_1 : w8.cell? ⟨gb216, 1, none⟩ = some (.int .i64 a1_1) := (blk_cell BK216.out 1).trans rfl
        have hcz27_2 : w8.cell? ⟨gb216, 2, none⟩ = some (.bool a1_2) := (blk_cell BK216.out 2).trans rfl
        have hcz27_3 : w8.cell? ⟨gb216, 3, none⟩ = some (.string a1_3) := (blk_cell BK216.out 3).trans rfl
        have hfz27_0 := blk_frozen BK216.out 0
        have hfz27_1 := blk_frozen BK216.out 1
        have hfz27_2 := blk_frozen BK216.out 2
        have hfz27_3 := blk_frozen BK216.out 3
        go_wp2_with (first | (go_at_call 15; (with_reducible refine (dossierref07_Can.calls k a1_0 a1_1 a1_2 a1_3 false _ A15.out).mono ?_); rintro e w28 ⟨rfl, hb⟩; have n0_ := Aside0.mk (blk_below (g := gb216) (o := .cells #[.int .i64 a1_0, .int .i64 a1_1, .bool a1_2, .string a1_3] 23 (0, 0)) (by (with_reducible repeat (first | refine blk_bytes ?_ _ _ | refine blk_drewN ?_ _ | refine blk_drew ?_ | refine blk_alloc ?_ _)); exact BK216.out) hb); have n1_ := Aside0.mk (blk_below (g := gb217) (o := .cells #[.int .i64 a2_0, .int .i64 a2_1, .bool a2_2, .string a2_3] 23 (0, 0)) (by (with_reducible repeat (first | refine blk_bytes ?_ _ _ | refine blk_drewN ?_ _ | refine blk_drew ?_ | refine blk_alloc ?_ _)); exact BK217.out) hb); have n2_ := Aside0.mk (blk_below (g := gb218) (o := .cells #[.int .i64 0, .int .i64 0, .bool false, .string (⟨#[]⟩ : ByteArray)] 23 (0, 0)) (by (with_reducible repeat (first | refine blk_bytes ?_ _ _ | refine blk_drewN ?_ _ | refine blk_drew ?_ | refine blk_alloc ?_ _)); exact BK218.out) hb); have n3_ := Aside0.mk (below_step (by repeat (first | (with_reducible first | exact HB.out | apply below_alloc | apply pw_below_drewN | apply below_drew1 | apply bytes_below1 | refine below_set ?_ GE216.out | refine below_set ?_ GE217.out | refine below_set ?_ GE218.out) | exact HB.out)) hb); clear BK216; clear BK217; clear BK218; clear HB; have BK216 := n0_; have BK217 := n1_; have BK218 := n2_; have HB := n3_; clear n0_ n1_ n2_ n3_; (try clear hb); (try clear hb2); (try clear hk); (try clear hi)))
        go_meet
        case rel => exact ⟨_, (true), (by first | rfl | (simp; done) | (simp [*]; done)), H', ⟨by first | omega | exact Nat.le_refl _⟩, ⟨by (with_reducible repeat (first | refine blk_bytes ?_ _ _ | refine blk_drewN ?_ _ | refine blk_drew ?_ | refine blk_alloc ?_ _)); exact BK216.out⟩, ⟨by (with_reducible repeat (first | refine blk_bytes ?_ _ _ | refine blk_drewN ?_ _ | refine blk_drew ?_ | refine blk_alloc ?_ _)); exact BK217.out⟩, ⟨by (with_reducible repeat (first | refine blk_bytes ?_ _ _ | refine blk_drewN ?_ _ | refine blk_drew ?_ | refine blk_alloc ?_ _)); exact BK218.out⟩, ⟨by repeat (first | (with_reducible first | exact HB.out | apply below_alloc | apply pw_below_drewN | apply below_drew1 | apply bytes_below1 | refine below_set ?_ GE216.out | refine below_set ?_ GE217.out | refine below_set ?_ GE218.out) | exact HB.out)⟩⟩
    · replace c14 := Bool.eq_false_iff.mpr c14
      subst c14
      have H1 : (dossierref07_Do.j0 k a0 t219 true a1_0 a1_1 a1_2 a1_3 a2_0 a2_1 a2_2 a2_3) = some (r1, r2, r3, r4, r5) := by rw [if_neg (show ¬ (false = true) by decide)] at H; exact H
      clear H
      have H := H1
      clear H1
      have H' := Aside0.mk H
      clear H
      go_wp2
      go_meet
      case rel => exact ⟨_, (true), (by first | rfl | (simp; done) | (simp [*]; done)), H', ⟨by first | omega | exact Nat.le_refl _⟩, ⟨by (with_reducible repeat (first | refine blk_bytes ?_ _ _ | refine blk_drewN ?_ _ | refine blk_drew ?_ | refine blk_alloc ?_ _)); exact BK216.out⟩, ⟨by (with_reducible repeat (first | refine blk_bytes ?_ _ _ | refine blk_drewN ?_ _ | refine blk_drew ?_ | refine blk_alloc ?_ _)); exact BK217.out⟩, ⟨by (with_reducible repeat (first | refine blk_bytes ?_ _ _ | refine blk_drewN ?_ _ | refine blk_drew ?_ | refine blk_alloc ?_ _)); exact BK218.out⟩, ⟨by repeat (first | (with_reducible first | exact HB.out | apply below_alloc | apply pw_below_drewN | apply below_drew1 | apply bytes_below1 | refine below_set ?_ GE216.out | refine below_set ?_ GE217.out | refine below_set ?_ GE218.out) | exact HB.out)⟩⟩
  case rest =>
    clear HC5
    try clear c1
    try clear c2
    try clear p2
    try clear c8
    try clear c9
    try clear c10
    try clear c12
    try clear c14
    try clear c16
    try clear c18
    try clear c19
    try clear c22
    try clear c25
    try clear c26
    try clear hcz11_0
    try clear hcz11_1
    try clear hcz11_2
    try clear hcz11_3
    try clear hcz13_0
    try clear hcz13_1
    try clear hcz13_2
    try clear hcz13_3
    try clear hcz20_0
    try clear hcz20_1
    try clear hcz20_2
    try clear hcz20_3
    try clear hcz23_0
    try clear hcz23_1
    try clear hcz23_2
    try clear hcz23_3
    try clear hcz27_0
    try clear hcz27_1
    try clear hcz27_2
    try clear hcz27_3
    try clear hfz11_0
    try clear hfz11_1
    try clear hfz11_2
    try clear hfz11_3
    try clear hfz13_0
    try clear hfz13_1
    try clear hfz13_2
    try clear hfz13_3
    try clear hfz20_0
    try clear hfz20_1
    try clear hfz20_2
    try clear hfz20_3
    try clear hfz23_0
    try clear hfz23_1
    try clear hfz23_2
    try clear hfz23_3
    try clear hfz27_0
    try clear hfz27_1
    try clear hfz27_2
    try clear hfz27_3
    obtain ⟨kq, x31_4, rfl, HA, HJ4, BK216, BK217, BK218, HB⟩ := hcut
    cases kq with
    | zero => exact absurd HA.out (by simp [dossierref07_Do.j0])
    | succ kj4 =>
      have H := HA.out
      clear HA
      simp only [dossierref07_Do.j0] at H
      by_cases c29 : x31_4 = true
      · subst c29
        have H1 : (some (0, 0, false, (⟨#[]⟩ : ByteArray), false)) = some (r1, r2, r3, r4, r5) := by rw [if_pos rfl] at H; exact H
        clear H
        have H := H1
        clear H1
        simp only [Option.some.injEq, Prod.mk.injEq] at H
        obtain ⟨rfl, rfl, rfl, rfl, rfl⟩ := H
        have hnb30 := NB218_216.out
        have hnc30 := NB216_218.out
        have hnb31 := NB218_217.out
        have hnc31 := NB217_218.out
        have hcz32_0 : wc.cell? ⟨gb218, 0, none⟩ = some (.int .i64 0) := (blk_cell BK218.out 0).trans rfl
        have hcz32_1 : wc.cell? ⟨gb218, 1, none⟩ = some (.int .i64 0) := (blk_cell BK218.out 1).trans rfl
        have hcz32_2 : wc.cell? ⟨gb218, 2, none⟩ = some (.bool false) := (blk_cell BK218.out 2).trans rfl
        have hcz32_3 : wc.cell? ⟨gb218, 3, none⟩ = some (.string (⟨#[]⟩ : ByteArray)) := (blk_cell BK218.out 3).trans rfl
        have hfz32_0 := blk_frozen BK218.out 0
        have hfz32_1 := blk_frozen BK218.out 1
        have hfz32_2 := blk_frozen BK218.out 2
        have hfz32_3 := blk_frozen BK218.out 3
        go_wp2
        refine bodyPost_ret (results_ct rfl _ _ gb218 23 #[.int .i64 0, .int .i64 0, .bool false, .string (⟨#[]⟩ : ByteArray)] (0, 0) _ rfl (by (with_reducible repeat (first | refine blk_bytes ?_ _ _ | refine blk_drewN ?_ _ | refine blk_drew ?_ | refine blk_alloc ?_ _)); refine blk_put (cs := #[.int .i64 0, .int .i64 0, .bool false, .string (⟨#[]⟩ : ByteArray)]) ?_ 3 _ rfl; (with_reducible repeat (first | refine blk_bytes ?_ _ _ | refine blk_drewN ?_ _ | refine blk_drew ?_ | refine blk_alloc ?_ _)); refine blk_put (cs := #[.int .i64 0, .int .i64 0, .bool false, .string (⟨#[]⟩ : ByteArray)]) ?_ 2 _ rfl; (with_reducible repeat (first | refine blk_bytes ?_ _ _ | refine blk_drewN ?_ _ | refine blk_drew ?_ | refine blk_alloc ?_ _)); refine blk_put (cs := #[.int .i64 0, .int .i64 0, .bool false, .string (⟨#[]⟩ : ByteArray)]) ?_ 1 _ rfl; (with_reducible repeat (first | refine blk_bytes ?_ _ _ | refine blk_drewN ?_ _ | refine blk_drew ?_ | refine blk_alloc ?_ _)); refine blk_put (cs := #[.int .i64 0, .int .i64 0, .bool false, .string (⟨#[]⟩ : ByteArray)]) ?_ 0 _ rfl; (with_reducible repeat (first | refine blk_bytes ?_ _ _ | refine blk_drewN ?_ _ | refine blk_drew ?_ | refine blk_alloc ?_ _)); exact BK218.out) Tryd.underlying23 rfl (by kernel_rfl)) rfl ?_
        exact ⟨by first | rfl | (simp [errW_none, errW_some] <;> rfl) | (simp [*, errW_none, errW_some] <;> rfl), by repeat (first | (with_reducible first | exact HB.out | apply below_alloc | apply pw_below_drewN | apply below_drew1 | apply bytes_below1 | refine below_set ?_ GE216.out | refine below_set ?_ GE217.out | refine below_set ?_ GE218.out) | exact HB.out)⟩
      · replace c29 := Bool.eq_false_iff.mpr c29
        subst c29
        have H1 : (if t219 = 2 then ((dossierref07_truth.f kj4 a0 a1_0 a1_1 a1_2 a1_3 a2_0 a2_1 a2_2 a2_3).bind fun t223 => ((dossierref07_Bool.f t223).bind fun bt224 => (some (bt224.1, bt224.2.1, bt224.2.2.1, bt224.2.2.2, true)))) else ((dossierref07_whole.f kj4 a0 a1_1 a2_1).bind fun bt228 => (if bt228.2 = true then ((dossierref07_Int.f bt228.1).bind fun bt230 => (some (bt230.1, bt230.2.1, bt230.2.2.1, bt230.2.2.2, true))) else (some (0, 0, false, (⟨#[]⟩ : ByteArray), false))))) = some (r1, r2, r3, r4, r5) := by rw [if_neg (show ¬ (false = true) by decide)] at H; exact H
        clear H
        have H := H1
        clear H1
        by_cases c33 : t219 = 2
        · rw [if_pos c33] at H
          have c33b0 : (t219 == 2) = true := beq_iff_eq.mpr c33
          have c33b1 : (t219 != 2) = false := bne_eq_false_iff_eq.mpr c33
          clear c33
          replace H := Option.bind_eq_some_iff.mp H
          obtain ⟨t223, A340, H⟩ := H
          replace H : ((dossierref07_Bool.f t223).bind fun bt224 => (some (bt224.1, bt224.2.1, bt224.2.2.1, bt224.2.2.2, true))) = some (r1, r2, r3, r4, r5) := H
          have A34 := Aside0.mk A340
          clear A340
          replace H := Option.bind_eq_some_iff.mp H
          obtain ⟨⟨t224, t225, t226, t227⟩, A350, H⟩ := H
          replace H : (some (t224, t225, t226, t227, true)) = some (r1, r2, r3, r4, r5) := H
          have A35 := Aside0.mk A350
          clear A350
          simp only [Option.some.injEq, Prod.mk.injEq] at H
          obtain ⟨rfl, rfl, rfl, rfl, rfl⟩ := H
          have hnb36 := NB216_217.out
          have hnc36 := NB217_216.out
          have hnb37 := NB216_218.out
          have hnc37 := NB218_216.out
          have hcz38_0 : wc.cell? ⟨gb216, 0, none⟩ = some (.int .i64 a1_0) := (blk_cell BK216.out 0).trans rfl
          have hcz38_1 : wc.cell? ⟨gb216, 1, none⟩ = some (.int .i64 a1_1) := (blk_cell BK216.out 1).trans rfl
          have hcz38_2 : wc.cell? ⟨gb216, 2, none⟩ = some (.bool a1_2) := (blk_cell BK216.out 2).trans rfl
          have hcz38_3 : wc.cell? ⟨gb216, 3, none⟩ = some (.string a1_3) := (blk_cell BK216.out 3).trans rfl
          have hfz38_0 := blk_frozen BK216.out 0
          have hfz38_1 := blk_frozen BK216.out 1
          have hfz38_2 := blk_frozen BK216.out 2
          have hfz38_3 := blk_frozen BK216.out 3
          have hnb39 := NB217_218.out
          have hnc39 := NB218_217.out
          have hcz40_0 : wc.cell? ⟨gb217, 0, none⟩ = some (.int .i64 a2_0) := (blk_cell BK217.out 0).trans rfl
          have hcz40_1 : wc.cell? ⟨gb217, 1, none⟩ = some (.int .i64 a2_1) := (blk_cell BK217.out 1).trans rfl
          have hcz40_2 : wc.cell? ⟨gb217, 2, none⟩ = some (.bool a2_2) := (blk_cell BK217.out 2).trans rfl
          have hcz40_3 : wc.cell? ⟨gb217, 3, none⟩ = some (.string a2_3) := (blk_cell BK217.out 3).trans rfl
          have hfz40_0 := blk_frozen BK217.out 0
          have hfz40_1 := blk_frozen BK217.out 1
          have hfz40_2 := blk_frozen BK217.out 2
          have hfz40_3 := blk_frozen BK217.out 3
          go_wp2_with (first | ((with_reducible refine gate_callee (f := 24) rfl ?_); refine goesL_ (some 38) rfl rfl Tryd.func24 (by kernel_rfl) rfl #[.int .i64 a0, .agg #[.int .i64 a1_0, .int .i64 a1_1, .bool a1_2, .string a1_3], .agg #[.int .i64 a2_0, .int .i64 a2_1, .bool a2_2, .string a2_3]] rfl (by (try simp only [List.map_toArray, List.map_cons, List.map_nil]); first | done | rfl | (simp only [List.length_drop, List.length_take]; rfl)) ?_; (with_reducible refine (dossierref07_truth.calls kj4 a0 a1_0 a1_1 a1_2 a1_3 a2_0 a2_1 a2_2 a2_3 t223 _ A34.out).mono ?_); rintro e w41 ⟨rfl, hb⟩; refine ⟨_, rfl, ?_⟩; have n0_ := Aside0.mk (blk_below (g := gb216) (o := .cells #[.int .i64 a1_0, .int .i64 a1_1, .bool a1_2, .string a1_3] 23 (0, 0)) (by (with_reducible repeat (first | refine blk_bytes ?_ _ _ | refine blk_drewN ?_ _ | refine blk_drew ?_ | refine blk_alloc ?_ _)); exact BK216.out) hb); have n1_ := Aside0.mk (blk_below (g := gb217) (o := .cells #[.int .i64 a2_0, .int .i64 a2_1, .bool a2_2, .string a2_3] 23 (0, 0)) (by (with_reducible repeat (first | refine blk_bytes ?_ _ _ | refine blk_drewN ?_ _ | refine blk_drew ?_ | refine blk_alloc ?_ _)); exact BK217.out) hb); have n2_ := Aside0.mk (blk_below (g := gb218) (o := .cells #[.int .i64 0, .int .i64 0, .bool false, .string (⟨#[]⟩ : ByteArray)] 23 (0, 0)) (by (with_reducible repeat (first | refine blk_bytes ?_ _ _ | refine blk_drewN ?_ _ | refine blk_drew ?_ | refine blk_alloc ?_ _)); exact BK218.out) hb); have n3_ := Aside0.mk (below_step (by repeat (first | (with_reducible first | exact HB.out | apply below_alloc | apply pw_below_drewN | apply below_drew1 | apply bytes_below1 | refine below_set ?_ GE216.out | refine below_set ?_ GE217.out | refine below_set ?_ GE218.out) | exact HB.out)) hb); clear BK216; clear BK217; clear BK218; clear HB; have BK216 := n0_; have BK217 := n1_; have BK218 := n2_; have HB := n3_; clear n0_ n1_ n2_ n3_; (try clear hb); (try clear hb2); (try clear hk); (try clear hi)) | ((with_reducible refine gate_callee (f := 23) rfl ?_); refine goesL_ (some 39) rfl rfl Tryd.func23 (by kernel_rfl) rfl #[.bool t223] rfl (by (try simp only [List.map_toArray, List.map_cons, List.map_nil]); first | done | rfl | (simp only [List.length_drop, List.length_take]; rfl)) ?_; (with_reducible refine (dossierref07_Bool.calls t223 t224 t225 t226 t227 _ A35.out).mono ?_); rintro e w42 ⟨rfl, hb⟩; refine ⟨_, rfl, ?_⟩; have n0_ := Aside0.mk (blk_below (g := gb216) (o := .cells #[.int .i64 a1_0, .int .i64 a1_1, .bool a1_2, .string a1_3] 23 (0, 0)) (by (with_reducible repeat (first | refine blk_bytes ?_ _ _ | refine blk_drewN ?_ _ | refine blk_drew ?_ | refine blk_alloc ?_ _)); exact BK216.out) hb); have n1_ := Aside0.mk (blk_below (g := gb217) (o := .cells #[.int .i64 a2_0, .int .i64 a2_1, .bool a2_2, .string a2_3] 23 (0, 0)) (by (with_reducible repeat (first | refine blk_bytes ?_ _ _ | refine blk_drewN ?_ _ | refine blk_drew ?_ | refine blk_alloc ?_ _)); exact BK217.out) hb); have n2_ := Aside0.mk (blk_below (g := gb218) (o := .cells #[.int .i64 0, .int .i64 0, .bool false, .string (⟨#[]⟩ : ByteArray)] 23 (0, 0)) (by (with_reducible repeat (first | refine blk_bytes ?_ _ _ | refine blk_drewN ?_ _ | refine blk_drew ?_ | refine blk_alloc ?_ _)); exact BK218.out) hb); have n3_ := Aside0.mk (below_step (by repeat (first | (with_reducible first | exact HB.out | apply below_alloc | apply pw_below_drewN | apply below_drew1 | apply bytes_below1 | refine below_set ?_ GE216.out | refine below_set ?_ GE217.out | refine below_set ?_ GE218.out) | exact HB.out)) hb); clear BK216; clear BK217; clear BK218; clear HB; have BK216 := n0_; have BK217 := n1_; have BK218 := n2_; have HB := n3_; clear n0_ n1_ n2_ n3_; (try clear hb); (try clear hb2); (try clear hk); (try clear hi); have hcz43_0 : w42.cell? ⟨gb218, 0, none⟩ = some (.int .i64 0) := (blk_cell BK218.out 0).trans rfl; have hcz43_1 : w42.cell? ⟨gb218, 1, none⟩ = some (.int .i64 0) := (blk_cell BK218.out 1).trans rfl; have hcz43_2 : w42.cell? ⟨gb218, 2, none⟩ = some (.bool false) := (blk_cell BK218.out 2).trans rfl; have hcz43_3 : w42.cell? ⟨gb218, 3, none⟩ = some (.string (⟨#[]⟩ : ByteArray)) := (blk_cell BK218.out 3).trans rfl; have hfz43_0 := blk_frozen BK218.out 0; have hfz43_1 := blk_frozen BK218.out 1; have hfz43_2 := blk_frozen BK218.out 2; have hfz43_3 := blk_frozen BK218.out 3))
          refine bodyPost_ret (results_ct rfl _ _ gb218 23 #[.int .i64 t224, .int .i64 t225, .bool t226, .string t227] (0, 0) _ rfl (by (with_reducible repeat (first | refine blk_bytes ?_ _ _ | refine blk_drewN ?_ _ | refine blk_drew ?_ | refine blk_alloc ?_ _)); refine blk_put (cs := #[.int .i64 t224, .int .i64 t225, .bool t226, .string (⟨#[]⟩ : ByteArray)]) ?_ 3 _ rfl; (with_reducible repeat (first | refine blk_bytes ?_ _ _ | refine blk_drewN ?_ _ | refine blk_drew ?_ | refine blk_alloc ?_ _)); refine blk_put (cs := #[.int .i64 t224, .int .i64 t225, .bool false, .string (⟨#[]⟩ : ByteArray)]) ?_ 2 _ rfl; (with_reducible repeat (first | refine blk_bytes ?_ _ _ | refine blk_drewN ?_ _ | refine blk_drew ?_ | refine blk_alloc ?_ _)); refine blk_put (cs := #[.int .i64 t224, .int .i64 0, .bool false, .string (⟨#[]⟩ : ByteArray)]) ?_ 1 _ rfl; (with_reducible repeat (first | refine blk_bytes ?_ _ _ | refine blk_drewN ?_ _ | refine blk_drew ?_ | refine blk_alloc ?_ _)); refine blk_put (cs := #[.int .i64 0, .int .i64 0, .bool false, .string (⟨#[]⟩ : ByteArray)]) ?_ 0 _ rfl; (with_reducible repeat (first | refine blk_bytes ?_ _ _ | refine blk_drewN ?_ _ | refine blk_drew ?_ | refine blk_alloc ?_ _)); exact BK218.out) Tryd.underlying23 rfl (by kernel_rfl)) rfl ?_
          exact ⟨by first | rfl | (simp [errW_none, errW_some] <;> rfl) | (simp [*, errW_none, errW_some] <;> rfl), by repeat (first | (with_reducible first | exact HB.out | apply below_alloc | apply pw_below_drewN | apply below_drew1 | apply bytes_below1 | refine below_set ?_ GE216.out | refine below_set ?_ GE217.out | refine below_set ?_ GE218.out) | exact HB.out)⟩
        · rw [if_neg c33] at H
          have c33b0 : (t219 == 2) = false := beq_eq_false_iff_ne.mpr c33
          have c33b1 : (t219 != 2) = true := bne_iff_ne.mpr c33
          replace H := Option.bind_eq_some_iff.mp H
          obtain ⟨⟨t228, t229⟩, A440, H⟩ := H
          replace H : (if t229 = true then ((dossierref07_Int.f t228).bind fun bt230 => (some (bt230.1, bt230.2.1, bt230.2.2.1, bt230.2.2.2, true))) else (some (0, 0, false, (⟨#[]⟩ : ByteArray), false))) = some (r1, r2, r3, r4, r5) := H
          have A44 := Aside0.mk A440
          clear A440
          by_cases c45 : t229 = true
          · subst c45
            have H1 : ((dossierref07_Int.f t228).bind fun bt230 => (some (bt230.1, bt230.2.1, bt230.2.2.1, bt230.2.2.2, true))) = some (r1, r2, r3, r4, r5) := by rw [if_pos rfl] at H; exact H
            clear H
            have H := H1
            clear H1
            replace H := Option.bind_eq_some_iff.mp H
            obtain ⟨⟨t230, t231, t232, t233⟩, A460, H⟩ := H
            replace H : (some (t230, t231, t232, t233, true)) = some (r1, r2, r3, r4, r5) := H
            have A46 := Aside0.mk A460
            clear A460
            simp only [Option.some.injEq, Prod.mk.injEq] at H
            obtain ⟨rfl, rfl, rfl, rfl, rfl⟩ := H
            have hnb47 := NB216_217.out
            have hnc47 := NB217_216.out
            have hnb48 := NB216_218.out
            have hnc48 := NB218_216.out
            have hcz49_0 : wc.cell? ⟨gb216, 0, none⟩ = some (.int .i64 a1_0) := (blk_cell BK216.out 0).trans rfl
            have hcz49_1 : wc.cell? ⟨gb216, 1, none⟩ = some (.int .i64 a1_1) := (blk_cell BK216.out 1).trans rfl
            have hcz49_2 : wc.cell? ⟨gb216, 2, none⟩ = some (.bool a1_2) := (blk_cell BK216.out 2).trans rfl
            have hcz49_3 : wc.cell? ⟨gb216, 3, none⟩ = some (.string a1_3) := (blk_cell BK216.out 3).trans rfl
            have hfz49_0 := blk_frozen BK216.out 0
            have hfz49_1 := blk_frozen BK216.out 1
            have hfz49_2 := blk_frozen BK216.out 2
            have hfz49_3 := blk_frozen BK216.out 3
            have hnb50 := NB217_218.out
            have hnc50 := NB218_217.out
            have hcz51_0 : wc.cell? ⟨gb217, 0, none⟩ = some (.int .i64 a2_0) := (blk_cell BK217.out 0).trans rfl
            have hcz51_1 : wc.cell? ⟨gb217, 1, none⟩ = some (.int .i64 a2_1) := (blk_cell BK217.out 1).trans rfl
            have hcz51_2 : wc.cell? ⟨gb217, 2, none⟩ = some (.bool a2_2) := (blk_cell BK217.out 2).trans rfl
            have hcz51_3 : wc.cell? ⟨gb217, 3, none⟩ = some (.string a2_3) := (blk_cell BK217.out 3).trans rfl
            have hfz51_0 := blk_frozen BK217.out 0
            have hfz51_1 := blk_frozen BK217.out 1
            have hfz51_2 := blk_frozen BK217.out 2
            have hfz51_3 := blk_frozen BK217.out 3
            go_wp2_with (first | ((with_reducible refine gate_callee (f := 25) rfl ?_); refine goesL_ (some 46) rfl rfl Tryd.func25 (by kernel_rfl) rfl #[.int .i64 a0, .int .i64 a1_1, .int .i64 a2_1] rfl (by (try simp only [List.map_toArray, List.map_cons, List.map_nil]); first | done | rfl | (simp only [List.length_drop, List.length_take]; rfl)) ?_; (with_reducible refine (dossierref07_whole.calls kj4 a0 a1_1 a2_1 t228 true _ A44.out).mono ?_); rintro e w' ⟨rfl, ⟨nd, rfl⟩⟩; refine ⟨_, rfl, ?_⟩; (try (rw [drewN_self wc]; generalize hq_ : World.drewN wc _ = wc; have n0_ : Aside0 (wc.heap[gb216]? = some (.cells #[.int .i64 a1_0, .int .i64 a1_1, .bool a1_2, .string a1_3] 23 (0, 0))) := ⟨by rw [← hq_]; exact (by (with_reducible repeat (first | refine blk_bytes ?_ _ _ | refine blk_drewN ?_ _ | refine blk_drew ?_ | refine blk_alloc ?_ _)); exact BK216.out)⟩; have n1_ : Aside0 (wc.heap[gb217]? = some (.cells #[.int .i64 a2_0, .int .i64 a2_1, .bool a2_2, .string a2_3] 23 (0, 0))) := ⟨by rw [← hq_]; exact (by (with_reducible repeat (first | refine blk_bytes ?_ _ _ | refine blk_drewN ?_ _ | refine blk_drew ?_ | refine blk_alloc ?_ _)); exact BK217.out)⟩; have n2_ : Aside0 (wc.heap[gb218]? = some (.cells #[.int .i64 0, .int .i64 0, .bool false, .string (⟨#[]⟩ : ByteArray)] 23 (0, 0))) := ⟨by rw [← hq_]; exact (by (with_reducible repeat (first | refine blk_bytes ?_ _ _ | refine blk_drewN ?_ _ | refine blk_drew ?_ | refine blk_alloc ?_ _)); exact BK218.out)⟩; have n3_ : Aside0 (Below w.heap.size w wc) := ⟨by rw [← hq_]; exact (by repeat (first | (with_reducible first | exact HB.out | apply below_alloc | apply pw_below_drewN | apply below_drew1 | apply bytes_below1 | refine below_set ?_ GE216.out | refine below_set ?_ GE217.out | refine below_set ?_ GE218.out) | exact HB.out))⟩; clear BK216 BK217 BK218 HB hq_; have BK216 := n0_; have BK217 := n1_; have BK218 := n2_; have HB := n3_; clear n0_ n1_ n2_ n3_))) | ((with_reducible refine gate_callee (f := 26) rfl ?_); refine goesL_ (some 53) rfl rfl Tryd.func26 (by kernel_rfl) rfl #[.int .i64 t228] rfl (by (try simp only [List.map_toArray, List.map_cons, List.map_nil]); first | done | rfl | (simp only [List.length_drop, List.length_take]; rfl)) ?_; (with_reducible refine (dossierref07_Int.calls t228 t230 t231 t232 t233 _ A46.out).mono ?_); rintro e w52 ⟨rfl, hb⟩; refine ⟨_, rfl, ?_⟩; have n0_ := Aside0.mk (blk_below (g := gb216) (o := .cells #[.int .i64 a1_0, .int .i64 a1_1, .bool a1_2, .string a1_3] 23 (0, 0)) (by (with_reducible repeat (first | refine blk_bytes ?_ _ _ | refine blk_drewN ?_ _ | refine blk_drew ?_ | refine blk_alloc ?_ _)); exact BK216.out) hb); have n1_ := Aside0.mk (blk_below (g := gb217) (o := .cells #[.int .i64 a2_0, .int .i64 a2_1, .bool a2_2, .string a2_3] 23 (0, 0)) (by (with_reducible repeat (first | refine blk_bytes ?_ _ _ | refine blk_drewN ?_ _ | refine blk_drew ?_ | refine blk_alloc ?_ _)); exact BK217.out) hb); have n2_ := Aside0.mk (blk_below (g := gb218) (o := .cells #[.int .i64 0, .int .i64 0, .bool false, .string (⟨#[]⟩ : ByteArray)] 23 (0, 0)) (by (with_reducible repeat (first | refine blk_bytes ?_ _ _ | refine blk_drewN ?_ _ | refine blk_drew ?_ | refine blk_alloc ?_ _)); exact BK218.out) hb); have n3_ := Aside0.mk (below_step (by repeat (first | (with_reducible first | exact HB.out | apply below_alloc | apply pw_below_drewN | apply below_drew1 | apply bytes_below1 | refine below_set ?_ GE216.out | refine below_set ?_ GE217.out | refine below_set ?_ GE218.out) | exact HB.out)) hb); clear BK216; clear BK217; clear BK218; clear HB; have BK216 := n0_; have BK217 := n1_; have BK218 := n2_; have HB := n3_; clear n0_ n1_ n2_ n3_; (try clear hb); (try clear hb2); (try clear hk); (try clear hi); have hcz53_0 : w52.cell? ⟨gb218, 0, none⟩ = some (.int .i64 0) := (blk_cell BK218.out 0).trans rfl; have hcz53_1 : w52.cell? ⟨gb218, 1, none⟩ = some (.int .i64 0) := (blk_cell BK218.out 1).trans rfl; have hcz53_2 : w52.cell? ⟨gb218, 2, none⟩ = some (.bool false) := (blk_cell BK218.out 2).trans rfl; have hcz53_3 : w52.cell? ⟨gb218, 3, none⟩ = some (.string (⟨#[]⟩ : ByteArray)) := (blk_cell BK218.out 3).trans rfl; have hfz53_0 := blk_frozen BK218.out 0; have hfz53_1 := blk_frozen BK218.out 1; have hfz53_2 := blk_frozen BK218.out 2; have hfz53_3 := blk_frozen BK218.out 3))
            refine bodyPost_ret (results_ct rfl _ _ gb218 23 #[.int .i64 t230, .int .i64 t231, .bool t232, .string t233] (0, 0) _ rfl (by (with_reducible repeat (first | refine blk_bytes ?_ _ _ | refine blk_drewN ?_ _ | refine blk_drew ?_ | refine blk_alloc ?_ _)); refine blk_put (cs := #[.int .i64 t230, .int .i64 t231, .bool t232, .string (⟨#[]⟩ : ByteArray)]) ?_ 3 _ rfl; (with_reducible repeat (first | refine blk_bytes ?_ _ _ | refine blk_drewN ?_ _ | refine blk_drew ?_ | refine blk_alloc ?_ _)); refine blk_put (cs := #[.int .i64 t230, .int .i64 t231, .bool false, .string (⟨#[]⟩ : ByteArray)]) ?_ 2 _ rfl; (with_reducible repeat (first | refine blk_bytes ?_ _ _ | refine blk_drewN ?_ _ | refine blk_drew ?_ | refine blk_alloc ?_ _)); refine blk_put (cs := #[.int .i64 t230, .int .i64 0, .bool false, .string (⟨#[]⟩ : ByteArray)]) ?_ 1 _ rfl; (with_reducible repeat (first | refine blk_bytes ?_ _ _ | refine blk_drewN ?_ _ | refine blk_drew ?_ | refine blk_alloc ?_ _)); refine blk_put (cs := #[.int .i64 0, .int .i64 0, .bool false, .string (⟨#[]⟩ : ByteArray)]) ?_ 0 _ rfl; (with_reducible repeat (first | refine blk_bytes ?_ _ _ | refine blk_drewN ?_ _ | refine blk_drew ?_ | refine blk_alloc ?_ _)); exact BK218.out) Tryd.underlying23 rfl (by kernel_rfl)) rfl ?_
            exact ⟨by first | rfl | (simp [errW_none, errW_some] <;> rfl) | (simp [*, errW_none, errW_some] <;> rfl), by repeat (first | (with_reducible first | exact HB.out | apply below_alloc | apply pw_below_drewN | apply below_drew1 | apply bytes_below1 | refine below_set ?_ GE216.out | refine below_set ?_ GE217.out | refine below_set ?_ GE218.out) | exact HB.out)⟩
          · replace c45 := Bool.eq_false_iff.mpr c45
            subst c45
            have H1 : (some (0, 0, false, (⟨#[]⟩ : ByteArray), false)) = some (r1, r2, r3, r4, r5) := by rw [if_neg (show ¬ (false = true) by decide)] at H; exact H
            clear H
            have H := H1
            clear H1
            simp only [Option.some.injEq, Prod.mk.injEq] at H
            obtain ⟨rfl, rfl, rfl, rfl, rfl⟩ := H
            have hnb54 := NB216_217.out
            have hnc54 := NB217_216.out
            have hnb55 := NB216_218.out
            have hnc55 := NB218_216.out
            have hcz56_0 : wc.cell? ⟨gb216, 0, none⟩ = some (.int .i64 a1_0) := (blk_cell BK216.out 0).trans rfl
            have hcz56_1 : wc.cell? ⟨gb216, 1, none⟩ = some (.int .i64 a1_1) := (blk_cell BK216.out 1).trans rfl
            have hcz56_2 : wc.cell? ⟨gb216, 2, none⟩ = some (.bool a1_2) := (blk_cell BK216.out 2).trans rfl
            have hcz56_3 : wc.cell? ⟨gb216, 3, none⟩ = some (.string a1_3) := (blk_cell BK216.out 3).trans rfl
            have hfz56_0 := blk_frozen BK216.out 0
            have hfz56_1 := blk_frozen BK216.out 1
            have hfz56_2 := blk_frozen BK216.out 2
            have hfz56_3 := blk_frozen BK216.out 3
            have hnb57 := NB217_218.out
            have hnc57 := NB218_217.out
            have hcz58_0 : wc.cell? ⟨gb217, 0, none⟩ = some (.int .i64 a2_0) := (blk_cell BK217.out 0).trans rfl
            have hcz58_1 : wc.cell? ⟨gb217, 1, none⟩ = some (.int .i64 a2_1) := (blk_cell BK217.out 1).trans rfl
            have hcz58_2 : wc.cell? ⟨gb217, 2, none⟩ = some (.bool a2_2) := (blk_cell BK217.out 2).trans rfl
            have hcz58_3 : wc.cell? ⟨gb217, 3, none⟩ = some (.string a2_3) := (blk_cell BK217.out 3).trans rfl
            have hfz58_0 := blk_frozen BK217.out 0
            have hfz58_1 := blk_frozen BK217.out 1
            have hfz58_2 := blk_frozen BK217.out 2
            have hfz58_3 := blk_frozen BK217.out 3
            go_wp2_with (first | ((with_reducible refine gate_callee (f := 25) rfl ?_); refine goesL_ (some 46) rfl rfl Tryd.func25 (by kernel_rfl) rfl #[.int .i64 a0, .int .i64 a1_1, .int .i64 a2_1] rfl (by (try simp only [List.map_toArray, List.map_cons, List.map_nil]); first | done | rfl | (simp only [List.length_drop, List.length_take]; rfl)) ?_; (with_reducible refine (dossierref07_whole.calls kj4 a0 a1_1 a2_1 t228 false _ A44.out).mono ?_); rintro e w' ⟨rfl, ⟨nd, rfl⟩⟩; refine ⟨_, rfl, ?_⟩; (try (rw [drewN_self wc]; generalize hq_ : World.drewN wc _ = wc; have n0_ : Aside0 (wc.heap[gb216]? = some (.cells #[.int .i64 a1_0, .int .i64 a1_1, .bool a1_2, .string a1_3] 23 (0, 0))) := ⟨by rw [← hq_]; exact (by (with_reducible repeat (first | refine blk_bytes ?_ _ _ | refine blk_drewN ?_ _ | refine blk_drew ?_ | refine blk_alloc ?_ _)); exact BK216.out)⟩; have n1_ : Aside0 (wc.heap[gb217]? = some (.cells #[.int .i64 a2_0, .int .i64 a2_1, .bool a2_2, .string a2_3] 23 (0, 0))) := ⟨by rw [← hq_]; exact (by (with_reducible repeat (first | refine blk_bytes ?_ _ _ | refine blk_drewN ?_ _ | refine blk_drew ?_ | refine blk_alloc ?_ _)); exact BK217.out)⟩; have n2_ : Aside0 (wc.heap[gb218]? = some (.cells #[.int .i64 0, .int .i64 0, .bool false, .string (⟨#[]⟩ : ByteArray)] 23 (0, 0))) := ⟨by rw [← hq_]; exact (by (with_reducible repeat (first | refine blk_bytes ?_ _ _ | refine blk_drewN ?_ _ | refine blk_drew ?_ | refine blk_alloc ?_ _)); exact BK218.out)⟩; have n3_ : Aside0 (Below w.heap.size w wc) := ⟨by rw [← hq_]; exact (by repeat (first | (with_reducible first | exact HB.out | apply below_alloc | apply pw_below_drewN | apply below_drew1 | apply bytes_below1 | refine below_set ?_ GE216.out | refine below_set ?_ GE217.out | refine below_set ?_ GE218.out) | exact HB.out))⟩; clear BK216 BK217 BK218 HB hq_; have BK216 := n0_; have BK217 := n1_; have BK218 := n2_; have HB := n3_; clear n0_ n1_ n2_ n3_)); have hcz59_0 : wc.cell? ⟨gb218, 0, none⟩ = some (.int .i64 0) := (blk_cell BK218.out 0).trans rfl; have hcz59_1 : wc.cell? ⟨gb218, 1, none⟩ = some (.int .i64 0) := (blk_cell BK218.out 1).trans rfl; have hcz59_2 : wc.cell? ⟨gb218, 2, none⟩ = some (.bool false) := (blk_cell BK218.out 2).trans rfl; have hcz59_3 : wc.cell? ⟨gb218, 3, none⟩ = some (.string (⟨#[]⟩ : ByteArray)) := (blk_cell BK218.out 3).trans rfl; have hfz59_0 := blk_frozen BK218.out 0; have hfz59_1 := blk_frozen BK218.out 1; have hfz59_2 := blk_frozen BK218.out 2; have hfz59_3 := blk_frozen BK218.out 3))
            refine bodyPost_ret (results_ct rfl _ _ gb218 23 #[.int .i64 0, .int .i64 0, .bool false, .string (⟨#[]⟩ : ByteArray)] (0, 0) _ rfl (by (with_reducible repeat (first | refine blk_bytes ?_ _ _ | refine blk_drewN ?_ _ | refine blk_drew ?_ | refine blk_alloc ?_ _)); refine blk_put (cs := #[.int .i64 0, .int .i64 0, .bool false, .string (⟨#[]⟩ : ByteArray)]) ?_ 3 _ rfl; (with_reducible repeat (first | refine blk_bytes ?_ _ _ | refine blk_drewN ?_ _ | refine blk_drew ?_ | refine blk_alloc ?_ _)); refine blk_put (cs := #[.int .i64 0, .int .i64 0, .bool false, .string (⟨#[]⟩ : ByteArray)]) ?_ 2 _ rfl; (with_reducible repeat (first | refine blk_bytes ?_ _ _ | refine blk_drewN ?_ _ | refine blk_drew ?_ | refine blk_alloc ?_ _)); refine blk_put (cs := #[.int .i64 0, .int .i64 0, .bool false, .string (⟨#[]⟩ : ByteArray)]) ?_ 1 _ rfl; (with_reducible repeat (first | refine blk_bytes ?_ _ _ | refine blk_drewN ?_ _ | refine blk_drew ?_ | refine blk_alloc ?_ _)); refine blk_put (cs := #[.int .i64 0, .int .i64 0, .bool false, .string (⟨#[]⟩ : ByteArray)]) ?_ 0 _ rfl; (with_reducible repeat (first | refine blk_bytes ?_ _ _ | refine blk_drewN ?_ _ | refine blk_drew ?_ | refine blk_alloc ?_ _)); exact BK218.out) Tryd.underlying23 rfl (by kernel_rfl)) rfl ?_
            exact ⟨by first | rfl | (simp [errW_none, errW_some] <;> rfl) | (simp [*, errW_none, errW_some] <;> rfl), by repeat (first | (with_reducible first | exact HB.out | apply below_alloc | apply pw_below_drewN | apply below_drew1 | apply bytes_below1 | refine below_set ?_ GE216.out | refine below_set ?_ GE217.out | refine below_set ?_ GE218.out) | exact HB.out)⟩

end Go.Proofs.YtifgpigicgaadaaDoor.Q
end
section
-- Made by this session's own program (p2) out of the translation. Lean checks it.
namespace Go.Proofs.YtifgpigicgaadaaDoor.Q
open Go.RowKit Go.Proofs.YtifgpigicgaadaaDoorH Go.Proofs.YtifgpigicgaadaaDoorW.PrintWords Go.Proofs.YtifgpigicgaadaaDoorW.PrintLast Go.Proofs.YtifgpigicgaadaaDoorW.PrintMore
attribute [local go_sem] max2_int min2_int max_two min_two max_three min_three max_four min_four   -- for this text's walks alone
set_option linter.unusedVariables false
set_option linter.unusedSimpArgs false

/-! ### dossierlaw07_awake: function 11 -/
def dossierlaw07_awake.f (k : Nat)  : Option (Bool) := (value_Int.f (-7)).bind fun bt234 => ((value_Int.f 2).bind fun bt238 => ((value_Do.f k 8 bt234.1 bt234.2.1 bt234.2.2.1 bt234.2.2.2 bt238.1 bt238.2.1 bt238.2.2.1 bt238.2.2.2).bind fun bt242 => (if bt242.2.2.2.2 = true then (some (bt242.2.1 == (-3))) else (some false))))
set_option maxHeartbeats 8000000 in
set_option maxRecDepth 100000 in
theorem dossierlaw07_awake.calls (k : Nat)  (r : Bool) (w : World) (hL_ : Laid w) (h : dossierlaw07_awake.f k  = some r) :
    Calls Tryd.prog 11 #[] w fun e w' => e = .returned (.bool r) ∧ Below w.heap.size w w' := by
  have hu23 := Tryd.underlying23
  have HB := Aside0.mk (Below.refl w.heap.size w)
  have HLd := Aside0.mk hL_
  clear hL_
  have H : ((value_Int.f (-7)).bind fun bt234 => ((value_Int.f 2).bind fun bt238 => ((value_Do.f k 8 bt234.1 bt234.2.1 bt234.2.2.1 bt234.2.2.2 bt238.1 bt238.2.1 bt238.2.2.1 bt238.2.2.2).bind fun bt242 => (if bt242.2.2.2.2 = true then (some (bt242.2.1 == (-3))) else (some false))))) = some r := h
  clear h
  replace H := Option.bind_eq_some_iff.mp H
  obtain ⟨⟨t234, t235, t236, t237⟩, A10, H⟩ := H
  replace H : ((value_Int.f 2).bind fun bt238 => ((value_Do.f k 8 t234 t235 t236 t237 bt238.1 bt238.2.1 bt238.2.2.1 bt238.2.2.2).bind fun bt242 => (if bt242.2.2.2.2 = true then (some (bt242.2.1 == (-3))) else (some false)))) = some r := H
  have A1 := Aside0.mk A10
  clear A10
  replace H := Option.bind_eq_some_iff.mp H
  obtain ⟨⟨t238, t239, t240, t241⟩, A20, H⟩ := H
  replace H : ((value_Do.f k 8 t234 t235 t236 t237 t238 t239 t240 t241).bind fun bt242 => (if bt242.2.2.2.2 = true then (some (bt242.2.1 == (-3))) else (some false))) = some r := H
  have A2 := Aside0.mk A20
  clear A20
  replace H := Option.bind_eq_some_iff.mp H
  obtain ⟨⟨t242, t243, t244, t245, t246⟩, A30, H⟩ := H
  replace H : (if t246 = true then (some (t243 == (-3))) else (some false)) = some r := H
  have A3 := Aside0.mk A30
  clear A30
  by_cases c4 : t246 = true
  · subst c4
    have H1 : (some (t243 == (-3))) = some r := by rw [if_pos rfl] at H; exact H
    clear H
    have H := H1
    clear H1
    obtain rfl := Option.some.inj H
    go_enter Tryd.func11, Tryd.ntmps11
    go_wp2_with (first | ((with_reducible refine gate_callee (f := 13) rfl ?_); refine goesL_ (some 4) rfl rfl Tryd.func13 (by kernel_rfl) rfl #[.int .i64 (-7)] rfl (by (try simp only [List.map_toArray, List.map_cons, List.map_nil]); first | done | rfl | (simp only [List.length_drop, List.length_take]; rfl)) ?_; (with_reducible refine (value_Int.calls (-7) t234 t235 t236 t237 _ A1.out).mono ?_); rintro e w5 ⟨rfl, hb⟩; refine ⟨_, rfl, ?_⟩; have n0_ := Aside0.mk (below_step (by repeat (first | (with_reducible first | exact HB.out | apply below_alloc | apply pw_below_drewN | apply below_drew1 | apply bytes_below1) | exact HB.out)) hb); clear HB; have HB := n0_; clear n0_; (try clear hb); (try clear hb2); (try clear hk); (try clear hi)) | ((with_reducible refine gate_callee (f := 13) rfl ?_); refine goesL_ (some 5) rfl rfl Tryd.func13 (by kernel_rfl) rfl #[.int .i64 2] rfl (by (try simp only [List.map_toArray, List.map_cons, List.map_nil]); first | done | rfl | (simp only [List.length_drop, List.length_take]; rfl)) ?_; (with_reducible refine (value_Int.calls 2 t238 t239 t240 t241 _ A2.out).mono ?_); rintro e w6 ⟨rfl, hb⟩; refine ⟨_, rfl, ?_⟩; have n0_ := Aside0.mk (below_step (by repeat (first | (with_reducible first | exact HB.out | apply below_alloc | apply pw_below_drewN | apply below_drew1 | apply bytes_below1) | exact HB.out)) hb); clear HB; have HB := n0_; clear n0_; (try clear hb); (try clear hb2); (try clear hk); (try clear hi)) | ((with_reducible refine gate_callee (f := 7) rfl ?_); refine goesL_ (some 6) rfl rfl Tryd.func7 (by kernel_rfl) rfl #[.int .i64 8, .agg #[.int .i64 t234, .int .i64 t235, .bool t236, .string t237], .agg #[.int .i64 t238, .int .i64 t239, .bool t240, .string t241]] rfl (by (try simp only [List.map_toArray, List.map_cons, List.map_nil]); first | done | rfl | (simp only [List.length_drop, List.length_take]; rfl)) ?_; (with_reducible refine (value_Do.calls k 8 t234 t235 t236 t237 t238 t239 t240 t241 t242 t243 t244 t245 true _ ?side1 A3.out).mono ?_); (case side1 => exact Laid_below HLd.out (by repeat (first | (with_reducible first | exact HB.out | apply below_alloc | apply pw_below_drewN | apply below_drew1 | apply bytes_below1) | exact HB.out))); rintro e w7 ⟨rfl, hb⟩; refine ⟨_, rfl, ?_⟩; have n0_ := Aside0.mk (below_step (by repeat (first | (with_reducible first | exact HB.out | apply below_alloc | apply pw_below_drewN | apply below_drew1 | apply bytes_below1) | exact HB.out)) hb); clear HB; have HB := n0_; clear n0_; (try clear hb); (try clear hb2); (try clear hk); (try clear hi)) | ((with_reducible refine gate_dst (N := 1) rfl ?_); refine box_event ?hg (N := 1) ?hd (cs := #[.int .i64 0, .int .i64 0, .bool false, .string (⟨#[]⟩ : ByteArray)]) (t := 23) ?hr ?_; (case hd => rfl); (case hg => rfl); (case hr => first | (go_simp; done) | (go_simp; rfl)); intro gb247 hg w8 hbox hb; have n0_ := Aside0.mk (below_step (by repeat (first | (with_reducible first | exact HB.out | apply below_alloc | apply pw_below_drewN | apply below_drew1 | apply bytes_below1) | exact HB.out)) hb); have n1_ := Aside0.mk (hbox); have n2_ := Aside0.mk ((by rw [hg]; exact (below_size (by repeat (first | (with_reducible first | exact HB.out | apply below_alloc | apply pw_below_drewN | apply below_drew1 | apply bytes_below1) | exact HB.out))) : w.heap.size ≤ gb247)); have n3_ := Aside0.mk ((by rw [hg]; exact (below_size (by repeat (first | (with_reducible first | exact HB.out | apply below_alloc | apply pw_below_drewN | apply below_drew1 | apply bytes_below1) | exact HB.out))) : w.heap.size ≤ gb247)); clear HB; have HB := n0_; have BK247 := n1_; have GW247 := n2_; have GE247 := n3_; clear n0_ n1_ n2_ n3_; clear hb hbox hg; have hcz9_0 : w8.cell? ⟨gb247, 0, none⟩ = some (.int .i64 0) := (blk_cell BK247.out 0).trans rfl; have hcz9_1 : w8.cell? ⟨gb247, 1, none⟩ = some (.int .i64 0) := (blk_cell BK247.out 1).trans rfl; have hcz9_2 : w8.cell? ⟨gb247, 2, none⟩ = some (.bool false) := (blk_cell BK247.out 2).trans rfl; have hcz9_3 : w8.cell? ⟨gb247, 3, none⟩ = some (.string (⟨#[]⟩ : ByteArray)) := (blk_cell BK247.out 3).trans rfl; have hfz9_0 := blk_frozen BK247.out 0; have hfz9_1 := blk_frozen BK247.out 1; have hfz9_2 := blk_frozen BK247.out 2; have hfz9_3 := blk_frozen BK247.out 3))
    go_ret
    exact ⟨by first | rfl | (simp [errW_none, errW_some] <;> rfl) | (simp [*, errW_none, errW_some] <;> rfl), by repeat (first | (with_reducible first | exact HB.out | apply below_alloc | apply pw_below_drewN | apply below_drew1 | apply bytes_below1 | refine below_set ?_ GE247.out) | exact HB.out)⟩
  · replace c4 := Bool.eq_false_iff.mpr c4
    subst c4
    have H1 : (some false) = some r := by rw [if_neg (show ¬ (false = true) by decide)] at H; exact H
    clear H
    have H := H1
    clear H1
    obtain rfl := Option.some.inj H
    go_enter Tryd.func11, Tryd.ntmps11
    go_wp2_with (first | ((with_reducible refine gate_callee (f := 13) rfl ?_); refine goesL_ (some 4) rfl rfl Tryd.func13 (by kernel_rfl) rfl #[.int .i64 (-7)] rfl (by (try simp only [List.map_toArray, List.map_cons, List.map_nil]); first | done | rfl | (simp only [List.length_drop, List.length_take]; rfl)) ?_; (with_reducible refine (value_Int.calls (-7) t234 t235 t236 t237 _ A1.out).mono ?_); rintro e w10 ⟨rfl, hb⟩; refine ⟨_, rfl, ?_⟩; have n0_ := Aside0.mk (below_step (by repeat (first | (with_reducible first | exact HB.out | apply below_alloc | apply pw_below_drewN | apply below_drew1 | apply bytes_below1) | exact HB.out)) hb); clear HB; have HB := n0_; clear n0_; (try clear hb); (try clear hb2); (try clear hk); (try clear hi)) | ((with_reducible refine gate_callee (f := 13) rfl ?_); refine goesL_ (some 5) rfl rfl Tryd.func13 (by kernel_rfl) rfl #[.int .i64 2] rfl (by (try simp only [List.map_toArray, List.map_cons, List.map_nil]); first | done | rfl | (simp only [List.length_drop, List.length_take]; rfl)) ?_; (with_reducible refine (value_Int.calls 2 t238 t239 t240 t241 _ A2.out).mono ?_); rintro e w11 ⟨rfl, hb⟩; refine ⟨_, rfl, ?_⟩; have n0_ := Aside0.mk (below_step (by repeat (first | (with_reducible first | exact HB.out | apply below_alloc | apply pw_below_drewN | apply below_drew1 | apply bytes_below1) | exact HB.out)) hb); clear HB; have HB := n0_; clear n0_; (try clear hb); (try clear hb2); (try clear hk); (try clear hi)) | ((with_reducible refine gate_callee (f := 7) rfl ?_); refine goesL_ (some 6) rfl rfl Tryd.func7 (by kernel_rfl) rfl #[.int .i64 8, .agg #[.int .i64 t234, .int .i64 t235, .bool t236, .string t237], .agg #[.int .i64 t238, .int .i64 t239, .bool t240, .string t241]] rfl (by (try simp only [List.map_toArray, List.map_cons, List.map_nil]); first | done | rfl | (simp only [List.length_drop, List.length_take]; rfl)) ?_; (with_reducible refine (value_Do.calls k 8 t234 t235 t236 t237 t238 t239 t240 t241 t242 t243 t244 t245 false _ ?side1 A3.out).mono ?_); (case side1 => exact Laid_below HLd.out (by repeat (first | (with_reducible first | exact HB.out | apply below_alloc | apply pw_below_drewN | apply below_drew1 | apply bytes_below1) | exact HB.out))); rintro e w12 ⟨rfl, hb⟩; refine ⟨_, rfl, ?_⟩; have n0_ := Aside0.mk (below_step (by repeat (first | (with_reducible first | exact HB.out | apply below_alloc | apply pw_below_drewN | apply below_drew1 | apply bytes_below1) | exact HB.out)) hb); clear HB; have HB := n0_; clear n0_; (try clear hb); (try clear hb2); (try clear hk); (try clear hi)) | ((with_reducible refine gate_dst (N := 1) rfl ?_); refine box_event ?hg (N := 1) ?hd (cs := #[.int .i64 0, .int .i64 0, .bool false, .string (⟨#[]⟩ : ByteArray)]) (t := 23) ?hr ?_; (case hd => rfl); (case hg => rfl); (case hr => first | (go_simp; done) | (go_simp; rfl)); intro gb247 hg w13 hbox hb; have n0_ := Aside0.mk (below_step (by repeat (first | (with_reducible first | exact HB.out | apply below_alloc | apply pw_below_drewN | apply below_drew1 | apply bytes_below1) | exact HB.out)) hb); have n1_ := Aside0.mk (hbox); have n2_ := Aside0.mk ((by rw [hg]; exact (below_size (by repeat (first | (with_reducible first | exact HB.out | apply below_alloc | apply pw_below_drewN | apply below_drew1 | apply bytes_below1) | exact HB.out))) : w.heap.size ≤ gb247)); have n3_ := Aside0.mk ((by rw [hg]; exact (below_size (by repeat (first | (with_reducible first | exact HB.out | apply below_alloc | apply pw_below_drewN | apply below_drew1 | apply bytes_below1) | exact HB.out))) : w.heap.size ≤ gb247)); clear HB; have HB := n0_; have BK247 := n1_; have GW247 := n2_; have GE247 := n3_; clear n0_ n1_ n2_ n3_; clear hb hbox hg; have hcz14_0 : w13.cell? ⟨gb247, 0, none⟩ = some (.int .i64 0) := (blk_cell BK247.out 0).trans rfl; have hcz14_1 : w13.cell? ⟨gb247, 1, none⟩ = some (.int .i64 0) := (blk_cell BK247.out 1).trans rfl; have hcz14_2 : w13.cell? ⟨gb247, 2, none⟩ = some (.bool false) := (blk_cell BK247.out 2).trans rfl; have hcz14_3 : w13.cell? ⟨gb247, 3, none⟩ = some (.string (⟨#[]⟩ : ByteArray)) := (blk_cell BK247.out 3).trans rfl; have hfz14_0 := blk_frozen BK247.out 0; have hfz14_1 := blk_frozen BK247.out 1; have hfz14_2 := blk_frozen BK247.out 2; have hfz14_3 := blk_frozen BK247.out 3))
    go_ret
    exact ⟨by first | rfl | (simp [errW_none, errW_some] <;> rfl) | (simp [*, errW_none, errW_some] <;> rfl), by repeat (first | (with_reducible first | exact HB.out | apply below_alloc | apply pw_below_drewN | apply below_drew1 | apply bytes_below1 | refine below_set ?_ GE247.out) | exact HB.out)⟩

end Go.Proofs.YtifgpigicgaadaaDoor.Q
end
section
/- What an operator makes: the program's and the reference's reckoning and judging are the same wherever they are asked. -/
set_option linter.unusedSimpArgs false
set_option linter.unusedVariables false
namespace Go.Proofs.YtifgpigicgaadaaDoor.Does
open Go.RowKit Go.Proofs.YtifgpigicgaadaaDoor.Q Go.Proofs.YtifgpigicgaadaaDoorW.PrintWords Go.Proofs.YtifgpigicgaadaaDoorW.PrintLast Go.Proofs.YtifgpigicgaadaaDoorH Go.Proofs.YtifgpigicgaadaaDoor.Chars Go.Proofs.YtifgpigicgaadaaDoor.Values

def In64 (x : Int) : Prop := -9223372036854775808 ≤ x ∧ x < 9223372036854775808
theorem wrap_in (x : Int) : In64 (wrap64 x) := by unfold In64 wrap64; omega
theorem wrap_at {x : Int} (h : In64 x) : wrap64 x = x := by unfold In64 at h; unfold wrap64; omega

/-! ## Signs of bits -/
theorem sgn_wrap (v : BitVec 64) : IntKind.i64.wrap (v.toNat : Int) < 0 ↔ v.msb = true := by
  have h := v.isLt
  rw [BitVec.msb_eq_decide, decide_eq_true_eq]
  simp [IntKind.wrap, IntKind.bits, IntKind.signed]
  omega
theorem msb_of (x : Int) (h : In64 x) : (BitVec.ofInt 64 x).msb = true ↔ x < 0 := by
  unfold In64 at h
  rw [BitVec.msb_eq_decide, decide_eq_true_eq, BitVec.toNat_ofInt]
  omega
theorem in_wrap (n : Int) : In64 (IntKind.i64.wrap n) := by
  unfold In64
  simp [IntKind.wrap, IntKind.bits, IntKind.signed]
  omega
theorem xor_in (x y : Int) : In64 (Go.bits .xor .i64 x y) := in_wrap _
theorem sgn_xor (x y : Int) (hx : In64 x) (hy : In64 y) : Go.bits .xor .i64 x y < 0 ↔ ¬ (x < 0 ↔ y < 0) := by
  have e : Go.bits .xor .i64 x y < 0 ↔ (BitVec.ofInt 64 x ^^^ BitVec.ofInt 64 y).msb = true := sgn_wrap _
  rw [e, BitVec.msb_xor, ← msb_of x hx, ← msb_of y hy]
  cases (BitVec.ofInt 64 x).msb <;> cases (BitVec.ofInt 64 y).msb <;> simp
theorem sgn_and (x y : Int) (hx : In64 x) (hy : In64 y) : Go.bits .and .i64 x y < 0 ↔ (x < 0 ∧ y < 0) := by
  have e : Go.bits .and .i64 x y < 0 ↔ (BitVec.ofInt 64 x &&& BitVec.ofInt 64 y).msb = true := sgn_wrap _
  rw [e, BitVec.msb_and, ← msb_of x hx, ← msb_of y hy]
  cases (BitVec.ofInt 64 x).msb <;> cases (BitVec.ofInt 64 y).msb <;> simp

theorem add_ok (a b : Int) (ha : In64 a) (hb : In64 b) :
    decide ((Go.bits .and .i64 (Go.bits .xor .i64 a (wrap64 (a + b))) (Go.bits .xor .i64 b (wrap64 (a + b)))) ≥ 0) = ((decide ((wrap64 (a + b)) > a)) == (decide (b > 0))) := by
  have hs := wrap_in (a + b)
  have h1 := sgn_and _ _ (xor_in a (wrap64 (a + b))) (xor_in b (wrap64 (a + b)))
  rw [sgn_xor a _ ha hs, sgn_xor b _ hb hs] at h1
  have hw : wrap64 (a + b) = a + b ∨ wrap64 (a + b) = a + b - 18446744073709551616 ∨ wrap64 (a + b) = a + b + 18446744073709551616 := by
    unfold In64 at ha hb; unfold wrap64; omega
  unfold In64 at ha hb hs
  generalize wrap64 (a + b) = s at *
  generalize Go.bits .and .i64 (Go.bits .xor .i64 a s) (Go.bits .xor .i64 b s) = q at *
  rw [Bool.eq_iff_iff]
  simp only [decide_eq_true_eq, beq_iff_eq, decide_eq_decide]
  omega
theorem sub_ok (a b : Int) (ha : In64 a) (hb : In64 b) :
    decide ((Go.bits .and .i64 (Go.bits .xor .i64 a b) (Go.bits .xor .i64 a (wrap64 (a - b)))) ≥ 0) = ((decide ((wrap64 (a - b)) < a)) == (decide (b > 0))) := by
  have hs := wrap_in (a - b)
  have h1 := sgn_and _ _ (xor_in a b) (xor_in a (wrap64 (a - b)))
  rw [sgn_xor a _ ha hs, sgn_xor a _ ha hb] at h1
  have hw : wrap64 (a - b) = a - b ∨ wrap64 (a - b) = a - b - 18446744073709551616 ∨ wrap64 (a - b) = a - b + 18446744073709551616 := by
    unfold In64 at ha hb; unfold wrap64; omega
  unfold In64 at ha hb hs
  generalize wrap64 (a - b) = s at *
  generalize Go.bits .and .i64 (Go.bits .xor .i64 a b) (Go.bits .xor .i64 a s) = q at *
  rw [Bool.eq_iff_iff]
  simp only [decide_eq_true_eq, beq_iff_eq, decide_eq_decide]
  omega

/-! ## Products -/
def mag (a : Int) : Int := if a < 0 then -a else a
theorem product_1_spec (a : Int) (h : In64 a) : value_product_1.f a = some (mag a) := by
  unfold In64 at h
  unfold value_product_1.f mag
  simp only [IntKind.wrap_u64]
  split
  · congr 1; omega
  · congr 1; omega
theorem mag_mul (a b : Int) : mag a * mag b = mag (a * b) := by
  unfold mag
  by_cases h1 : a < 0
  · by_cases h2 : b < 0
    · rw [if_pos h1, if_pos h2, if_neg (by have := Int.mul_pos_of_neg_of_neg h1 h2; omega), Int.neg_mul_neg]
    · by_cases h3 : b = 0
      · subst h3; simp
      · rw [if_pos h1, if_neg h2, if_pos (Int.mul_neg_of_neg_of_pos h1 (by omega)), Int.neg_mul]
  · by_cases h4 : a = 0
    · subst h4; simp
    · by_cases h2 : b < 0
      · rw [if_neg h1, if_pos h2, if_pos (Int.mul_neg_of_pos_of_neg (by omega) h2), Int.mul_neg]
      · rw [if_neg h1, if_neg h2, if_neg (by have := Int.mul_nonneg (a := a) (b := b) (by omega) (by omega); omega)]
instance (x : Int) : Decidable (In64 x) := by unfold In64; infer_instance
theorem sign_mul (a b : Int) : ((decide (a < 0)) != (decide (b < 0))) = true → a * b ≤ 0 := by
  intro h
  simp at h
  by_cases h1 : a < 0
  · exact Int.mul_nonpos_of_nonpos_of_nonneg (by omega) (by omega)
  · exact Int.mul_nonpos_of_nonneg_of_nonpos (by omega) (by omega)
theorem sign_mul' (a b : Int) : ¬ ((decide (a < 0)) != (decide (b < 0))) = true → 0 ≤ a * b := by
  intro h
  simp at h
  by_cases h1 : a < 0
  · exact Int.mul_nonneg_of_nonpos_of_nonpos (by omega) (by omega)
  · exact Int.mul_nonneg (by omega) (by omega)
theorem product_spec (a b : Int) (ha : In64 a) (hb : In64 b) : value_product.f a b = some (wrap64 (a * b), decide (In64 (a * b))) := by
  unfold value_product.f
  rw [product_1_spec a ha, Option.bind_some, product_1_spec b hb, Option.bind_some]
  unfold bits_Mul64.f
  have h1 : 0 ≤ mag a ∧ mag a < 18446744073709551616 := by unfold In64 at ha; unfold mag; split <;> omega
  have h2 : 0 ≤ mag b ∧ mag b < 18446744073709551616 := by unfold In64 at hb; unfold mag; split <;> omega
  rw [if_pos ⟨h1.1, h1.2, h2⟩, Option.bind_some, mag_mul]
  have s1 := sign_mul a b
  have s2 := sign_mul' a b
  generalize a * b = q at *
  by_cases hc : ((decide (a < 0)) != (decide (b < 0))) = true
  · have s1 := s1 hc
    rw [if_pos hc]
    have hm : mag q = -q := by unfold mag; split <;> omega
    simp only [hm]
    split
    · congr 2; rw [decide_eq_decide]; unfold In64; omega
    · congr 2; symm; rw [decide_eq_false_iff_not]; unfold In64; omega
  · have s2 := s2 hc
    rw [if_neg hc]
    have hm : mag q = q := by unfold mag; split <;> omega
    simp only [hm]
    split
    · congr 2; rw [decide_eq_decide]; unfold In64; omega
    · congr 2; symm; rw [decide_eq_false_iff_not]; unfold In64; omega
theorem tdiv_mul_in (a b : Int) (ha : In64 a) (hb : In64 b) (h0 : b ≠ 0) (h1 : ¬ (b = -1 ∧ a = -9223372036854775808)) :
    ((wrap64 (Int.tdiv (wrap64 (a * b)) b)) == a) = decide (In64 (a * b)) := by
  by_cases h : In64 (a * b)
  · rw [wrap_at h, Int.mul_tdiv_cancel _ h0, wrap_at ha]; simp [h]
  · simp only [h, decide_false, beq_eq_false_iff_ne, ne_eq]
    intro e
    have hp := wrap_in (a * b)
    have hq : ∃ m : Int, m ≠ 0 ∧ wrap64 (a * b) = a * b - m * 18446744073709551616 := by
      refine ⟨(a * b + 9223372036854775808) / 18446744073709551616, ?_, ?_⟩
      · unfold In64 at h; omega
      · unfold wrap64; omega
    obtain ⟨m, hm, hq⟩ := hq
    generalize hP : wrap64 (a * b) = p at *
    have hdm := Int.mul_tdiv_add_tmod p b
    have hlt : (Int.tmod p b).natAbs < b.natAbs := by
      rw [Int.natAbs_tmod]; exact Nat.mod_lt _ (by omega)
    have hr : Int.tdiv p b = a ∨ (Int.tdiv p b = 9223372036854775808 ∧ b = -1 ∧ p = -9223372036854775808) := by
      by_cases hin : In64 (Int.tdiv p b)
      · rw [wrap_at hin] at e; exact Or.inl e
      · right
        have hle : (Int.tdiv p b).natAbs = p.natAbs / b.natAbs := Int.natAbs_tdiv p b
        have hb2 : b.natAbs = 1 ∨ 2 ≤ b.natAbs := by omega
        have hpn : p.natAbs ≤ 9223372036854775808 := by unfold In64 at hp; omega
        rcases hb2 with hb1 | hb2
        · have : b = 1 ∨ b = -1 := by omega
          rcases this with rfl | rfl
          · rw [Int.tdiv_one] at hin; exact absurd hp hin
          · rw [Int.tdiv_neg, Int.tdiv_one] at hin ⊢
            unfold In64 at hin hp; omega
        · have h3 : p.natAbs / b.natAbs ≤ p.natAbs / 2 := Nat.div_le_div_left hb2 (by decide)
          unfold In64 at hin; omega
    rcases hr with hr | ⟨hr, rfl, hp2⟩
    · rw [hr] at hdm
      have hc : b * a = a * b := Int.mul_comm b a
      unfold In64 at hb
      omega
    · rw [hp2] at hq
      unfold In64 at ha
      omega

/-! ## An operator's integer -/
def reckonV (op a b : Int) : Int × Bool :=
  if op = 6 then (wrap64 (-a), (a != (-9223372036854775808)))
  else if op = 10 then (wrap64 (a + b), ((decide ((wrap64 (a + b)) > a)) == (decide (b > 0))))
  else if op = 11 then (wrap64 (a - b), ((decide ((wrap64 (a - b)) < a)) == (decide (b > 0))))
  else if op = 7 then (wrap64 (a * b), decide (In64 (a * b)))
  else if b = 0 then (0, false)
  else if op = 8 then (if b = -1 then (wrap64 (-a), (a != (-9223372036854775808))) else (wrap64 (Int.tdiv a b), true))
  else if b = -1 then (0, true)
  else (Int.tmod a b, true)
theorem reckon_spec (k : Nat) (op a b : Int) (ha : In64 a) (hb : In64 b) : value_reckon.f (k + 3) op a b = some (reckonV op a b) := by
  unfold value_reckon.f reckonV
  by_cases h6 : op = 6
  · rw [if_pos h6, if_pos h6]
  rw [if_neg h6, if_neg h6]
  by_cases h10 : op = 10
  · rw [if_pos h10, if_pos h10, add_ok a b ha hb]
  rw [if_neg h10, if_neg h10]
  by_cases h11 : op = 11
  · rw [if_pos h11, if_pos h11, sub_ok a b ha hb]
  rw [if_neg h11, if_neg h11]
  by_cases h7 : op = 7
  · rw [if_pos h7, if_pos h7, product_spec a b ha hb]; rfl
  rw [if_neg h7, if_neg h7]
  by_cases h0 : b = 0
  · rw [if_pos h0, if_pos h0]
  rw [if_neg h0, if_neg h0]
  by_cases h8 : op = 8 <;> by_cases h1 : b = -1
  · simp [h8, h1, value_reckon.j0]
  · simp [h8, h1, value_reckon.j0, h0]
  · simp [h8, h1, value_reckon.j0]
  · simp [h8, h1, value_reckon.j0, h0]
def wholeV (op a b : Int) : Int × Bool :=
  if op = 6 then (wrap64 (-a), (a != (-9223372036854775808)))
  else if op = 7 then (if a = 0 ∨ b = 0 then (0, true) else if (a = -1 ∧ b = -9223372036854775808) ∨ (b = -1 ∧ a = -9223372036854775808) then (0, false) else (wrap64 (a * b), decide (In64 (a * b))))
  else if op = 8 then (if b = 0 then (0, false) else if a = -9223372036854775808 ∧ b = -1 then (0, false) else (wrap64 (Int.tdiv a b), true))
  else if op = 9 then (if b = 0 then (0, false) else if b = -1 then (0, true) else (Int.tmod a b, true))
  else if op = 10 then (wrap64 (a + b), ((decide ((wrap64 (a + b)) > a)) == (decide (b > 0))))
  else (wrap64 (a - b), ((decide ((wrap64 (a - b)) < a)) == (decide (b > 0))))
theorem times_spec (k : Nat) (a b : Int) (ha : In64 a) (hb : In64 b) : dossierref07_times.f (k + 1) a b = some (if a = 0 ∨ b = 0 then (0, true) else if (a = -1 ∧ b = -9223372036854775808) ∨ (b = -1 ∧ a = -9223372036854775808) then (0, false) else (wrap64 (a * b), decide (In64 (a * b)))) := by
  unfold dossierref07_times.f
  by_cases h1 : a = 0
  · simp [h1, dossierref07_times.j0]
  by_cases h2 : b = 0
  · simp [h1, h2, dossierref07_times.j0]
  rw [if_neg h1, if_neg (by omega)]
  by_cases h3 : (a = -1 ∧ b = -9223372036854775808) ∨ (b = -1 ∧ a = -9223372036854775808)
  · rw [if_pos h3]
    rcases h3 with ⟨rfl, rfl⟩ | ⟨rfl, rfl⟩ <;> simp [dossierref07_times.j0]
  · rw [if_neg h3, dossierref07_times.j0, tdiv_mul_in a b ha hb h2 (fun h => h3 (Or.inr h))]
    simp only [h2, beq_iff_eq, if_false]
    repeat' split
    all_goals first | rfl | (exfalso; omega)
theorem whole_spec (k : Nat) (op a b : Int) (ha : In64 a) (hb : In64 b) : dossierref07_whole.f (k + 1) op a b = some (wholeV op a b) := by
  unfold dossierref07_whole.f wholeV
  by_cases h6 : op = 6
  · rw [if_pos h6, if_pos h6]
  rw [if_neg h6, if_neg h6]
  by_cases h7 : op = 7
  · rw [if_pos h7, if_pos h7, times_spec k a b ha hb]; rfl
  rw [if_neg h7, if_neg h7]
  repeat' split
  all_goals first | rfl | (exfalso; omega)
/-- The same wherever an operator makes an integer. -/
theorem reckon_whole (op a b : Int) (ha : In64 a) (hb : In64 b) (hop : 6 ≤ op ∧ op ≤ 11) : (reckonV op a b).2 = (wholeV op a b).2 ∧ ((wholeV op a b).2 = true → (reckonV op a b).1 = (wholeV op a b).1) := by
  have hc : op = 6 ∨ op = 7 ∨ op = 8 ∨ op = 9 ∨ op = 10 ∨ op = 11 := by omega
  rcases hc with rfl | rfl | rfl | rfl | rfl | rfl
  · simp [reckonV, wholeV]
  · simp only [reckonV, wholeV]
    simp
    by_cases h : a = 0 ∨ b = 0
    · rw [if_pos h]
      have e : a * b = 0 := by rcases h with rfl | rfl <;> simp
      rw [e]; simp [In64]; unfold wrap64; omega
    · rw [if_neg h]
      by_cases h3 : (a = -1 ∧ b = -9223372036854775808) ∨ (b = -1 ∧ a = -9223372036854775808)
      · rw [if_pos h3]
        have e : a * b = 9223372036854775808 := by rcases h3 with ⟨rfl, rfl⟩ | ⟨rfl, rfl⟩ <;> rfl
        rw [e]; simp [In64]
      · rw [if_neg h3]; simp
  · simp only [reckonV, wholeV]
    simp
    by_cases h0 : b = 0
    · simp [h0]
    by_cases h1 : b = -1
    · subst h1
      by_cases h2 : a = -9223372036854775808
      · simp [h2]
      · simp [h2, Int.tdiv_neg]
    · simp [h0, h1]
  · simp only [reckonV, wholeV]
    by_cases h0 : b = 0
    · simp [h0]
    by_cases h1 : b = -1
    · simp [h1]
    · simp [h0, h1]
  · simp [reckonV, wholeV]
  · simp [reckonV, wholeV]

/-! ## An operator's truth -/
theorem less_compare : ∀ a b : List UInt8, (Op.bytesLess a b = decide (Lib.compareBytes a b < 0)) ∧ (Op.bytesLess b a = decide (Lib.compareBytes a b > 0))
  | [], [] => ⟨rfl, rfl⟩
  | [], _ :: _ => ⟨rfl, rfl⟩
  | _ :: _, [] => ⟨rfl, rfl⟩
  | a :: x, b :: y => by
    have ih := less_compare x y
    unfold Op.bytesLess Lib.compareBytes
    by_cases h1 : a < b
    · have h2 : ¬ b < a := fun h => absurd (UInt8.lt_trans h1 h) (UInt8.lt_irrefl a)
      have h3 : ¬ b = a := fun h => by subst h; exact h2 h1
      simp [h1, h2, h3]
    · by_cases h2 : b < a
      · have h3 : ¬ a = b := fun h => by subst h; exact h1 h2
        simp [h1, h2, h3]
      · have h3 : a = b := UInt8.le_antisymm (UInt8.not_lt.1 h2) (UInt8.not_lt.1 h1)
        subst h3
        simp [UInt8.lt_irrefl, ih.1, ih.2]
def ordV (i : Int) (t : ByteArray) (j : Int) (u : ByteArray) : Int := if i < j then -1 else if j < i then 1 else Lib.compareBytes t.data.toList u.data.toList
theorem or2 (k : Nat) (x y : Int) : cmp_Or_int.f (k + 3) [x, y] = some (if x = 0 then (if y = 0 then 0 else y) else x) := by
  have w1 : wrap64 (0 + 1) = 1 := wrap_at (by unfold In64; omega)
  have w2 : wrap64 (1 + 1) = 2 := wrap_at (by unfold In64; omega)
  have r0 : rd [x, y] 0 = x := rfl
  have r1 : rd [x, y] 1 = y := rfl
  unfold cmp_Or_int.f
  rw [show k + 3 = (k + 2) + 1 from rfl, cmp_Or_int.l0, if_pos (by simp), if_pos (by simp), if_pos (by simp), r0, w1]
  by_cases hx : x = 0
  · rw [if_pos hx, if_pos hx, show k + 2 = (k + 1) + 1 from rfl, cmp_Or_int.l0, if_pos (by simp), if_pos (by simp), if_pos (by simp), r1, w2]
    by_cases hy : y = 0
    · rw [if_pos hy, if_pos hy, cmp_Or_int.l0, if_neg (by simp)]
    · rw [if_neg hy, if_neg hy]
  · rw [if_neg hx, if_neg hx]
def sameV (n1 i1 : Int) (y1 : Bool) (t1 : ByteArray) (n2 i2 : Int) (y2 : Bool) (t2 : ByteArray) : Bool := n1 == n2 && (i1 == i2 && (y1 == y2 && (t1.toList == t2.toList)))
def judgeV (op n1 i1 : Int) (y1 : Bool) (t1 : ByteArray) (n2 i2 : Int) (y2 : Bool) (t2 : ByteArray) : Bool :=
  if op = 5 then !y1 else if op = 18 then y1 && y2 else if op = 19 then y1 || y2
  else if op = 16 then sameV n1 i1 y1 t1 n2 i2 y2 t2 else if op = 17 then !sameV n1 i1 y1 t1 n2 i2 y2 t2
  else if op = 12 then decide (ordV i1 t1 i2 t2 < 0) else if op = 13 then decide (ordV i1 t1 i2 t2 ≤ 0) else if op = 14 then decide (ordV i1 t1 i2 t2 > 0) else decide (ordV i1 t1 i2 t2 ≥ 0)
theorem judge_spec (k : Nat) (op n1 i1 : Int) (y1 : Bool) (t1 : ByteArray) (n2 i2 : Int) (y2 : Bool) (t2 : ByteArray) : value_judge.f (k + 3) op n1 i1 y1 t1 n2 i2 y2 t2 = some (judgeV op n1 i1 y1 t1 n2 i2 y2 t2) := by
  unfold value_judge.f judgeV
  have c : cmp_Compare_int.f i1 i2 = some (if i1 < i2 then -1 else if i2 < i1 then 1 else 0) := by
    unfold cmp_Compare_int.f cmp_isNaN_int.f
    simp
    repeat' split
    all_goals rfl
  rw [c, Option.bind_some]
  unfold strings_Compare.f
  rw [Option.bind_some, or2, Option.bind_some]
  have e : (if (if i1 < i2 then (-1 : Int) else if i2 < i1 then 1 else 0) = 0 then (if Lib.compareBytes t1.data.toList t2.data.toList = 0 then 0 else Lib.compareBytes t1.data.toList t2.data.toList) else (if i1 < i2 then (-1 : Int) else if i2 < i1 then 1 else 0)) = ordV i1 t1 i2 t2 := by
    unfold ordV
    repeat' split
    all_goals omega
  rw [e]
  unfold sameV
  repeat' split
  all_goals first | rfl | (simp_all; done)
def truthV (op n1 i1 : Int) (y1 : Bool) (t1 : ByteArray) (n2 i2 : Int) (y2 : Bool) (t2 : ByteArray) (o : Int) : Bool :=
  if op = 5 then !y1 else if op = 12 then decide (o < 0) else if op = 13 then decide (o ≤ 0) else if op = 14 then decide (o > 0) else if op = 15 then decide (o ≥ 0)
  else if op = 16 then sameV n1 i1 y1 t1 n2 i2 y2 t2 else if op = 17 then !sameV n1 i1 y1 t1 n2 i2 y2 t2 else if op = 18 then y1 && y2 else y1 || y2
def orderV (i : Int) (t : ByteArray) (j : Int) (u : ByteArray) : Int :=
  if i < j ∨ Op.bytesLess t.toList u.toList = true then -1 else if i > j ∨ Op.bytesLess u.toList t.toList = true then 1 else 0
theorem order_spec (k : Nat) (n1 i1 : Int) (y1 : Bool) (t1 : ByteArray) (n2 i2 : Int) (y2 : Bool) (t2 : ByteArray) : dossierref07_order.f (k + 1) n1 i1 y1 t1 n2 i2 y2 t2 = some (orderV i1 t1 i2 t2) := by
  unfold dossierref07_order.f orderV
  simp only [dossierref07_order.j0]
  by_cases h1 : i1 < i2
  · simp [h1]
  · by_cases h2 : Op.bytesLess t1.toList t2.toList = true
    · simp [h1, h2]
    · by_cases h3 : i1 > i2
      · simp [h1, h2, h3]
      · by_cases h4 : Op.bytesLess t2.toList t1.toList = true
        · simp [h1, h2, h3, h4]
        · simp [h1, h2, h3, h4]
theorem truth_spec (k : Nat) (op n1 i1 : Int) (y1 : Bool) (t1 : ByteArray) (n2 i2 : Int) (y2 : Bool) (t2 : ByteArray) : dossierref07_truth.f (k + 1) op n1 i1 y1 t1 n2 i2 y2 t2 = some (truthV op n1 i1 y1 t1 n2 i2 y2 t2 (orderV i1 t1 i2 t2)) := by
  unfold dossierref07_truth.f truthV sameV
  rw [order_spec]
  simp only [Option.bind_some]
  repeat' split
  all_goals first | rfl | (simp_all; done)
/-- Of integers alone, or of texts alone, both orders are one. -/
theorem orders (i j : Int) (t u : ByteArray) (h : (t.toList = [] ∧ u.toList = []) ∨ (i = 0 ∧ j = 0)) : (ordV i t j u < 0 ↔ orderV i t j u < 0) ∧ (ordV i t j u > 0 ↔ orderV i t j u > 0) := by
  have hc := less_compare t.toList u.toList
  unfold ordV orderV
  rw [← Lib.toList_data, ← Lib.toList_data, hc.1, hc.2]
  rcases h with ⟨h1, h2⟩ | ⟨rfl, rfl⟩
  · rw [h1, h2]
    simp only [Lib.compareBytes]
    simp
  · generalize Lib.compareBytes t.toList u.toList = c
    simp
    constructor
    · repeat' split
      all_goals omega
    · repeat' split
      all_goals omega
theorem judge_truth (op n1 i1 : Int) (y1 : Bool) (t1 : ByteArray) (n2 i2 : Int) (y2 : Bool) (t2 : ByteArray) (hK : (kindV op n1 n2) = (2, true)) (h1 : canV n1 i1 y1 t1 = true) (h2 : canV n2 i2 y2 t2 = true) :
    judgeV op n1 i1 y1 t1 n2 i2 y2 t2 = truthV op n1 i1 y1 t1 n2 i2 y2 t2 (orderV i1 t1 i2 t2) := by
  by_cases hout : op < 5 ∨ 19 < op
  · rw [kindV_out _ _ _ hout] at hK; cases hK
  by_cases hm : 12 ≤ op ∧ op ≤ 15
  · have hk : n1 = n2 ∧ (n1 = 1 ∨ n1 = 3) := by
      unfold kindV at hK
      rw [if_neg (by omega), if_neg (by omega), if_neg (by omega), if_pos hm] at hK
      by_cases h : n1 = n2 ∧ (n1 = 1 ∨ n1 = 3)
      · exact h
      · rw [if_neg h] at hK; cases hK
    have ho : (t1.toList = [] ∧ t2.toList = []) ∨ (i1 = 0 ∧ i2 = 0) := by
      obtain ⟨rfl, rfl | rfl⟩ := hk
      · left
        simp [canV] at h1 h2
        exact ⟨h1.2, h2.2⟩
      · right
        simp [canV] at h1 h2
        exact ⟨h1.1, h2.1⟩
    have hO := orders i1 i2 t1 t2 ho
    unfold judgeV truthV
    generalize ordV i1 t1 i2 t2 = p at *
    generalize orderV i1 t1 i2 t2 = q at *
    have hc : op = 12 ∨ op = 13 ∨ op = 14 ∨ op = 15 := by omega
    rcases hc with rfl | rfl | rfl | rfl
    · simp; omega
    · simp; omega
    · simp; omega
    · simp; omega
  · have hc : op = 5 ∨ op = 16 ∨ op = 17 ∨ op = 18 ∨ op = 19 := by
      by_cases h : 6 ≤ op ∧ op ≤ 11
      · exfalso
        unfold kindV at hK
        rw [if_neg (by omega)] at hK
        repeat' split at hK
        all_goals first | (cases hK; done) | omega
      · omega
    rcases hc with rfl | rfl | rfl | rfl | rfl <;> simp [judgeV, truthV]

/-! ## An operator's value -/
def doV (J : Bool) (R K : Int × Bool) (c : Bool) : Int × Int × Bool × ByteArray × Bool :=
  if K.2 = true ∧ c = true then (if K.1 = 2 then (2, 0, J, ⟨#[]⟩, true) else if R.2 = true then (1, R.1, false, ⟨#[]⟩, true) else (0, 0, false, ⟨#[]⟩, false)) else (0, 0, false, ⟨#[]⟩, false)
theorem Do_spec (k : Nat) (op n1 i1 : Int) (y1 : Bool) (t1 : ByteArray) (n2 i2 : Int) (y2 : Bool) (t2 : ByteArray) (g1 : In64 i1) (g2 : In64 i2) :
    value_Do.f (k + 400) op n1 i1 y1 t1 n2 i2 y2 t2 = some (doV (judgeV op n1 i1 y1 t1 n2 i2 y2 t2) (reckonV op i1 i2) (kindV op n1 n2) (canV n1 i1 y1 t1 && canV n2 i2 y2 t2)) := by
  unfold value_Do.f doV
  rw [show k + 400 = (k + 395) + 5 from rfl, Kind_spec, Option.bind_some, show k + 395 + 5 = (k + 99) + 301 from rfl, Can_spec, Can_spec]
  simp only [Option.bind_some]
  rw [show k + 99 + 301 = (k + 399) + 1 from rfl]
  simp only [value_Do.j0]
  rw [show k + 399 = (k + 396) + 3 from rfl, judge_spec, reckon_spec _ _ _ _ g1 g2]
  unfold value_Int.f value_Bool.f
  generalize canV n1 i1 y1 t1 = c1
  generalize canV n2 i2 y2 t2 = c2
  generalize kindV op n1 n2 = K
  generalize reckonV op i1 i2 = R
  cases c1 <;> cases c2 <;> simp <;> repeat' split
  all_goals first | rfl | (simp_all; done)
theorem ref_Do_spec (k : Nat) (op n1 i1 : Int) (y1 : Bool) (t1 : ByteArray) (n2 i2 : Int) (y2 : Bool) (t2 : ByteArray) (g1 : In64 i1) (g2 : In64 i2) :
    dossierref07_Do.f (k + 400) op n1 i1 y1 t1 n2 i2 y2 t2 = some (doV (truthV op n1 i1 y1 t1 n2 i2 y2 t2 (orderV i1 t1 i2 t2)) (wholeV op i1 i2) (kindV op n1 n2) (canV n1 i1 y1 t1 && canV n2 i2 y2 t2)) := by
  unfold dossierref07_Do.f doV
  rw [show k + 400 = (k + 395) + 5 from rfl, ref_Kind_spec, Option.bind_some, show k + 395 + 5 = (k + 99) + 301 from rfl, ref_Can_spec, ref_Can_spec]
  simp only [Option.bind_some]
  rw [show k + 99 + 301 = (k + 399) + 1 from rfl]
  simp only [dossierref07_Do.j0]
  rw [show k + 399 = (k + 398) + 1 from rfl, truth_spec, whole_spec _ _ _ _ g1 g2]
  unfold dossierref07_Int.f dossierref07_Bool.f
  generalize canV n1 i1 y1 t1 = c1
  generalize canV n2 i2 y2 t2 = c2
  generalize kindV op n1 n2 = K
  generalize wholeV op i1 i2 = R
  cases c1 <;> cases c2 <;> simp <;> repeat' split
  all_goals first | rfl | (simp_all; done)
theorem kind_int (op a b : Int) (h : (kindV op a b).2 = true) : (kindV op a b).1 = 2 ∨ ((kindV op a b).1 = 1 ∧ 6 ≤ op ∧ op ≤ 11) := by
  unfold kindV at h ⊢
  repeat' split
  all_goals simp_all
  all_goals omega
theorem Do_same (op n1 i1 : Int) (y1 : Bool) (t1 : ByteArray) (n2 i2 : Int) (y2 : Bool) (t2 : ByteArray) (g1 : In64 i1) (g2 : In64 i2) :
    doV (judgeV op n1 i1 y1 t1 n2 i2 y2 t2) (reckonV op i1 i2) (kindV op n1 n2) (canV n1 i1 y1 t1 && canV n2 i2 y2 t2) = doV (truthV op n1 i1 y1 t1 n2 i2 y2 t2 (orderV i1 t1 i2 t2)) (wholeV op i1 i2) (kindV op n1 n2) (canV n1 i1 y1 t1 && canV n2 i2 y2 t2) := by
  unfold doV
  by_cases h : (kindV op n1 n2).2 = true ∧ (canV n1 i1 y1 t1 && canV n2 i2 y2 t2) = true
  · rw [if_pos h, if_pos h]
    rcases kind_int op n1 n2 h.1 with hk | ⟨hk, hop⟩
    · have hc := h.2
      rw [Bool.and_eq_true] at hc
      rw [if_pos hk, if_pos hk, judge_truth op n1 i1 y1 t1 n2 i2 y2 t2 (Prod.ext hk h.1) hc.1 hc.2]
    · have hk2 : ¬ (kindV op n1 n2).1 = 2 := by rw [hk]; decide
      rw [if_neg hk2, if_neg hk2]
      have := reckon_whole op i1 i2 g1 g2 hop
      rw [this.1]
      by_cases h2 : (wholeV op i1 i2).2 = true
      · rw [if_pos h2, if_pos h2, this.2 h2]
      · rw [if_neg h2, if_neg h2]
  · rw [if_neg h, if_neg h]
theorem awake_spec (k : Nat) : dossierlaw07_awake.f (k + 400) = some true := by
  unfold dossierlaw07_awake.f value_Int.f
  simp only [Option.bind_some]
  rw [Do_spec k 8 1 (-7) false ⟨#[]⟩ 1 2 false ⟨#[]⟩ (by unfold In64; omega) (by unfold In64; omega)]
  have e1 : canV 1 (-7) false ⟨#[]⟩ = true := by unfold canV; rw [toList_nil]; rfl
  have e2 : canV 1 2 false ⟨#[]⟩ = true := by unfold canV; rw [toList_nil]; rfl
  have e3 : reckonV 8 (-7) 2 = (-3, true) := by
    unfold reckonV
    have : wrap64 (-3) = -3 := wrap_at (by unfold In64; omega)
    simp [this]
  rw [e1, e2, e3]
  rfl
end Go.Proofs.YtifgpigicgaadaaDoor.Does
end
