/- Several texts in one, in their order. -/
import Derived.Test.YtifgpigicgaadaaDoorBLexerWords1
import Derived.Test.YtifgpigicgaadaaDoorBLexerWords4
import Derived.Test.YtifgpigicgaadaaDoorBLexerWords5
import Derived.Test.YtifgpigicgaadaaDoorBLexerWords6
import Derived.Test.YtifgpigicgaadaaDoorBLexerWords7
section
-- Made by this session's own program (p2) out of the translation. Lean checks it.
namespace Go.Proofs.YtifgpigicgaadaaDoor.Q
open Go.RowKit Go.Proofs.YtifgpigicgaadaaDoorH Go.Proofs.YtifgpigicgaadaaDoorW.PrintWords Go.Proofs.YtifgpigicgaadaaDoorW.PrintLast Go.Proofs.YtifgpigicgaadaaDoorW.PrintMore
attribute [local go_sem] max2_int min2_int max_two min_two max_three min_three max_four min_four   -- for this text's walks alone
set_option linter.unusedVariables false
set_option linter.unusedSimpArgs false

/-! ### lexer_Words: function 16 -/
def lexer_Words.l0 : Nat → ByteArray → List (S51) → ByteArray → Option ((List (S51)) × Int × Int)
  | 0, _, _, _ => none
  | k + 1, x0, x5, x6 => if x6.toList = ([] : List UInt8) then (if x5.length < 4398046511104 then (some ((x5 ++ [(⟨0, (⟨#[]⟩ : ByteArray), 0⟩ : S51)]), 0, 0)) else (none)) else ((lexer_word.f k x6).bind fun bt313 => (if bt313.2.2.2 = 0 then (some (([] : List (S51)), wrap64 ((x0.size : Int) - (x6.size : Int)), 20)) else (if x5.length < 4398046511104 then (if 0 ≤ bt313.2.2.2 then (if bt313.2.2.2 ≤ (x6.size : Int) then ((strings_TrimLeft.f (x6.extract (bt313.2.2.2 : Int).toNat x6.size) (⟨#[32, 9, 10, 13]⟩ : ByteArray)).bind fun t321 => (lexer_Words.l0 k x0 (x5 ++ [(⟨bt313.1, bt313.2.1, bt313.2.2.1⟩ : S51)]) t321)) else (none)) else (none)) else (none))))
def lexer_Words.f (k : Nat) (a0 : ByteArray) : Option ((List (S51)) × Int × Int) := if (a0.size : Int) > 400 then (some (([] : List (S51)), 0, 4)) else ((strings_TrimLeft.f a0 (⟨#[32, 9, 10, 13]⟩ : ByteArray)).bind fun t309 => (lexer_Words.l0 k a0 ([] : List (S51)) t309))
theorem lexer_Words.mono_l : ∀ k, (∀ y0 y1 y2, LeO (lexer_Words.l0 k y0 y1 y2) (lexer_Words.l0 (k + 1) y0 y1 y2))
  | 0 => fun _ _ _ r h => by simp [lexer_Words.l0] at h
  | k + 1 => by
    have ih0 := lexer_Words.mono_l k
    · intro y0 y1 y2
      unfold lexer_Words.l0
      repeat' first
      | (with_reducible exact ih0 _ _ _)
      | (with_reducible exact lexer_word.mono _ _)
      | (with_reducible exact LeO.refl _)
      | (with_reducible exact LeO.none _)
      | (with_reducible refine LeO.ite ?_ ?_)
      | (with_reducible refine LeO.bind ?_ (fun _ => ?_))
      | exact ih0 _ _ _
      | exact lexer_word.mono _ _
      | exact LeO.none _
      | refine LeO.ite ?_ ?_
      | refine LeO.bind ?_ (fun _ => ?_)
theorem lexer_Words.mono : ∀ a0 k, LeO (lexer_Words.f k a0) (lexer_Words.f (k + 1) a0) := by
  intro a0 k
  have ih0 := lexer_Words.mono_l k
  unfold lexer_Words.f
  repeat' first
      | (with_reducible exact ih0 _ _ _)
      | (with_reducible exact lexer_word.mono _ _)
      | (with_reducible exact LeO.refl _)
      | (with_reducible exact LeO.none _)
      | (with_reducible refine LeO.ite ?_ ?_)
      | (with_reducible refine LeO.bind ?_ (fun _ => ?_))
      | exact ih0 _ _ _
      | exact lexer_word.mono _ _
      | exact LeO.none _
      | refine LeO.ite ?_ ?_
      | refine LeO.bind ?_ (fun _ => ?_)
set_option maxHeartbeats 8000000 in
set_option maxRecDepth 100000 in
theorem lexer_Words.calls (k : Nat) (a0 : ByteArray) (r1 : List (S51)) (r2 : Int) (r3 : Int) (w : World) (hL_ : Laid w) (h : lexer_Words.f k a0 = some (r1, r2, r3)) :
    Calls Tryd.prog 16 #[.string a0] w fun e w' => ∃ v0_ : Value, e = .returned (.tuple #[v0_, .int .i64 r2, .int .i64 r3]) ∧ Kd.R k51 51 w' w.heap.size (fun _ => True) v0_ r1 ∧ Below w.heap.size w w' := by
  have hu51 := Tryd.underlying51
  have HB := Aside0.mk (Below.refl w.heap.size w)
  have HLd := Aside0.mk hL_
  clear hL_
  have H : (if (a0.size : Int) > 400 then (some (([] : List (S51)), 0, 4)) else ((strings_TrimLeft.f a0 (⟨#[32, 9, 10, 13]⟩ : ByteArray)).bind fun t309 => (lexer_Words.l0 k a0 ([] : List (S51)) t309))) = some (r1, r2, r3) := h
  clear h
  by_cases c2 : (a0.size : Int) > 400
  · rw [if_pos c2] at H
    have c2b0 : decide (400 < (a0.size : Int)) = true := decide_eq_true c2
    have c2b1 : decide (400 < a0.size) = true := decide_eq_true (by omega)
    clear c2
    simp only [Option.some.injEq, Prod.mk.injEq] at H
    obtain ⟨rfl, rfl, rfl⟩ := H
    go_enter Tryd.func16, Tryd.ntmps16
    go_wp2
    go_ret3
    exact ⟨_, by first | rfl | (simp [errW_none, errW_some] <;> rfl) | (simp [*, errW_none, errW_some] <;> rfl), by first | exact Kd.R_nil _ _ _ _ _ | exact Kd.N_nil _ _ _ _ _ | exact Kd.V_nil _ _ _ _ _ | exact Kd.Q_nil _ _ _ _ _ | exact Kd.S_nil _ _ _ _ _, by repeat (first | (with_reducible first | exact HB.out | apply below_alloc | apply pw_below_drewN | apply below_drew1 | apply bytes_below1) | exact HB.out)⟩
  · rw [if_neg c2] at H
    have c2b0 : decide (400 < (a0.size : Int)) = false := decide_eq_false c2
    have c2b1 : decide (400 < a0.size) = false := decide_eq_false (by omega)
    clear c2
    replace H := Option.bind_eq_some_iff.mp H
    obtain ⟨t309, A30, H⟩ := H
    replace H : (lexer_Words.l0 k a0 ([] : List (S51)) t309) = some (r1, r2, r3) := H
    have A3 := Aside0.mk A30
    clear A30
    have H' := Aside0.mk H
    clear H
    go_enter Tryd.func16, Tryd.ntmps16
    go_wp2_with (first | ((with_reducible refine gate_callee (f := 31) rfl ?_); refine goesL_ (some 13) rfl rfl Tryd.func31 (by kernel_rfl) rfl #[.string a0, .string (⟨#[32, 9, 10, 13]⟩ : ByteArray)] rfl (by (try simp only [List.map_toArray, List.map_cons, List.map_nil]); first | done | rfl | (simp only [List.length_drop, List.length_take]; rfl)) ?_; (with_reducible refine (strings_TrimLeft.calls a0 (⟨#[32, 9, 10, 13]⟩ : ByteArray) t309 _ A3.out).mono ?_); rintro e w4 ⟨rfl, hb⟩; refine ⟨_, rfl, ?_⟩; have n0_ := Aside0.mk (below_step (by repeat (first | (with_reducible first | exact HB.out | apply below_alloc | apply pw_below_drewN | apply below_drew1 | apply bytes_below1) | exact HB.out)) hb); clear HB; have HB := n0_; clear n0_; (try clear hb); (try clear hb2); (try clear hk); (try clear hi)))
    go_loopg [5, 6] k (fun kq v5 v6 w' => ∃ (x5_1 : List (S51)) (x6_1 : ByteArray), v6 = .string x6_1 ∧ Aside0 (lexer_Words.l0 kq a0 x5_1 x6_1 = some (r1, r2, r3)) ∧ Aside0 (kq ≤ k) ∧ Aside0 (Kd.R k51 51 w' w.heap.size (fun _ => True) v5 x5_1) ∧ Aside0 (Below w.heap.size w w'))
    case atStart => exact ⟨(([] : List (S51))), (t309), (by first | rfl | (simp; done) | (simp [*]; done)), H', ⟨Nat.le_refl _⟩, ⟨by first | exact Kd.R_nil _ _ _ _ _ | exact Kd.N_nil _ _ _ _ _ | exact Kd.V_nil _ _ _ _ _ | exact Kd.Q_nil _ _ _ _ _ | exact Kd.S_nil _ _ _ _ _⟩, ⟨by repeat (first | (with_reducible first | exact HB.out | apply below_alloc | apply pw_below_drewN | apply below_drew1 | apply bytes_below1) | exact HB.out)⟩⟩
    case round =>
      clear H'
      try clear c1
      try clear c2
      try clear c2b0
      try clear c2b1
      try clear p2
      try clear c3
      obtain ⟨x5_1, x6_1, rfl, HA, HK1, HO_5, HB⟩ := hrel
      cases gk with
      | zero => exact absurd HA.out (by simp [lexer_Words.l0])
      | succ k1 =>
        have H := HA.out
        clear HA
        simp only [lexer_Words.l0] at H
        by_cases c5 : x6_1.toList = ([] : List UInt8)
        · rw [if_pos c5] at H
          have c5b0 : (x6_1.toList == ([] : List UInt8)) = true := beq_iff_eq.mpr c5
          have c5b1 : (x6_1.toList != ([] : List UInt8)) = false := bne_eq_false_iff_eq.mpr c5
          clear c5
          by_cases c6 : x5_1.length < 4398046511104
          · rw [if_pos c6] at H
            have LMc6 := Aside0.mk c6
            clear c6
            obtain ⟨y310, hy310⟩ : ∃ y_ : List (S51), y_ = (x5_1 ++ [(⟨0, (⟨#[]⟩ : ByteArray), 0⟩ : S51)]) := ⟨_, rfl⟩
            replace H : (some (y310, 0, 0)) = some (r1, r2, r3) := by first | (rw [hy310]; with_reducible exact H) | (have H2_ := (Option.bind_some _ _).symm.trans H; rw [hy310]; with_reducible exact H2_) | (have H2_ := (Option.bind_some _ _).symm.trans H; with_reducible exact H2_) | with_reducible exact H | (rw [hy310]; exact H) | exact H
            have Ny310 := Aside0.mk hy310
            clear hy310
            simp only [Option.some.injEq, Prod.mk.injEq] at H
            obtain ⟨rfl, rfl, rfl⟩ := H
            go_wp2_with (first | ((with_reducible refine gate_builtin (b := .append) (xs := #[.tmp 37, .tmp 39]) rfl ?_); at_builtin; refine Kd.R_append k51 (w0 := w) w.heap.size rfl (.tmp 37) (.tmp 39) 38 51 (.agg #[(.int .i64 0), (.string ⟨#[]⟩), (.int .i64 0)]) 32 rfl Tryd.underlying38 info51 rfl (by decide) (by omega) u5 x5_1 (⟨0, (⟨#[]⟩ : ByteArray), 0⟩ : S51) [.int .i64 0, .string (⟨#[]⟩ : ByteArray), .int .i64 0] (fun _ => True) (fun _ => False) rfl rfl ?aP (fun _ hk => hk.elim) ?aF ?aO ?aB ?aS ?aL ?_; (case aP => exact k51_mkM _ _ _ (⟨0, (⟨#[]⟩ : ByteArray), 0⟩ : S51)); (case aB => exact (by repeat (first | (with_reducible first | exact HB.out | apply below_alloc | apply pw_below_drewN | apply below_drew1 | apply bytes_below1) | exact HB.out))); (case aF => exact (fun _ _ => trivial)); (case aO => exact (by (with_reducible repeat (first | apply Kd.R_alloc | apply R_bytes | apply Kd.R_drewN | apply Kd.R_drew)); exact HO_5.out)); (case aS => exact (below_size (by repeat (first | (with_reducible first | exact HB.out | apply below_alloc | apply pw_below_drewN | apply below_drew1 | apply bytes_below1) | exact HB.out)))); (case aL => have := LMc6.out; omega); intro v311 w7 ho hb hg hat; rw [← Ny310.out] at ho; have n0_ := Aside0.mk (hb); have n1_ := Aside0.mk (ho); clear HB; clear HO_5; have HB := n0_; have HO312 := n1_; clear n0_ n1_; clear ho hb hg hat))
            go_ret3
            exact ⟨_, by first | rfl | (simp [errW_none, errW_some] <;> rfl) | (simp [*, errW_none, errW_some] <;> rfl), by (with_reducible repeat (first | apply Kd.R_alloc | apply R_bytes | apply Kd.R_drewN | apply Kd.R_drew)); exact HO312.out, by repeat (first | (with_reducible first | exact HB.out | apply below_alloc | apply pw_below_drewN | apply below_drew1 | apply bytes_below1) | exact HB.out)⟩
          · rw [if_neg c6] at H
            exact absurd H (by simp)
        · rw [if_neg c5] at H
          have c5b0 : (x6_1.toList == ([] : List UInt8)) = false := beq_eq_false_iff_ne.mpr c5
          have c5b1 : (x6_1.toList != ([] : List UInt8)) = true := bne_iff_ne.mpr c5
          replace H := Option.bind_eq_some_iff.mp H
          obtain ⟨⟨t313, t314, t315, t316⟩, A80, H⟩ := H
          replace H : (if t316 = 0 then (some (([] : List (S51)), wrap64 ((a0.size : Int) - (x6_1.size : Int)), 20)) else (if x5_1.length < 4398046511104 then (if 0 ≤ t316 then (if t316 ≤ (x6_1.size : Int) then ((strings_TrimLeft.f (x6_1.extract (t316 : Int).toNat x6_1.size) (⟨#[32, 9, 10, 13]⟩ : ByteArray)).bind fun t321 => (lexer_Words.l0 k1 a0 (x5_1 ++ [(⟨t313, t314, t315⟩ : S51)]) t321)) else (none)) else (none)) else (none))) = some (r1, r2, r3) := H
          have A8 := Aside0.mk A80
          clear A80
          by_cases c9 : t316 = 0
          · rw [if_pos c9] at H
            have c9b0 : (t316 == 0) = true := beq_iff_eq.mpr c9
            have c9b1 : (t316 != 0) = false := bne_eq_false_iff_eq.mpr c9
            clear c9
            simp only [Option.some.injEq, Prod.mk.injEq] at H
            obtain ⟨rfl, rfl, rfl⟩ := H
            go_wp2_with (first | ((with_reducible refine gate_callee (f := 32) rfl ?_); refine goesL_ (some 20) rfl rfl Tryd.func32 (by kernel_rfl) rfl #[.string x6_1] rfl (by (try simp only [List.map_toArray, List.map_cons, List.map_nil]); first | done | rfl | (simp only [List.length_drop, List.length_take]; rfl)) ?_; (with_reducible refine (lexer_word.calls k1 x6_1 t313 t314 t315 t316 _ ?side1 A8.out).mono ?_); (case side1 => exact Laid_below HLd.out (by repeat (first | (with_reducible first | exact HB.out | apply below_alloc | apply pw_below_drewN | apply below_drew1 | apply bytes_below1) | exact HB.out))); rintro e w10 ⟨rfl, hb⟩; refine ⟨_, rfl, ?_⟩; have n0_ := Aside0.mk (Kd.R_below (by (with_reducible repeat (first | apply Kd.R_alloc | apply R_bytes | apply Kd.R_drewN | apply Kd.R_drew)); exact HO_5.out) hb); have n1_ := Aside0.mk (below_step (by repeat (first | (with_reducible first | exact HB.out | apply below_alloc | apply pw_below_drewN | apply below_drew1 | apply bytes_below1) | exact HB.out)) hb); clear HO_5; clear HB; have HO_5 := n0_; have HB := n1_; clear n0_ n1_; (try clear hb); (try clear hb2); (try clear hk); (try clear hi)) | ((with_reducible refine gate_dst (N := 7) rfl ?_); refine box_event ?hg (N := 7) ?hd (cs := #[.int .i64 0, .string (⟨#[]⟩ : ByteArray), .int .i64 0]) (t := 51) ?hr ?_; (case hd => rfl); (case hg => rfl); (case hr => first | (go_simp; done) | (go_simp; rfl)); intro gb317 hg w11 hbox hb; have n0_ := Aside0.mk (Kd.R_below (Kd.R_elderB (by (with_reducible repeat (first | apply Kd.R_alloc | apply R_bytes | apply Kd.R_drewN | apply Kd.R_drew)); exact HO_5.out) gb317 (Nat.le_of_eq hg.symm)) hb); have n1_ := Aside0.mk (below_step (by repeat (first | (with_reducible first | exact HB.out | apply below_alloc | apply pw_below_drewN | apply below_drew1 | apply bytes_below1) | exact HB.out)) hb); have n2_ := Aside0.mk (hbox); have n3_ := Aside0.mk ((by rw [hg]; exact (below_size (by repeat (first | (with_reducible first | exact HB.out | apply below_alloc | apply pw_below_drewN | apply below_drew1 | apply bytes_below1) | exact HB.out))) : w.heap.size ≤ gb317)); have n4_ := Aside0.mk ((by rw [hg]; exact (below_size (by repeat (first | (with_reducible first | exact HB.out | apply below_alloc | apply pw_below_drewN | apply below_drew1 | apply bytes_below1) | exact HB.out))) : w.heap.size ≤ gb317)); clear HO_5; clear HB; have HO_5 := n0_; have HB := n1_; have BK317 := n2_; have GW317 := n3_; have GE317 := n4_; clear n0_ n1_ n2_ n3_ n4_; clear hb hbox hg; have hcz12_0 : w11.cell? ⟨gb317, 0, none⟩ = some (.int .i64 0) := (blk_cell BK317.out 0).trans rfl; have hcz12_1 : w11.cell? ⟨gb317, 1, none⟩ = some (.string (⟨#[]⟩ : ByteArray)) := (blk_cell BK317.out 1).trans rfl; have hcz12_2 : w11.cell? ⟨gb317, 2, none⟩ = some (.int .i64 0) := (blk_cell BK317.out 2).trans rfl; have hfz12_0 := blk_frozen BK317.out 0; have hfz12_1 := blk_frozen BK317.out 1; have hfz12_2 := blk_frozen BK317.out 2))
            go_ret3
            exact ⟨_, by first | rfl | (simp [errW_none, errW_some] <;> rfl) | (simp [*, errW_none, errW_some] <;> rfl), by first | exact Kd.R_nil _ _ _ _ _ | exact Kd.N_nil _ _ _ _ _ | exact Kd.V_nil _ _ _ _ _ | exact Kd.Q_nil _ _ _ _ _ | exact Kd.S_nil _ _ _ _ _, by repeat (first | (with_reducible first | exact HB.out | apply below_alloc | apply pw_below_drewN | apply below_drew1 | apply bytes_below1 | refine below_set ?_ GE317.out) | exact HB.out)⟩
          · rw [if_neg c9] at H
            have c9b0 : (t316 == 0) = false := beq_eq_false_iff_ne.mpr c9
            have c9b1 : (t316 != 0) = true := bne_iff_ne.mpr c9
            by_cases c13 : x5_1.length < 4398046511104
            · rw [if_pos c13] at H
              have LMc13 := Aside0.mk c13
              clear c13
              obtain ⟨y318, hy318⟩ : ∃ y_ : List (S51), y_ = (x5_1 ++ [(⟨t313, t314, t315⟩ : S51)]) := ⟨_, rfl⟩
              replace H : (if 0 ≤ t316 then (if t316 ≤ (x6_1.size : Int) then ((strings_TrimLeft.f (x6_1.extract (t316 : Int).toNat x6_1.size) (⟨#[32, 9, 10, 13]⟩ : ByteArray)).bind fun t321 => (lexer_Words.l0 k1 a0 y318 t321)) else (none)) else (none)) = some (r1, r2, r3) := by first | (rw [hy318]; with_reducible exact H) | (have H2_ := (Option.bind_some _ _).symm.trans H; rw [hy318]; with_reducible exact H2_) | (have H2_ := (Option.bind_some _ _).symm.trans H; with_reducible exact H2_) | with_reducible exact H | (rw [hy318]; exact H) | exact H
              have Ny318 := Aside0.mk hy318
              clear hy318
              by_cases c14 : 0 ≤ t316
              · rw [if_pos c14] at H
                have c14b0 := eq_true c14
                have c14b1 : decide (0 ≤ t316) = true := decide_eq_true c14
                clear c14
                by_cases c15 : t316 ≤ (x6_1.size : Int)
                · rw [if_pos c15] at H
                  have c15b0 := eq_true c15
                  have c15b1 : decide (t316 ≤ (x6_1.size : Int)) = true := decide_eq_true c15
                  clear c15
                  replace H := Option.bind_eq_some_iff.mp H
                  obtain ⟨t321, A160, H⟩ := H
                  replace H : (lexer_Words.l0 k1 a0 y318 t321) = some (r1, r2, r3) := H
                  have A16 := Aside0.mk A160
                  clear A160
                  have H' := Aside0.mk H
                  clear H
                  go_wp2_with (first | ((with_reducible refine gate_callee (f := 32) rfl ?_); refine goesL_ (some 20) rfl rfl Tryd.func32 (by kernel_rfl) rfl #[.string x6_1] rfl (by (try simp only [List.map_toArray, List.map_cons, List.map_nil]); first | done | rfl | (simp only [List.length_drop, List.length_take]; rfl)) ?_; (with_reducible refine (lexer_word.calls k1 x6_1 t313 t314 t315 t316 _ ?side1 A8.out).mono ?_); (case side1 => exact Laid_below HLd.out (by repeat (first | (with_reducible first | exact HB.out | apply below_alloc | apply pw_below_drewN | apply below_drew1 | apply bytes_below1) | exact HB.out))); rintro e w17 ⟨rfl, hb⟩; refine ⟨_, rfl, ?_⟩; have n0_ := Aside0.mk (Kd.R_below (by (with_reducible repeat (first | apply Kd.R_alloc | apply R_bytes | apply Kd.R_drewN | apply Kd.R_drew)); exact HO_5.out) hb); have n1_ := Aside0.mk (below_step (by repeat (first | (with_reducible first | exact HB.out | apply below_alloc | apply pw_below_drewN | apply below_drew1 | apply bytes_below1) | exact HB.out)) hb); clear HO_5; clear HB; have HO_5 := n0_; have HB := n1_; clear n0_ n1_; (try clear hb); (try clear hb2); (try clear hk); (try clear hi)) | ((with_reducible refine gate_dst (N := 7) rfl ?_); refine box_event ?hg (N := 7) ?hd (cs := #[.int .i64 0, .string (⟨#[]⟩ : ByteArray), .int .i64 0]) (t := 51) ?hr ?_; (case hd => rfl); (case hg => rfl); (case hr => first | (go_simp; done) | (go_simp; rfl)); intro gb317 hg w18 hbox hb; have n0_ := Aside0.mk (Kd.R_below (Kd.R_elderB (by (with_reducible repeat (first | apply Kd.R_alloc | apply R_bytes | apply Kd.R_drewN | apply Kd.R_drew)); exact HO_5.out) gb317 (Nat.le_of_eq hg.symm)) hb); have n1_ := Aside0.mk (below_step (by repeat (first | (with_reducible first | exact HB.out | apply below_alloc | apply pw_below_drewN | apply below_drew1 | apply bytes_below1) | exact HB.out)) hb); have n2_ := Aside0.mk (hbox); have n3_ := Aside0.mk ((by rw [hg]; exact (below_size (by repeat (first | (with_reducible first | exact HB.out | apply below_alloc | apply pw_below_drewN | apply below_drew1 | apply bytes_below1) | exact HB.out))) : w.heap.size ≤ gb317)); have n4_ := Aside0.mk ((by rw [hg]; exact (below_size (by repeat (first | (with_reducible first | exact HB.out | apply below_alloc | apply pw_below_drewN | apply below_drew1 | apply bytes_below1) | exact HB.out))) : w.heap.size ≤ gb317)); clear HO_5; clear HB; have HO_5 := n0_; have HB := n1_; have BK317 := n2_; have GW317 := n3_; have GE317 := n4_; clear n0_ n1_ n2_ n3_ n4_; clear hb hbox hg; have hcz19_0 : w18.cell? ⟨gb317, 0, none⟩ = some (.int .i64 0) := (blk_cell BK317.out 0).trans rfl; have hcz19_1 : w18.cell? ⟨gb317, 1, none⟩ = some (.string (⟨#[]⟩ : ByteArray)) := (blk_cell BK317.out 1).trans rfl; have hcz19_2 : w18.cell? ⟨gb317, 2, none⟩ = some (.int .i64 0) := (blk_cell BK317.out 2).trans rfl; have hfz19_0 := blk_frozen BK317.out 0; have hfz19_1 := blk_frozen BK317.out 1; have hfz19_2 := blk_frozen BK317.out 2) | ((with_reducible refine gate_builtin (b := .append) (xs := #[.tmp 30, .tmp 32]) rfl ?_); at_builtin; refine Kd.R_append k51 (w0 := w) w.heap.size rfl (.tmp 30) (.tmp 32) 38 51 (.agg #[(.int .i64 0), (.string ⟨#[]⟩), (.int .i64 0)]) 32 rfl Tryd.underlying38 info51 rfl (by decide) (by omega) u5 x5_1 (⟨t313, t314, t315⟩ : S51) [.int .i64 t313, .string t314, .int .i64 t315] (fun k_ => k_ ≠ gb317) (fun _ => False) rfl (by first | (go_simp; done) | (go_simp; rfl)) ?aP (fun _ hk => hk.elim) ?aF ?aO ?aB ?aS ?aL ?_; (case aP => exact k51_mkM _ _ _ (⟨t313, t314, t315⟩ : S51)); (case aB => exact (by repeat (first | (with_reducible first | exact HB.out | apply below_alloc | apply pw_below_drewN | apply below_drew1 | apply bytes_below1 | refine below_set ?_ GE317.out) | exact HB.out))); (case aF => exact (fun k_ hk => Kd.freshB (g := gb317) (o := .cells #[.int .i64 t313, .string t314, .int .i64 t315] 51 (0, 0)) (by (with_reducible repeat (first | refine blk_bytes ?_ _ _ | refine blk_drewN ?_ _ | refine blk_drew ?_ | refine blk_alloc ?_ _)); refine blk_put (cs := #[.int .i64 t313, .string t314, .int .i64 0]) ?_ 2 _ rfl; (with_reducible repeat (first | refine blk_bytes ?_ _ _ | refine blk_drewN ?_ _ | refine blk_drew ?_ | refine blk_alloc ?_ _)); refine blk_put (cs := #[.int .i64 t313, .string (⟨#[]⟩ : ByteArray), .int .i64 0]) ?_ 1 _ rfl; (with_reducible repeat (first | refine blk_bytes ?_ _ _ | refine blk_drewN ?_ _ | refine blk_drew ?_ | refine blk_alloc ?_ _)); refine blk_put (cs := #[.int .i64 0, .string (⟨#[]⟩ : ByteArray), .int .i64 0]) ?_ 0 _ rfl; (with_reducible repeat (first | refine blk_bytes ?_ _ _ | refine blk_drewN ?_ _ | refine blk_drew ?_ | refine blk_alloc ?_ _)); exact BK317.out) k_ hk)); (case aO => exact (by (with_reducible repeat (first | apply Kd.R_alloc | apply R_bytes | apply Kd.R_drewN | apply Kd.R_drew)); exact Kd.R_mono (Kd.R_far (p := ⟨gb317, 2, none⟩) (Kd.R_far (p := ⟨gb317, 1, none⟩) (Kd.R_far (p := ⟨gb317, 0, none⟩) (Kd.R_mono HO_5.out (fun k_ hk => (⟨hk, hk.2⟩ : _ ∧ k_ ≠ gb317))) (fun _ hk => hk.2) (.int .i64 t313)) (fun _ hk => hk.2) (.string t314)) (fun _ hk => hk.2) (.int .i64 t315)) (fun _ hk => hk.1.2))); (case aS => exact (below_size (by repeat (first | (with_reducible first | exact HB.out | apply below_alloc | apply pw_below_drewN | apply below_drew1 | apply bytes_below1 | refine below_set ?_ GE317.out) | exact HB.out)))); (case aL => have := LMc13.out; omega); intro v319 w20 ho hb hg hat; rw [← Ny318.out] at ho; have n0_ := Aside0.mk (blk_grown (g := gb317) (o := .cells #[.int .i64 t313, .string t314, .int .i64 t315] 51 (0, 0)) (by (with_reducible repeat (first | refine blk_bytes ?_ _ _ | refine blk_drewN ?_ _ | refine blk_drew ?_ | refine blk_alloc ?_ _)); refine blk_put (cs := #[.int .i64 t313, .string t314, .int .i64 0]) ?_ 2 _ rfl; (with_reducible repeat (first | refine blk_bytes ?_ _ _ | refine blk_drewN ?_ _ | refine blk_drew ?_ | refine blk_alloc ?_ _)); refine blk_put (cs := #[.int .i64 t313, .string (⟨#[]⟩ : ByteArray), .int .i64 0]) ?_ 1 _ rfl; (with_reducible repeat (first | refine blk_bytes ?_ _ _ | refine blk_drewN ?_ _ | refine blk_drew ?_ | refine blk_alloc ?_ _)); refine blk_put (cs := #[.int .i64 0, .string (⟨#[]⟩ : ByteArray), .int .i64 0]) ?_ 0 _ rfl; (with_reducible repeat (first | refine blk_bytes ?_ _ _ | refine blk_drewN ?_ _ | refine blk_drew ?_ | refine blk_alloc ?_ _)); exact BK317.out) hg (Kd.R_away HO_5.out (fun _ hk => hk.2))); have n1_ := Aside0.mk (hb); have n2_ := Aside0.mk (ho); clear BK317; clear HB; clear HO_5; have BK317 := n0_; have HB := n1_; have HO320 := n2_; clear n0_ n1_ n2_; clear ho hb hg hat) | ((with_reducible refine gate_callee (f := 31) rfl ?_); refine goesL_ (some 17) rfl rfl Tryd.func31 (by kernel_rfl) rfl #[.string (x6_1.extract (t316 : Int).toNat x6_1.size), .string (⟨#[32, 9, 10, 13]⟩ : ByteArray)] rfl (by (try simp only [List.map_toArray, List.map_cons, List.map_nil]); first | done | rfl | (simp only [List.length_drop, List.length_take]; rfl)) ?_; (with_reducible refine (strings_TrimLeft.calls (x6_1.extract (t316 : Int).toNat x6_1.size) (⟨#[32, 9, 10, 13]⟩ : ByteArray) t321 _ A16.out).mono ?_); rintro e w21 ⟨rfl, hb⟩; refine ⟨_, rfl, ?_⟩; have n0_ := Aside0.mk (Kd.R_below (by (with_reducible repeat (first | apply Kd.R_alloc | apply R_bytes | apply Kd.R_drewN | apply Kd.R_drew)); exact HO320.out) hb); have n1_ := Aside0.mk (blk_below (g := gb317) (o := .cells #[.int .i64 t313, .string t314, .int .i64 t315] 51 (0, 0)) (by (with_reducible repeat (first | refine blk_bytes ?_ _ _ | refine blk_drewN ?_ _ | refine blk_drew ?_ | refine blk_alloc ?_ _)); exact BK317.out) hb); have n2_ := Aside0.mk (below_step (by repeat (first | (with_reducible first | exact HB.out | apply below_alloc | apply pw_below_drewN | apply below_drew1 | apply bytes_below1 | refine below_set ?_ GE317.out) | exact HB.out)) hb); clear HO320; clear BK317; clear HB; have HO320 := n0_; have BK317 := n1_; have HB := n2_; clear n0_ n1_ n2_; (try clear hb); (try clear hb2); (try clear hk); (try clear hi)))
                  go_roundg k1
                  case measure => have := HK1.out; omega
                  case rel => exact ⟨(y318), (t321), (by first | rfl | (simp; done) | (simp [*]; done)), H', ⟨by have := HK1.out; omega⟩, ⟨by (with_reducible repeat (first | apply Kd.R_alloc | apply R_bytes | apply Kd.R_drewN | apply Kd.R_drew)); exact Kd.R_mono HO320.out (fun _ hk => trivial)⟩, ⟨by repeat (first | (with_reducible first | exact HB.out | apply below_alloc | apply pw_below_drewN | apply below_drew1 | apply bytes_below1 | refine below_set ?_ GE317.out) | exact HB.out)⟩⟩
                · rw [if_neg c15] at H
                  exact absurd H (by simp)
              · rw [if_neg c14] at H
                exact absurd H (by simp)
            · rw [if_neg c13] at H
              exact absurd H (by simp)

end Go.Proofs.YtifgpigicgaadaaDoor.Q
end
section
-- Made by this session's own program (p2) out of the translation. Lean checks it.
namespace Go.Proofs.YtifgpigicgaadaaDoor.Q
open Go.RowKit Go.Proofs.YtifgpigicgaadaaDoorH Go.Proofs.YtifgpigicgaadaaDoorW.PrintWords Go.Proofs.YtifgpigicgaadaaDoorW.PrintLast Go.Proofs.YtifgpigicgaadaaDoorW.PrintMore
attribute [local go_sem] max2_int min2_int max_two min_two max_three min_three max_four min_four   -- for this text's walks alone
set_option linter.unusedVariables false
set_option linter.unusedSimpArgs false

/-! ### dossierref01_Space: function 33 -/
def dossierref01_Space.f (a0 : Int) : Option (Bool) := if a0 = 9 then (some true) else (if a0 = 10 then (some true) else (if a0 = 13 then (some true) else (some (a0 == 32))))
set_option maxHeartbeats 8000000 in
set_option maxRecDepth 100000 in
theorem dossierref01_Space.calls (a0 : Int) (r : Bool) (w : World) (h : dossierref01_Space.f a0 = some r) :
    Calls Tryd.prog 33 #[.int .i64 a0] w fun e w' => e = .returned (.bool r) ∧ Drawn0 w w' := by
  have H : (if a0 = 9 then (some true) else (if a0 = 10 then (some true) else (if a0 = 13 then (some true) else (some (a0 == 32))))) = some r := h
  clear h
  by_cases c2 : a0 = 9
  · rw [if_pos c2] at H
    have c2b0 : (a0 == 9) = true := beq_iff_eq.mpr c2
    have c2b1 : (a0 != 9) = false := bne_eq_false_iff_eq.mpr c2
    clear c2
    obtain rfl := Option.some.inj H
    go_enter Tryd.func33, Tryd.ntmps33
    go_wp2
    go_ret
    exact ⟨by first | rfl | (simp; done) | (simp [*]; done), by repeat (first | exact Drawn0.refl _ | apply Drawn0.step)⟩
  · rw [if_neg c2] at H
    have c2b0 : (a0 == 9) = false := beq_eq_false_iff_ne.mpr c2
    have c2b1 : (a0 != 9) = true := bne_iff_ne.mpr c2
    by_cases c3 : a0 = 10
    · rw [if_pos c3] at H
      have c3b0 : (a0 == 10) = true := beq_iff_eq.mpr c3
      have c3b1 : (a0 != 10) = false := bne_eq_false_iff_eq.mpr c3
      clear c3
      obtain rfl := Option.some.inj H
      go_enter Tryd.func33, Tryd.ntmps33
      go_wp2
      go_ret
      exact ⟨by first | rfl | (simp; done) | (simp [*]; done), by repeat (first | exact Drawn0.refl _ | apply Drawn0.step)⟩
    · rw [if_neg c3] at H
      have c3b0 : (a0 == 10) = false := beq_eq_false_iff_ne.mpr c3
      have c3b1 : (a0 != 10) = true := bne_iff_ne.mpr c3
      by_cases c4 : a0 = 13
      · rw [if_pos c4] at H
        have c4b0 : (a0 == 13) = true := beq_iff_eq.mpr c4
        have c4b1 : (a0 != 13) = false := bne_eq_false_iff_eq.mpr c4
        clear c4
        obtain rfl := Option.some.inj H
        go_enter Tryd.func33, Tryd.ntmps33
        go_wp2
        go_ret
        exact ⟨by first | rfl | (simp; done) | (simp [*]; done), by repeat (first | exact Drawn0.refl _ | apply Drawn0.step)⟩
      · rw [if_neg c4] at H
        have c4b0 : (a0 == 13) = false := beq_eq_false_iff_ne.mpr c4
        have c4b1 : (a0 != 13) = true := bne_iff_ne.mpr c4
        obtain rfl := Option.some.inj H
        go_enter Tryd.func33, Tryd.ntmps33
        go_wp2
        go_ret
        exact ⟨by first | rfl | (simp; done) | (simp [*]; done), by repeat (first | exact Drawn0.refl _ | apply Drawn0.step)⟩

end Go.Proofs.YtifgpigicgaadaaDoor.Q
end
section
-- Made by this session's own program (p2) out of the translation. Lean checks it.
namespace Go.Proofs.YtifgpigicgaadaaDoor.Q
open Go.RowKit Go.Proofs.YtifgpigicgaadaaDoorH Go.Proofs.YtifgpigicgaadaaDoorW.PrintWords Go.Proofs.YtifgpigicgaadaaDoorW.PrintLast Go.Proofs.YtifgpigicgaadaaDoorW.PrintMore
attribute [local go_sem] max2_int min2_int max_two min_two max_three min_three max_four min_four   -- for this text's walks alone
set_option linter.unusedVariables false
set_option linter.unusedSimpArgs false

/-! ### dossierref08_Words: function 17 -/
def dossierref08_Words.l0 : Nat → ByteArray → List (S51) → Int → Option ((List (S51)) × Int × Int)
  | 0, _, _, _ => none
  | k + 1, x0, x5, x6 => if x6 < (x0.size : Int) then (if 0 ≤ x6 then ((dossierref01_Space.f (wrap64 (bt x0 x6))).bind fun t367 => (if t367 = true then (dossierref08_Words.l0 k x0 x5 (wrap64 (x6 + 1))) else (if x6 ≤ (x0.size : Int) then ((dossierref08_word.f k (x0.extract (x6 : Int).toNat x0.size)).bind fun bt368 => (if bt368.2.2.2.2 = true then (if x5.length < 4398046511104 then (dossierref08_Words.l0 k x0 (x5 ++ [(⟨bt368.1, bt368.2.1, bt368.2.2.1⟩ : S51)]) (wrap64 (x6 + bt368.2.2.2.1))) else (none)) else (some (([] : List (S51)), x6, 20)))) else (none)))) else (none)) else (if x5.length < 4398046511104 then (some ((x5 ++ [(⟨0, (⟨#[]⟩ : ByteArray), 0⟩ : S51)]), 0, 0)) else (none))
def dossierref08_Words.f (k : Nat) (a0 : ByteArray) : Option ((List (S51)) × Int × Int) := if (a0.size : Int) > 400 then (some (([] : List (S51)), 0, 4)) else (dossierref08_Words.l0 k a0 ([] : List (S51)) 0)
set_option maxHeartbeats 8000000 in
set_option maxRecDepth 100000 in
theorem dossierref08_Words.calls (k : Nat) (a0 : ByteArray) (r1 : List (S51)) (r2 : Int) (r3 : Int) (w : World) (h : dossierref08_Words.f k a0 = some (r1, r2, r3)) :
    Calls Tryd.prog 17 #[.string a0] w fun e w' => ∃ v0_ : Value, e = .returned (.tuple #[v0_, .int .i64 r2, .int .i64 r3]) ∧ Kd.R k51 51 w' w.heap.size (fun _ => True) v0_ r1 ∧ Below w.heap.size w w' := by
  have hu51 := Tryd.underlying51
  have HB := Aside0.mk (Below.refl w.heap.size w)
  have H : (if (a0.size : Int) > 400 then (some (([] : List (S51)), 0, 4)) else (dossierref08_Words.l0 k a0 ([] : List (S51)) 0)) = some (r1, r2, r3) := h
  clear h
  by_cases c2 : (a0.size : Int) > 400
  · rw [if_pos c2] at H
    have c2b0 : decide (400 < (a0.size : Int)) = true := decide_eq_true c2
    have c2b1 : decide (400 < a0.size) = true := decide_eq_true (by omega)
    clear c2
    simp only [Option.some.injEq, Prod.mk.injEq] at H
    obtain ⟨rfl, rfl, rfl⟩ := H
    go_enter Tryd.func17, Tryd.ntmps17
    go_wp2
    go_ret3
    exact ⟨_, by first | rfl | (simp [errW_none, errW_some] <;> rfl) | (simp [*, errW_none, errW_some] <;> rfl), by first | exact Kd.R_nil _ _ _ _ _ | exact Kd.N_nil _ _ _ _ _ | exact Kd.V_nil _ _ _ _ _ | exact Kd.Q_nil _ _ _ _ _ | exact Kd.S_nil _ _ _ _ _, by repeat (first | (with_reducible first | exact HB.out | apply below_alloc | apply pw_below_drewN | apply below_drew1 | apply bytes_below1) | exact HB.out)⟩
  · rw [if_neg c2] at H
    have c2b0 : decide (400 < (a0.size : Int)) = false := decide_eq_false c2
    have c2b1 : decide (400 < a0.size) = false := decide_eq_false (by omega)
    clear c2
    have H' := Aside0.mk H
    clear H
    go_enter Tryd.func17, Tryd.ntmps17
    go_wp2
    go_loopg [5, 6] k (fun kq v5 v6 w' => ∃ (x5_1 : List (S51)) (x6_1 : Int), v6 = .int .i64 x6_1 ∧ Aside0 (dossierref08_Words.l0 kq a0 x5_1 x6_1 = some (r1, r2, r3)) ∧ Aside0 (kq ≤ k) ∧ Aside0 (Kd.R k51 51 w' w.heap.size (fun _ => True) v5 x5_1) ∧ Aside0 (Below w.heap.size w w'))
    case atStart => exact ⟨(([] : List (S51))), (0), (by first | rfl | (simp; done) | (simp [*]; done)), H', ⟨Nat.le_refl _⟩, ⟨by first | exact Kd.R_nil _ _ _ _ _ | exact Kd.N_nil _ _ _ _ _ | exact Kd.V_nil _ _ _ _ _ | exact Kd.Q_nil _ _ _ _ _ | exact Kd.S_nil _ _ _ _ _⟩, ⟨by repeat (first | (with_reducible first | exact HB.out | apply below_alloc | apply pw_below_drewN | apply below_drew1 | apply bytes_below1) | exact HB.out)⟩⟩
    case round =>
      clear H'
      try clear c1
      try clear c2
      try clear c2b0
      try clear c2b1
      try clear p2
      obtain ⟨x5_1, x6_1, rfl, HA, HK1, HO_5, HB⟩ := hrel
      cases gk with
      | zero => exact absurd HA.out (by simp [dossierref08_Words.l0])
      | succ k1 =>
        have H := HA.out
        clear HA
        simp only [dossierref08_Words.l0] at H
        by_cases c3 : x6_1 < (a0.size : Int)
        · rw [if_pos c3] at H
          have c3b0 : decide (x6_1 < (a0.size : Int)) = true := decide_eq_true c3
          clear c3
          by_cases c4 : 0 ≤ x6_1
          · rw [if_pos c4] at H
            have c4b0 : decide (0 ≤ x6_1) = true := decide_eq_true c4
            clear c4
            replace H := Option.bind_eq_some_iff.mp H
            obtain ⟨t367, A60, H⟩ := H
            replace H : (if t367 = true then (dossierref08_Words.l0 k1 a0 x5_1 (wrap64 (x6_1 + 1))) else (if x6_1 ≤ (a0.size : Int) then ((dossierref08_word.f k1 (a0.extract (x6_1 : Int).toNat a0.size)).bind fun bt368 => (if bt368.2.2.2.2 = true then (if x5_1.length < 4398046511104 then (dossierref08_Words.l0 k1 a0 (x5_1 ++ [(⟨bt368.1, bt368.2.1, bt368.2.2.1⟩ : S51)]) (wrap64 (x6_1 + bt368.2.2.2.1))) else (none)) else (some (([] : List (S51)), x6_1, 20)))) else (none))) = some (r1, r2, r3) := H
            have A6 := Aside0.mk A60
            clear A60
            by_cases c7 : t367 = true
            · subst c7
              have H1 : (dossierref08_Words.l0 k1 a0 x5_1 (wrap64 (x6_1 + 1))) = some (r1, r2, r3) := by rw [if_pos rfl] at H; exact H
              clear H
              have H := H1
              clear H1
              have H' := Aside0.mk H
              clear H
              have p5 : 0 ≤ (x6_1 : Int) := of_decide_eq_true (by first | (with_reducible assumption) | assumption)
              have q5 : x6_1 < (a0.size : Int) := of_decide_eq_true (by first | (with_reducible assumption) | assumption)
              have hx5 := bt_at a0 x6_1
              replace p5 := eq_true p5
              replace q5 := eq_true q5
              go_wp2_with (first | ((with_reducible refine gate_callee (f := 33) rfl ?_); refine goesL_ (some 21) rfl rfl Tryd.func33 (by kernel_rfl) rfl #[.int .i64 (wrap64 (bt a0 x6_1))] rfl (by (try simp only [List.map_toArray, List.map_cons, List.map_nil]); first | done | rfl | (simp only [List.length_drop, List.length_take]; rfl)) ?_; (with_reducible refine (dossierref01_Space.calls (wrap64 (bt a0 x6_1)) true _ A6.out).mono ?_); rintro e w' ⟨rfl, ⟨nd, rfl⟩⟩; refine ⟨_, rfl, ?_⟩))
              go_roundg k1
              case measure => have := HK1.out; omega
              case rel => exact ⟨(x5_1), (wrap64 (x6_1 + 1)), (by first | rfl | (simp; done) | (simp [*]; done)), H', ⟨by have := HK1.out; omega⟩, ⟨by (with_reducible repeat (first | apply Kd.R_alloc | apply R_bytes | apply Kd.R_drewN | apply Kd.R_drew)); exact HO_5.out⟩, ⟨by repeat (first | (with_reducible first | exact HB.out | apply below_alloc | apply pw_below_drewN | apply below_drew1 | apply bytes_below1) | exact HB.out)⟩⟩
            · replace c7 := Bool.eq_false_iff.mpr c7
              subst c7
              have H1 : (if x6_1 ≤ (a0.size : Int) then ((dossierref08_word.f k1 (a0.extract (x6_1 : Int).toNat a0.size)).bind fun bt368 => (if bt368.2.2.2.2 = true then (if x5_1.length < 4398046511104 then (dossierref08_Words.l0 k1 a0 (x5_1 ++ [(⟨bt368.1, bt368.2.1, bt368.2.2.1⟩ : S51)]) (wrap64 (x6_1 + bt368.2.2.2.1))) else (none)) else (some (([] : List (S51)), x6_1, 20)))) else (none)) = some (r1, r2, r3) := by rw [if_neg (show ¬ (false = true) by decide)] at H; exact H
              clear H
              have H := H1
              clear H1
              have c8b0 := eq_true (of_decide_eq_true (by first | (with_reducible assumption) | assumption) : 0 ≤ x6_1)
              by_cases c9 : x6_1 ≤ (a0.size : Int)
              · rw [if_pos c9] at H
                have c9b0 := eq_true c9
                have c9b1 : decide (x6_1 ≤ (a0.size : Int)) = true := decide_eq_true c9
                clear c9
                replace H := Option.bind_eq_some_iff.mp H
                obtain ⟨⟨t368, t369, t370, t371, t372⟩, A100, H⟩ := H
                replace H : (if t372 = true then (if x5_1.length < 4398046511104 then (dossierref08_Words.l0 k1 a0 (x5_1 ++ [(⟨t368, t369, t370⟩ : S51)]) (wrap64 (x6_1 + t371))) else (none)) else (some (([] : List (S51)), x6_1, 20))) = some (r1, r2, r3) := H
                have A10 := Aside0.mk A100
                clear A100
                by_cases c11 : t372 = true
                · subst c11
                  have H1 : (if x5_1.length < 4398046511104 then (dossierref08_Words.l0 k1 a0 (x5_1 ++ [(⟨t368, t369, t370⟩ : S51)]) (wrap64 (x6_1 + t371))) else (none)) = some (r1, r2, r3) := by rw [if_pos rfl] at H; exact H
                  clear H
                  have H := H1
                  clear H1
                  by_cases c12 : x5_1.length < 4398046511104
                  · rw [if_pos c12] at H
                    have LMc12 := Aside0.mk c12
                    clear c12
                    obtain ⟨y374, hy374⟩ : ∃ y_ : List (S51), y_ = (x5_1 ++ [(⟨t368, t369, t370⟩ : S51)]) := ⟨_, rfl⟩
                    replace H : (dossierref08_Words.l0 k1 a0 y374 (wrap64 (x6_1 + t371))) = some (r1, r2, r3) := by first | (rw [hy374]; with_reducible exact H) | (have H2_ := (Option.bind_some _ _).symm.trans H; rw [hy374]; with_reducible exact H2_) | (have H2_ := (Option.bind_some _ _).symm.trans H; with_reducible exact H2_) | with_reducible exact H | (rw [hy374]; exact H) | exact H
                    have Ny374 := Aside0.mk hy374
                    clear hy374
                    have H' := Aside0.mk H
                    clear H
                    have p5 : 0 ≤ (x6_1 : Int) := of_decide_eq_true (by first | (with_reducible assumption) | assumption)
                    have q5 : x6_1 < (a0.size : Int) := of_decide_eq_true (by first | (with_reducible assumption) | assumption)
                    have hx5 := bt_at a0 x6_1
                    replace p5 := eq_true p5
                    replace q5 := eq_true q5
                    go_wp2_with (first | ((with_reducible refine gate_callee (f := 33) rfl ?_); refine goesL_ (some 21) rfl rfl Tryd.func33 (by kernel_rfl) rfl #[.int .i64 (wrap64 (bt a0 x6_1))] rfl (by (try simp only [List.map_toArray, List.map_cons, List.map_nil]); first | done | rfl | (simp only [List.length_drop, List.length_take]; rfl)) ?_; (with_reducible refine (dossierref01_Space.calls (wrap64 (bt a0 x6_1)) false _ A6.out).mono ?_); rintro e w' ⟨rfl, ⟨nd, rfl⟩⟩; refine ⟨_, rfl, ?_⟩; (try (rw [drewN_self wr]; generalize hq_ : World.drewN wr _ = wr; have n0_ : Aside0 (Kd.R k51 51 wr w.heap.size (fun _ => True) u5 x5_1) := ⟨by rw [← hq_]; exact (by (with_reducible repeat (first | apply Kd.R_alloc | apply R_bytes | apply Kd.R_drewN | apply Kd.R_drew)); exact HO_5.out)⟩; have n1_ : Aside0 (Below w.heap.size w wr) := ⟨by rw [← hq_]; exact (by repeat (first | (with_reducible first | exact HB.out | apply below_alloc | apply pw_below_drewN | apply below_drew1 | apply bytes_below1) | exact HB.out))⟩; clear HO_5 HB hq_; have HO_5 := n0_; have HB := n1_; clear n0_ n1_))) | ((with_reducible refine gate_callee (f := 34) rfl ?_); refine goesL_ (some 28) rfl rfl Tryd.func34 (by kernel_rfl) rfl #[.string (a0.extract (x6_1 : Int).toNat a0.size)] rfl (by (try simp only [List.map_toArray, List.map_cons, List.map_nil]); first | done | rfl | (simp only [List.length_drop, List.length_take]; rfl)) ?_; (with_reducible refine (dossierref08_word.calls k1 (a0.extract (x6_1 : Int).toNat a0.size) t368 t369 t370 t371 true _ A10.out).mono ?_); rintro e w13 ⟨rfl, hb⟩; refine ⟨_, rfl, ?_⟩; have n0_ := Aside0.mk (Kd.R_below (by (with_reducible repeat (first | apply Kd.R_alloc | apply R_bytes | apply Kd.R_drewN | apply Kd.R_drew)); exact HO_5.out) hb); have n1_ := Aside0.mk (below_step (by repeat (first | (with_reducible first | exact HB.out | apply below_alloc | apply pw_below_drewN | apply below_drew1 | apply bytes_below1) | exact HB.out)) hb); clear HO_5; clear HB; have HO_5 := n0_; have HB := n1_; clear n0_ n1_; (try clear hb); (try clear hb2); (try clear hk); (try clear hi)) | ((with_reducible refine gate_dst (N := 7) rfl ?_); refine box_event ?hg (N := 7) ?hd (cs := #[.int .i64 0, .string (⟨#[]⟩ : ByteArray), .int .i64 0]) (t := 51) ?hr ?_; (case hd => rfl); (case hg => rfl); (case hr => first | (go_simp; done) | (go_simp; rfl)); intro gb373 hg w14 hbox hb; have n0_ := Aside0.mk (Kd.R_below (Kd.R_elderB (by (with_reducible repeat (first | apply Kd.R_alloc | apply R_bytes | apply Kd.R_drewN | apply Kd.R_drew)); exact HO_5.out) gb373 (Nat.le_of_eq hg.symm)) hb); have n1_ := Aside0.mk (below_step (by repeat (first | (with_reducible first | exact HB.out | apply below_alloc | apply pw_below_drewN | apply below_drew1 | apply bytes_below1) | exact HB.out)) hb); have n2_ := Aside0.mk (hbox); have n3_ := Aside0.mk ((by rw [hg]; exact (below_size (by repeat (first | (with_reducible first | exact HB.out | apply below_alloc | apply pw_below_drewN | apply below_drew1 | apply bytes_below1) | exact HB.out))) : w.heap.size ≤ gb373)); have n4_ := Aside0.mk ((by rw [hg]; exact (below_size (by repeat (first | (with_reducible first | exact HB.out | apply below_alloc | apply pw_below_drewN | apply below_drew1 | apply bytes_below1) | exact HB.out))) : w.heap.size ≤ gb373)); clear HO_5; clear HB; have HO_5 := n0_; have HB := n1_; have BK373 := n2_; have GW373 := n3_; have GE373 := n4_; clear n0_ n1_ n2_ n3_ n4_; clear hb hbox hg; have hcz15_0 : w14.cell? ⟨gb373, 0, none⟩ = some (.int .i64 0) := (blk_cell BK373.out 0).trans rfl; have hcz15_1 : w14.cell? ⟨gb373, 1, none⟩ = some (.string (⟨#[]⟩ : ByteArray)) := (blk_cell BK373.out 1).trans rfl; have hcz15_2 : w14.cell? ⟨gb373, 2, none⟩ = some (.int .i64 0) := (blk_cell BK373.out 2).trans rfl; have hfz15_0 := blk_frozen BK373.out 0; have hfz15_1 := blk_frozen BK373.out 1; have hfz15_2 := blk_frozen BK373.out 2) | ((with_reducible refine gate_builtin (b := .append) (xs := #[.tmp 35, .tmp 37]) rfl ?_); at_builtin; refine Kd.R_append k51 (w0 := w) w.heap.size rfl (.tmp 35) (.tmp 37) 38 51 (.agg #[(.int .i64 0), (.string ⟨#[]⟩), (.int .i64 0)]) 32 rfl Tryd.underlying38 info51 rfl (by decide) (by omega) u5 x5_1 (⟨t368, t369, t370⟩ : S51) [.int .i64 t368, .string t369, .int .i64 t370] (fun k_ => k_ ≠ gb373) (fun _ => False) rfl (by first | (go_simp; done) | (go_simp; rfl)) ?aP (fun _ hk => hk.elim) ?aF ?aO ?aB ?aS ?aL ?_; (case aP => exact k51_mkM _ _ _ (⟨t368, t369, t370⟩ : S51)); (case aB => exact (by repeat (first | (with_reducible first | exact HB.out | apply below_alloc | apply pw_below_drewN | apply below_drew1 | apply bytes_below1 | refine below_set ?_ GE373.out) | exact HB.out))); (case aF => exact (fun k_ hk => Kd.freshB (g := gb373) (o := .cells #[.int .i64 t368, .string t369, .int .i64 t370] 51 (0, 0)) (by (with_reducible repeat (first | refine blk_bytes ?_ _ _ | refine blk_drewN ?_ _ | refine blk_drew ?_ | refine blk_alloc ?_ _)); refine blk_put (cs := #[.int .i64 t368, .string t369, .int .i64 0]) ?_ 2 _ rfl; (with_reducible repeat (first | refine blk_bytes ?_ _ _ | refine blk_drewN ?_ _ | refine blk_drew ?_ | refine blk_alloc ?_ _)); refine blk_put (cs := #[.int .i64 t368, .string (⟨#[]⟩ : ByteArray), .int .i64 0]) ?_ 1 _ rfl; (with_reducible repeat (first | refine blk_bytes ?_ _ _ | refine blk_drewN ?_ _ | refine blk_drew ?_ | refine blk_alloc ?_ _)); refine blk_put (cs := #[.int .i64 0, .string (⟨#[]⟩ : ByteArray), .int .i64 0]) ?_ 0 _ rfl; (with_reducible repeat (first | refine blk_bytes ?_ _ _ | refine blk_drewN ?_ _ | refine blk_drew ?_ | refine blk_alloc ?_ _)); exact BK373.out) k_ hk)); (case aO => exact (by (with_reducible repeat (first | apply Kd.R_alloc | apply R_bytes | apply Kd.R_drewN | apply Kd.R_drew)); exact Kd.R_mono (Kd.R_far (p := ⟨gb373, 2, none⟩) (Kd.R_far (p := ⟨gb373, 1, none⟩) (Kd.R_far (p := ⟨gb373, 0, none⟩) (Kd.R_mono HO_5.out (fun k_ hk => (⟨hk, hk.2⟩ : _ ∧ k_ ≠ gb373))) (fun _ hk => hk.2) (.int .i64 t368)) (fun _ hk => hk.2) (.string t369)) (fun _ hk => hk.2) (.int .i64 t370)) (fun _ hk => hk.1.2))); (case aS => exact (below_size (by repeat (first | (with_reducible first | exact HB.out | apply below_alloc | apply pw_below_drewN | apply below_drew1 | apply bytes_below1 | refine below_set ?_ GE373.out) | exact HB.out)))); (case aL => have := LMc12.out; omega); intro v375 w16 ho hb hg hat; rw [← Ny374.out] at ho; have n0_ := Aside0.mk (blk_grown (g := gb373) (o := .cells #[.int .i64 t368, .string t369, .int .i64 t370] 51 (0, 0)) (by (with_reducible repeat (first | refine blk_bytes ?_ _ _ | refine blk_drewN ?_ _ | refine blk_drew ?_ | refine blk_alloc ?_ _)); refine blk_put (cs := #[.int .i64 t368, .string t369, .int .i64 0]) ?_ 2 _ rfl; (with_reducible repeat (first | refine blk_bytes ?_ _ _ | refine blk_drewN ?_ _ | refine blk_drew ?_ | refine blk_alloc ?_ _)); refine blk_put (cs := #[.int .i64 t368, .string (⟨#[]⟩ : ByteArray), .int .i64 0]) ?_ 1 _ rfl; (with_reducible repeat (first | refine blk_bytes ?_ _ _ | refine blk_drewN ?_ _ | refine blk_drew ?_ | refine blk_alloc ?_ _)); refine blk_put (cs := #[.int .i64 0, .string (⟨#[]⟩ : ByteArray), .int .i64 0]) ?_ 0 _ rfl; (with_reducible repeat (first | refine blk_bytes ?_ _ _ | refine blk_drewN ?_ _ | refine blk_drew ?_ | refine blk_alloc ?_ _)); exact BK373.out) hg (Kd.R_away HO_5.out (fun _ hk => hk.2))); have n1_ := Aside0.mk (hb); have n2_ := Aside0.mk (ho); clear BK373; clear HB; clear HO_5; have BK373 := n0_; have HB := n1_; have HO376 := n2_; clear n0_ n1_ n2_; clear ho hb hg hat))
                    go_roundg k1
                    case measure => have := HK1.out; omega
                    case rel => exact ⟨(y374), (wrap64 (x6_1 + t371)), (by first | rfl | (simp; done) | (simp [*]; done)), H', ⟨by have := HK1.out; omega⟩, ⟨by (with_reducible repeat (first | apply Kd.R_alloc | apply R_bytes | apply Kd.R_drewN | apply Kd.R_drew)); exact Kd.R_mono HO376.out (fun _ hk => trivial)⟩, ⟨by repeat (first | (with_reducible first | exact HB.out | apply below_alloc | apply pw_below_drewN | apply below_drew1 | apply bytes_below1 | refine below_set ?_ GE373.out) | exact HB.out)⟩⟩
                  · rw [if_neg c12] at H
                    exact absurd H (by simp)
                · replace c11 := Bool.eq_false_iff.mpr c11
                  subst c11
                  have H1 : (some (([] : List (S51)), x6_1, 20)) = some (r1, r2, r3) := by rw [if_neg (show ¬ (false = true) by decide)] at H; exact H
                  clear H
                  have H := H1
                  clear H1
                  simp only [Option.some.injEq, Prod.mk.injEq] at H
                  obtain ⟨rfl, rfl, rfl⟩ := H
                  have p5 : 0 ≤ (x6_1 : Int) := of_decide_eq_true (by first | (with_reducible assumption) | assumption)
                  have q5 : x6_1 < (a0.size : Int) := of_decide_eq_true (by first | (with_reducible assumption) | assumption)
                  have hx5 := bt_at a0 x6_1
                  replace p5 := eq_true p5
                  replace q5 := eq_true q5
                  go_wp2_with (first | ((with_reducible refine gate_callee (f := 33) rfl ?_); refine goesL_ (some 21) rfl rfl Tryd.func33 (by kernel_rfl) rfl #[.int .i64 (wrap64 (bt a0 x6_1))] rfl (by (try simp only [List.map_toArray, List.map_cons, List.map_nil]); first | done | rfl | (simp only [List.length_drop, List.length_take]; rfl)) ?_; (with_reducible refine (dossierref01_Space.calls (wrap64 (bt a0 x6_1)) false _ A6.out).mono ?_); rintro e w' ⟨rfl, ⟨nd, rfl⟩⟩; refine ⟨_, rfl, ?_⟩; (try (rw [drewN_self wr]; generalize hq_ : World.drewN wr _ = wr; have n0_ : Aside0 (Kd.R k51 51 wr w.heap.size (fun _ => True) u5 x5_1) := ⟨by rw [← hq_]; exact (by (with_reducible repeat (first | apply Kd.R_alloc | apply R_bytes | apply Kd.R_drewN | apply Kd.R_drew)); exact HO_5.out)⟩; have n1_ : Aside0 (Below w.heap.size w wr) := ⟨by rw [← hq_]; exact (by repeat (first | (with_reducible first | exact HB.out | apply below_alloc | apply pw_below_drewN | apply below_drew1 | apply bytes_below1) | exact HB.out))⟩; clear HO_5 HB hq_; have HO_5 := n0_; have HB := n1_; clear n0_ n1_))) | ((with_reducible refine gate_callee (f := 34) rfl ?_); refine goesL_ (some 28) rfl rfl Tryd.func34 (by kernel_rfl) rfl #[.string (a0.extract (x6_1 : Int).toNat a0.size)] rfl (by (try simp only [List.map_toArray, List.map_cons, List.map_nil]); first | done | rfl | (simp only [List.length_drop, List.length_take]; rfl)) ?_; (with_reducible refine (dossierref08_word.calls k1 (a0.extract (x6_1 : Int).toNat a0.size) t368 t369 t370 t371 false _ A10.out).mono ?_); rintro e w17 ⟨rfl, hb⟩; refine ⟨_, rfl, ?_⟩; have n0_ := Aside0.mk (Kd.R_below (by (with_reducible repeat (first | apply Kd.R_alloc | apply R_bytes | apply Kd.R_drewN | apply Kd.R_drew)); exact HO_5.out) hb); have n1_ := Aside0.mk (below_step (by repeat (first | (with_reducible first | exact HB.out | apply below_alloc | apply pw_below_drewN | apply below_drew1 | apply bytes_below1) | exact HB.out)) hb); clear HO_5; clear HB; have HO_5 := n0_; have HB := n1_; clear n0_ n1_; (try clear hb); (try clear hb2); (try clear hk); (try clear hi)) | ((with_reducible refine gate_dst (N := 7) rfl ?_); refine box_event ?hg (N := 7) ?hd (cs := #[.int .i64 0, .string (⟨#[]⟩ : ByteArray), .int .i64 0]) (t := 51) ?hr ?_; (case hd => rfl); (case hg => rfl); (case hr => first | (go_simp; done) | (go_simp; rfl)); intro gb373 hg w18 hbox hb; have n0_ := Aside0.mk (Kd.R_below (Kd.R_elderB (by (with_reducible repeat (first | apply Kd.R_alloc | apply R_bytes | apply Kd.R_drewN | apply Kd.R_drew)); exact HO_5.out) gb373 (Nat.le_of_eq hg.symm)) hb); have n1_ := Aside0.mk (below_step (by repeat (first | (with_reducible first | exact HB.out | apply below_alloc | apply pw_below_drewN | apply below_drew1 | apply bytes_below1) | exact HB.out)) hb); have n2_ := Aside0.mk (hbox); have n3_ := Aside0.mk ((by rw [hg]; exact (below_size (by repeat (first | (with_reducible first | exact HB.out | apply below_alloc | apply pw_below_drewN | apply below_drew1 | apply bytes_below1) | exact HB.out))) : w.heap.size ≤ gb373)); have n4_ := Aside0.mk ((by rw [hg]; exact (below_size (by repeat (first | (with_reducible first | exact HB.out | apply below_alloc | apply pw_below_drewN | apply below_drew1 | apply bytes_below1) | exact HB.out))) : w.heap.size ≤ gb373)); clear HO_5; clear HB; have HO_5 := n0_; have HB := n1_; have BK373 := n2_; have GW373 := n3_; have GE373 := n4_; clear n0_ n1_ n2_ n3_ n4_; clear hb hbox hg; have hcz19_0 : w18.cell? ⟨gb373, 0, none⟩ = some (.int .i64 0) := (blk_cell BK373.out 0).trans rfl; have hcz19_1 : w18.cell? ⟨gb373, 1, none⟩ = some (.string (⟨#[]⟩ : ByteArray)) := (blk_cell BK373.out 1).trans rfl; have hcz19_2 : w18.cell? ⟨gb373, 2, none⟩ = some (.int .i64 0) := (blk_cell BK373.out 2).trans rfl; have hfz19_0 := blk_frozen BK373.out 0; have hfz19_1 := blk_frozen BK373.out 1; have hfz19_2 := blk_frozen BK373.out 2))
                  go_ret3
                  exact ⟨_, by first | rfl | (simp [errW_none, errW_some] <;> rfl) | (simp [*, errW_none, errW_some] <;> rfl), by first | exact Kd.R_nil _ _ _ _ _ | exact Kd.N_nil _ _ _ _ _ | exact Kd.V_nil _ _ _ _ _ | exact Kd.Q_nil _ _ _ _ _ | exact Kd.S_nil _ _ _ _ _, by repeat (first | (with_reducible first | exact HB.out | apply below_alloc | apply pw_below_drewN | apply below_drew1 | apply bytes_below1 | refine below_set ?_ GE373.out) | exact HB.out)⟩
              · rw [if_neg c9] at H
                exact absurd H (by simp)
          · rw [if_neg c4] at H
            exact absurd H (by simp)
        · rw [if_neg c3] at H
          have c3b0 : decide (x6_1 < (a0.size : Int)) = false := decide_eq_false c3
          clear c3
          by_cases c20 : x5_1.length < 4398046511104
          · rw [if_pos c20] at H
            have LMc20 := Aside0.mk c20
            clear c20
            obtain ⟨y364, hy364⟩ : ∃ y_ : List (S51), y_ = (x5_1 ++ [(⟨0, (⟨#[]⟩ : ByteArray), 0⟩ : S51)]) := ⟨_, rfl⟩
            replace H : (some (y364, 0, 0)) = some (r1, r2, r3) := by first | (rw [hy364]; with_reducible exact H) | (have H2_ := (Option.bind_some _ _).symm.trans H; rw [hy364]; with_reducible exact H2_) | (have H2_ := (Option.bind_some _ _).symm.trans H; with_reducible exact H2_) | with_reducible exact H | (rw [hy364]; exact H) | exact H
            have Ny364 := Aside0.mk hy364
            clear hy364
            simp only [Option.some.injEq, Prod.mk.injEq] at H
            obtain ⟨rfl, rfl, rfl⟩ := H
            go_wp2_with (first | ((with_reducible refine gate_builtin (b := .append) (xs := #[.tmp 42, .tmp 44]) rfl ?_); at_builtin; refine Kd.R_append k51 (w0 := w) w.heap.size rfl (.tmp 42) (.tmp 44) 38 51 (.agg #[(.int .i64 0), (.string ⟨#[]⟩), (.int .i64 0)]) 32 rfl Tryd.underlying38 info51 rfl (by decide) (by omega) u5 x5_1 (⟨0, (⟨#[]⟩ : ByteArray), 0⟩ : S51) [.int .i64 0, .string (⟨#[]⟩ : ByteArray), .int .i64 0] (fun _ => True) (fun _ => False) rfl rfl ?aP (fun _ hk => hk.elim) ?aF ?aO ?aB ?aS ?aL ?_; (case aP => exact k51_mkM _ _ _ (⟨0, (⟨#[]⟩ : ByteArray), 0⟩ : S51)); (case aB => exact (by repeat (first | (with_reducible first | exact HB.out | apply below_alloc | apply pw_below_drewN | apply below_drew1 | apply bytes_below1) | exact HB.out))); (case aF => exact (fun _ _ => trivial)); (case aO => exact (by (with_reducible repeat (first | apply Kd.R_alloc | apply R_bytes | apply Kd.R_drewN | apply Kd.R_drew)); exact HO_5.out)); (case aS => exact (below_size (by repeat (first | (with_reducible first | exact HB.out | apply below_alloc | apply pw_below_drewN | apply below_drew1 | apply bytes_below1) | exact HB.out)))); (case aL => have := LMc20.out; omega); intro v365 w21 ho hb hg hat; rw [← Ny364.out] at ho; have n0_ := Aside0.mk (hb); have n1_ := Aside0.mk (ho); clear HB; clear HO_5; have HB := n0_; have HO366 := n1_; clear n0_ n1_; clear ho hb hg hat))
            go_ret3
            exact ⟨_, by first | rfl | (simp [errW_none, errW_some] <;> rfl) | (simp [*, errW_none, errW_some] <;> rfl), by (with_reducible repeat (first | apply Kd.R_alloc | apply R_bytes | apply Kd.R_drewN | apply Kd.R_drew)); exact HO366.out, by repeat (first | (with_reducible first | exact HB.out | apply below_alloc | apply pw_below_drewN | apply below_drew1 | apply bytes_below1) | exact HB.out)⟩
          · rw [if_neg c20] at H
            exact absurd H (by simp)

end Go.Proofs.YtifgpigicgaadaaDoor.Q
end
section
-- Made by this session's own program (p2) out of the translation. Lean checks it.
namespace Go.Proofs.YtifgpigicgaadaaDoor.Q
open Go.RowKit Go.Proofs.YtifgpigicgaadaaDoorH Go.Proofs.YtifgpigicgaadaaDoorW.PrintWords Go.Proofs.YtifgpigicgaadaaDoorW.PrintLast Go.Proofs.YtifgpigicgaadaaDoorW.PrintMore
attribute [local go_sem] max2_int min2_int max_two min_two max_three min_three max_four min_four   -- for this text's walks alone
set_option linter.unusedVariables false
set_option linter.unusedSimpArgs false

theorem eqA51 (d : Nat) (w : World) (x0 y0 : Int) (x1 y1 : ByteArray) (x2 y2 : Int) :
    (Op.equalIn (d + 2) 51 (.agg #[.int .i64 x0, .string x1, .int .i64 x2]) (.agg #[.int .i64 y0, .string y1, .int .i64 y2])).run Tryd.prog w = .ok (x0 == y0 && (x1.toList == y1.toList && (x2 == y2))) w := by
  refine eqA_of Tryd.underlying51 (by kernel_rfl) ?_
  refine eqf_cons (by rfl) (by go_simp; rfl) (by go_simp; rfl) (by go_simp) ?_
  refine eqf_cons (by rfl) (by go_simp; rfl) (by go_simp; rfl) (by go_simp) ?_
  exact eqf_last (by rfl) (by go_simp; rfl) (by go_simp; rfl) (by go_simp)
end Go.Proofs.YtifgpigicgaadaaDoor.Q
end
section
-- Made by this session's own program (p2) out of the translation. Lean checks it.
namespace Go.Proofs.YtifgpigicgaadaaDoor.Q
open Go.RowKit Go.Proofs.YtifgpigicgaadaaDoorH Go.Proofs.YtifgpigicgaadaaDoorW.PrintWords Go.Proofs.YtifgpigicgaadaaDoorW.PrintLast Go.Proofs.YtifgpigicgaadaaDoorW.PrintMore
attribute [local go_sem] max2_int min2_int max_two min_two max_three min_three max_four min_four   -- for this text's walks alone
set_option linter.unusedVariables false
set_option linter.unusedSimpArgs false

attribute [local go_sem high] eqA51
/-! ### dossierref08_Same: function 18 -/
def dossierref08_Same.l0 : Nat → List (S51) → List (S51) → Int → Int → Option (Bool)
  | 0, _, _, _, _ => none
  | k + 1, x0, x1, x12, x13 => if x13 < x12 then (if 0 ≤ x13 then (if x13 < (x0.length : Int) then (if x13 < (x1.length : Int) then (if (!(((rd_T51 x0 x13).f0) == ((rd_T51 x1 x13).f0)) || (!((((rd_T51 x0 x13).f1).toList) == (((rd_T51 x1 x13).f1).toList)) || (!(((rd_T51 x0 x13).f2) == ((rd_T51 x1 x13).f2))))) = true then (some false) else (dossierref08_Same.l0 k x0 x1 x12 (wrap64 (x13 + 1)))) else (none)) else (none)) else (none)) else (some true)
def dossierref08_Same.f (k : Nat) (l0 : List (S51)) (l1 : List (S51)) : Option (Bool) := if (l0.length : Int) = (l1.length : Int) then (dossierref08_Same.l0 k l0 l1 (l0.length : Int) 0) else (some false)
set_option maxHeartbeats 8000000 in
set_option maxRecDepth 100000 in
theorem dossierref08_Same.calls (k : Nat) (A0 : Option Addr) (c0 : Nat) (l0 : List (S51)) (A1 : Option Addr) (c1 : Nat) (l1 : List (S51)) (r : Bool) (w : World) (hr0 : Kd.C k51 w A0 l0.length l0) (hc0 : l0.length ≤ c0) (hr1 : Kd.C k51 w A1 l1.length l1) (hc1 : l1.length ≤ c1) (h : dossierref08_Same.f k l0 l1 = some r) :
    Calls Tryd.prog 18 #[.slice A0 l0.length c0, .slice A1 l1.length c1] w fun e w' => e = .returned (.bool r) ∧ Drawn0 w w' := by
  have hu51 := Tryd.underlying51
  have HR0 := Aside0.mk hr0
  have HC0 := Aside0.mk hc0
  clear hr0 hc0
  have HR1 := Aside0.mk hr1
  have HC1 := Aside0.mk hc1
  clear hr1 hc1
  have H : (if (l0.length : Int) = (l1.length : Int) then (dossierref08_Same.l0 k l0 l1 (l0.length : Int) 0) else (some false)) = some r := h
  clear h
  by_cases c3 : (l0.length : Int) = (l1.length : Int)
  · rw [if_pos c3] at H
    have c3b0 : ((l0.length : Int) == (l1.length : Int)) = true := beq_iff_eq.mpr c3
    have c3b1 : ((l0.length : Int) != (l1.length : Int)) = false := bne_eq_false_iff_eq.mpr c3
    have c3b2 : (l0.length == l1.length) = true := by first | simpa using c3 | (simp at c3 ⊢; omega)
    clear c3
    have H' := Aside0.mk H
    clear H
    go_enter Tryd.func18, Tryd.ntmps18
    go_wp2
    repeat (go_quiet (fail); try go_wp2)
    go_loopg [13] k (fun kq v13 w' => ∃ (x13_1 : Int), v13 = .int .i64 x13_1 ∧ Aside0 (dossierref08_Same.l0 kq l0 l1 (l0.length : Int) x13_1 = some r) ∧ Aside0 (kq ≤ k) ∧ Drawn0 w w')
    case atStart => exact ⟨(0), (by first | rfl | (simp; done) | (simp [*]; done)), H', ⟨Nat.le_refl _⟩, by repeat (first | exact Drawn0.refl _ | apply Drawn0.step)⟩
    case round =>
      clear H'
      try clear c1
      try clear p2
      try clear c3
      try clear c3b0
      try clear c3b1
      try clear c3b2
      obtain ⟨x13_1, rfl, HA, HK1, ⟨m1, rfl⟩⟩ := hrel
      cases gk with
      | zero => exact absurd HA.out (by simp [dossierref08_Same.l0])
      | succ k1 =>
        have H := HA.out
        clear HA
        simp only [dossierref08_Same.l0] at H
        by_cases c4 : x13_1 < (l0.length : Int)
        · rw [if_pos c4] at H
          have c4b0 : decide (x13_1 < (l0.length : Int)) = true := decide_eq_true c4
          clear c4
          by_cases c5 : 0 ≤ x13_1
          · rw [if_pos c5] at H
            have c5b0 : decide (0 ≤ x13_1) = true := decide_eq_true c5
            clear c5
            by_cases c6 : x13_1 < (l0.length : Int)
            · rw [if_pos c6] at H
              have c6b0 : decide (x13_1 < (l0.length : Int)) = true := decide_eq_true c6
              clear c6
              by_cases c7 : x13_1 < (l1.length : Int)
              · rw [if_pos c7] at H
                have c7b0 : decide (x13_1 < (l1.length : Int)) = true := decide_eq_true c7
                clear c7
                by_cases c8 : (!(((rd_T51 l0 x13_1).f0) == ((rd_T51 l1 x13_1).f0)) || (!((((rd_T51 l0 x13_1).f1).toList) == (((rd_T51 l1 x13_1).f1).toList)) || (!(((rd_T51 l0 x13_1).f2) == ((rd_T51 l1 x13_1).f2))))) = true
                · rw [if_pos c8] at H
                  have c8b0 : (!(((rd_T51 l0 x13_1).f0) == ((rd_T51 l1 x13_1).f0)) || (!((((rd_T51 l0 x13_1).f1).toList) == (((rd_T51 l1 x13_1).f1).toList)) || (!(((rd_T51 l0 x13_1).f2) == ((rd_T51 l1 x13_1).f2))))) = true := c8
                  clear c8
                  obtain rfl := Option.some.inj H
                  have p377 : 0 ≤ (x13_1 : Int) := of_decide_eq_true (by first | (with_reducible assumption) | assumption)
                  have q377 : x13_1 < (l0.length : Int) := of_decide_eq_true (by first | (with_reducible assumption) | assumption)
                  obtain ⟨ad377, e377, hx377_0, hx377_1, hx377_2⟩ := at_T51 HR0.out x13_1 p377 q377
                  cases e377
                  replace p377 := eq_true p377
                  replace q377 := eq_true q377
                  have p378 : 0 ≤ (x13_1 : Int) := of_decide_eq_true (by first | (with_reducible assumption) | assumption)
                  have q378 : x13_1 < (l1.length : Int) := of_decide_eq_true (by first | (with_reducible assumption) | assumption)
                  obtain ⟨ad378, e378, hx378_0, hx378_1, hx378_2⟩ := at_T51 HR1.out x13_1 p378 q378
                  cases e378
                  replace p378 := eq_true p378
                  replace q378 := eq_true q378
                  go_wp2
                  repeat (go_quiet (fail); try go_wp2)
                  go_ret
                  exact ⟨by first | rfl | (simp; done) | (simp [*]; done), by repeat (first | exact Drawn0.refl _ | apply Drawn0.step)⟩
                · rw [if_neg c8] at H
                  have c8b0 : (!(((rd_T51 l0 x13_1).f0) == ((rd_T51 l1 x13_1).f0)) || (!((((rd_T51 l0 x13_1).f1).toList) == (((rd_T51 l1 x13_1).f1).toList)) || (!(((rd_T51 l0 x13_1).f2) == ((rd_T51 l1 x13_1).f2))))) = false := by simpa using c8
                  clear c8
                  have H' := Aside0.mk H
                  clear H
                  have p377 : 0 ≤ (x13_1 : Int) := of_decide_eq_true (by first | (with_reducible assumption) | assumption)
                  have q377 : x13_1 < (l0.length : Int) := of_decide_eq_true (by first | (with_reducible assumption) | assumption)
                  obtain ⟨ad377, e377, hx377_0, hx377_1, hx377_2⟩ := at_T51 HR0.out x13_1 p377 q377
                  cases e377
                  replace p377 := eq_true p377
                  replace q377 := eq_true q377
                  have p378 : 0 ≤ (x13_1 : Int) := of_decide_eq_true (by first | (with_reducible assumption) | assumption)
                  have q378 : x13_1 < (l1.length : Int) := of_decide_eq_true (by first | (with_reducible assumption) | assumption)
                  obtain ⟨ad378, e378, hx378_0, hx378_1, hx378_2⟩ := at_T51 HR1.out x13_1 p378 q378
                  cases e378
                  replace p378 := eq_true p378
                  replace q378 := eq_true q378
                  go_wp2
                  repeat (go_quiet (fail); try go_wp2)
                  go_roundg k1
                  case measure => have := HK1.out; omega
                  case rel => exact ⟨(wrap64 (x13_1 + 1)), (by first | rfl | (simp; done) | (simp [*]; done)), H', ⟨by have := HK1.out; omega⟩, by repeat (first | exact Drawn0.refl _ | apply Drawn0.step)⟩
              · rw [if_neg c7] at H
                exact absurd H (by simp)
            · rw [if_neg c6] at H
              exact absurd H (by simp)
          · rw [if_neg c5] at H
            exact absurd H (by simp)
        · rw [if_neg c4] at H
          have c4b0 : decide (x13_1 < (l0.length : Int)) = false := decide_eq_false c4
          clear c4
          obtain rfl := Option.some.inj H
          go_wp2
          repeat (go_quiet (fail); try go_wp2)
          go_ret
          exact ⟨by first | rfl | (simp; done) | (simp [*]; done), by repeat (first | exact Drawn0.refl _ | apply Drawn0.step)⟩
  · rw [if_neg c3] at H
    have c3b0 : ((l0.length : Int) == (l1.length : Int)) = false := beq_eq_false_iff_ne.mpr c3
    have c3b1 : ((l0.length : Int) != (l1.length : Int)) = true := bne_iff_ne.mpr c3
    have c3b2 : (l0.length == l1.length) = false := by first | simpa using c3 | (simp at c3 ⊢; omega)
    obtain rfl := Option.some.inj H
    go_enter Tryd.func18, Tryd.ntmps18
    go_wp2
    repeat (go_quiet (fail); try go_wp2)
    go_ret
    exact ⟨by first | rfl | (simp; done) | (simp [*]; done), by repeat (first | exact Drawn0.refl _ | apply Drawn0.step)⟩

end Go.Proofs.YtifgpigicgaadaaDoor.Q
end
section
-- Made by this session's own program (p2) out of the translation. Lean checks it.
namespace Go.Proofs.YtifgpigicgaadaaDoor.Q
open Go.RowKit Go.Proofs.YtifgpigicgaadaaDoorH Go.Proofs.YtifgpigicgaadaaDoorW.PrintWords Go.Proofs.YtifgpigicgaadaaDoorW.PrintLast Go.Proofs.YtifgpigicgaadaaDoorW.PrintMore
attribute [local go_sem] max2_int min2_int max_two min_two max_three min_three max_four min_four   -- for this text's walks alone
set_option linter.unusedVariables false
set_option linter.unusedSimpArgs false

/-! ### dossierlaw08_awake: function 19 -/
def dossierlaw08_awake.f (k : Nat)  : Option (Bool) := (lexer_Words.f k (⟨#[97, 60, 61, 49]⟩ : ByteArray)).bind fun bt379 => (if bt379.2.2 = 0 then (if (bt379.1.length : Int) = 4 then (if 1 < (bt379.1.length : Int) then (some (((rd_T51 bt379.1 1).f1).toList == ([60, 61] : List UInt8))) else (none)) else (some false)) else (some false))
theorem dossierlaw08_awake.mono : ∀ k, LeO (dossierlaw08_awake.f k ) (dossierlaw08_awake.f (k + 1) ) := by
  intro  k
  unfold dossierlaw08_awake.f
  repeat' first
      | (with_reducible exact lexer_Words.mono _ _)
      | (with_reducible exact LeO.refl _)
      | (with_reducible exact LeO.none _)
      | (with_reducible refine LeO.ite ?_ ?_)
      | (with_reducible refine LeO.bind ?_ (fun _ => ?_))
      | exact lexer_Words.mono _ _
      | exact LeO.none _
      | refine LeO.ite ?_ ?_
      | refine LeO.bind ?_ (fun _ => ?_)
set_option maxHeartbeats 8000000 in
set_option maxRecDepth 100000 in
theorem dossierlaw08_awake.calls (k : Nat)  (r : Bool) (w : World) (hL_ : Laid w) (h : dossierlaw08_awake.f k  = some r) :
    Calls Tryd.prog 19 #[] w fun e w' => e = .returned (.bool r) ∧ Below w.heap.size w w' := by
  have HB := Aside0.mk (Below.refl w.heap.size w)
  have HLd := Aside0.mk hL_
  clear hL_
  have H : ((lexer_Words.f k (⟨#[97, 60, 61, 49]⟩ : ByteArray)).bind fun bt379 => (if bt379.2.2 = 0 then (if (bt379.1.length : Int) = 4 then (if 1 < (bt379.1.length : Int) then (some (((rd_T51 bt379.1 1).f1).toList == ([60, 61] : List UInt8))) else (none)) else (some false)) else (some false))) = some r := h
  clear h
  replace H := Option.bind_eq_some_iff.mp H
  obtain ⟨⟨t379, t380, t381⟩, A10, H⟩ := H
  replace H : (if t381 = 0 then (if (t379.length : Int) = 4 then (if 1 < (t379.length : Int) then (some (((rd_T51 t379 1).f1).toList == ([60, 61] : List UInt8))) else (none)) else (some false)) else (some false)) = some r := H
  have A1 := Aside0.mk A10
  clear A10
  by_cases c2 : t381 = 0
  · rw [if_pos c2] at H
    have c2b0 : (t381 == 0) = true := beq_iff_eq.mpr c2
    have c2b1 : (t381 != 0) = false := bne_eq_false_iff_eq.mpr c2
    clear c2
    by_cases c3 : (t379.length : Int) = 4
    · rw [if_pos c3] at H
      have c3b0 : ((t379.length : Int) == 4) = true := beq_iff_eq.mpr c3
      have c3b1 : ((t379.length : Int) != 4) = false := bne_eq_false_iff_eq.mpr c3
      clear c3
      by_cases c4 : 1 < (t379.length : Int)
      · rw [if_pos c4] at H
        have c4b0 : decide (1 < (t379.length : Int)) = true := decide_eq_true c4
        have c4b1 : decide (1 < t379.length) = true := decide_eq_true (by omega)
        clear c4
        obtain rfl := Option.some.inj H
        go_enter Tryd.func19, Tryd.ntmps19
        go_wp2_with (first | ((with_reducible refine gate_callee (f := 16) rfl ?_); refine goesL_ (some 5) rfl rfl Tryd.func16 (by kernel_rfl) rfl #[.string (⟨#[97, 60, 61, 49]⟩ : ByteArray)] rfl (by (try simp only [List.map_toArray, List.map_cons, List.map_nil]); first | done | rfl | (simp only [List.length_drop, List.length_take]; rfl)) ?_; (with_reducible refine (lexer_Words.calls k (⟨#[97, 60, 61, 49]⟩ : ByteArray) t379 t380 t381 _ ?side1 A1.out).mono ?_); (case side1 => exact Laid_below HLd.out (by repeat (first | (with_reducible first | exact HB.out | apply below_alloc | apply pw_below_drewN | apply below_drew1 | apply bytes_below1) | exact HB.out))); rintro e w5 ⟨v382, rfl, ho0, hb⟩; refine ⟨_, rfl, ?_⟩; have n0_ := Aside0.mk (Kd.R_lower ho0 (below_size (by repeat (first | (with_reducible first | exact HB.out | apply below_alloc | apply pw_below_drewN | apply below_drew1 | apply bytes_below1) | exact HB.out)))); have n1_ := Aside0.mk (below_step (by repeat (first | (with_reducible first | exact HB.out | apply below_alloc | apply pw_below_drewN | apply below_drew1 | apply bytes_below1) | exact HB.out)) hb); clear HB; have HO383 := n0_; have HB := n1_; clear n0_ n1_; (try clear hb); (try clear hb2); (try clear hk); (try clear hi); (try clear ho0); obtain ⟨Ao6, co6, eo6⟩ := Kd.R_slice HO383.out; subst eo6; have p384 : 0 ≤ (1 : Int) := (by omega); have q384 : 1 < (t379.length : Int) := of_decide_eq_true (by first | (with_reducible assumption) | assumption); obtain ⟨ad384, e384, hx384_0, hx384_1, hx384_2⟩ := at_T51 (Kd.R_reads' HO383.out).2.2 1 p384 q384; cases e384; (try simp only [show (1 : Int).toNat = 1 from rfl, Nat.reduceMul, Nat.reduceEqDiff, Go.Addr.add, ↓reduceIte] at hx384_0); (try simp only [show (1 : Int).toNat = 1 from rfl, Nat.reduceMul, Nat.reduceEqDiff, Go.Addr.add, ↓reduceIte] at hx384_1); (try simp only [show (1 : Int).toNat = 1 from rfl, Nat.reduceMul, Nat.reduceEqDiff, Go.Addr.add, ↓reduceIte] at hx384_2); have qi384 : (1 < t379.length) = True := eq_true (by omega); (try rw [show ((1 : Int)).toNat = 1 from rfl] at hx384_0); (try rw [show 1 * 3 = 3 from rfl] at hx384_0); (try rw [show ((1 : Int)).toNat = 1 from rfl] at hx384_1); (try rw [show 1 * 3 = 3 from rfl] at hx384_1); (try rw [show ((1 : Int)).toNat = 1 from rfl] at hx384_2); (try rw [show 1 * 3 = 3 from rfl] at hx384_2); replace p384 := eq_true p384; replace q384 := eq_true q384))
        go_ret
        exact ⟨by first | rfl | (simp [errW_none, errW_some] <;> rfl) | (simp [*, errW_none, errW_some] <;> rfl), by repeat (first | (with_reducible first | exact HB.out | apply below_alloc | apply pw_below_drewN | apply below_drew1 | apply bytes_below1) | exact HB.out)⟩
      · rw [if_neg c4] at H
        exact absurd H (by simp)
    · rw [if_neg c3] at H
      have c3b0 : ((t379.length : Int) == 4) = false := beq_eq_false_iff_ne.mpr c3
      have c3b1 : ((t379.length : Int) != 4) = true := bne_iff_ne.mpr c3
      obtain rfl := Option.some.inj H
      go_enter Tryd.func19, Tryd.ntmps19
      go_wp2_with (first | ((with_reducible refine gate_callee (f := 16) rfl ?_); refine goesL_ (some 5) rfl rfl Tryd.func16 (by kernel_rfl) rfl #[.string (⟨#[97, 60, 61, 49]⟩ : ByteArray)] rfl (by (try simp only [List.map_toArray, List.map_cons, List.map_nil]); first | done | rfl | (simp only [List.length_drop, List.length_take]; rfl)) ?_; (with_reducible refine (lexer_Words.calls k (⟨#[97, 60, 61, 49]⟩ : ByteArray) t379 t380 t381 _ ?side1 A1.out).mono ?_); (case side1 => exact Laid_below HLd.out (by repeat (first | (with_reducible first | exact HB.out | apply below_alloc | apply pw_below_drewN | apply below_drew1 | apply bytes_below1) | exact HB.out))); rintro e w7 ⟨v382, rfl, ho0, hb⟩; refine ⟨_, rfl, ?_⟩; have n0_ := Aside0.mk (Kd.R_lower ho0 (below_size (by repeat (first | (with_reducible first | exact HB.out | apply below_alloc | apply pw_below_drewN | apply below_drew1 | apply bytes_below1) | exact HB.out)))); have n1_ := Aside0.mk (below_step (by repeat (first | (with_reducible first | exact HB.out | apply below_alloc | apply pw_below_drewN | apply below_drew1 | apply bytes_below1) | exact HB.out)) hb); clear HB; have HO383 := n0_; have HB := n1_; clear n0_ n1_; (try clear hb); (try clear hb2); (try clear hk); (try clear hi); (try clear ho0); obtain ⟨Ao8, co8, eo8⟩ := Kd.R_slice HO383.out; subst eo8))
      go_ret
      exact ⟨by first | rfl | (simp [errW_none, errW_some] <;> rfl) | (simp [*, errW_none, errW_some] <;> rfl), by repeat (first | (with_reducible first | exact HB.out | apply below_alloc | apply pw_below_drewN | apply below_drew1 | apply bytes_below1) | exact HB.out)⟩
  · rw [if_neg c2] at H
    have c2b0 : (t381 == 0) = false := beq_eq_false_iff_ne.mpr c2
    have c2b1 : (t381 != 0) = true := bne_iff_ne.mpr c2
    obtain rfl := Option.some.inj H
    go_enter Tryd.func19, Tryd.ntmps19
    go_wp2_with (first | ((with_reducible refine gate_callee (f := 16) rfl ?_); refine goesL_ (some 5) rfl rfl Tryd.func16 (by kernel_rfl) rfl #[.string (⟨#[97, 60, 61, 49]⟩ : ByteArray)] rfl (by (try simp only [List.map_toArray, List.map_cons, List.map_nil]); first | done | rfl | (simp only [List.length_drop, List.length_take]; rfl)) ?_; (with_reducible refine (lexer_Words.calls k (⟨#[97, 60, 61, 49]⟩ : ByteArray) t379 t380 t381 _ ?side1 A1.out).mono ?_); (case side1 => exact Laid_below HLd.out (by repeat (first | (with_reducible first | exact HB.out | apply below_alloc | apply pw_below_drewN | apply below_drew1 | apply bytes_below1) | exact HB.out))); rintro e w9 ⟨v382, rfl, ho0, hb⟩; refine ⟨_, rfl, ?_⟩; have n0_ := Aside0.mk (Kd.R_lower ho0 (below_size (by repeat (first | (with_reducible first | exact HB.out | apply below_alloc | apply pw_below_drewN | apply below_drew1 | apply bytes_below1) | exact HB.out)))); have n1_ := Aside0.mk (below_step (by repeat (first | (with_reducible first | exact HB.out | apply below_alloc | apply pw_below_drewN | apply below_drew1 | apply bytes_below1) | exact HB.out)) hb); clear HB; have HO383 := n0_; have HB := n1_; clear n0_ n1_; (try clear hb); (try clear hb2); (try clear hk); (try clear hi); (try clear ho0)))
    go_ret
    exact ⟨by first | rfl | (simp [errW_none, errW_some] <;> rfl) | (simp [*, errW_none, errW_some] <;> rfl), by repeat (first | (with_reducible first | exact HB.out | apply below_alloc | apply pw_below_drewN | apply below_drew1 | apply bytes_below1) | exact HB.out)⟩

end Go.Proofs.YtifgpigicgaadaaDoor.Q
end
section
/- The words of a text: what the program and the reference read. -/
set_option linter.unusedSimpArgs false
set_option linter.unusedVariables false
namespace Go.Proofs.YtifgpigicgaadaaDoor.Words
open Go.RowKit Go.Proofs.YtifgpigicgaadaaDoor.Q Go.Proofs.YtifgpigicgaadaaDoorW.PrintWords Go.Proofs.YtifgpigicgaadaaDoorW.PrintLast Go.Proofs.YtifgpigicgaadaaDoorH Go.Proofs.YtifgpigicgaadaaDoor.Chars Go.Proofs.YtifgpigicgaadaaDoor.Values Go.Proofs.YtifgpigicgaadaaDoor.Bytes Go.Proofs.YtifgpigicgaadaaDoor.Num Go.Proofs.YtifgpigicgaadaaDoor.Lex Go.Proofs.YtifgpigicgaadaaDoor.Quoted

/-! ## Signs -/
def TWO : List (List Int) := [[60, 61], [62, 61], [33, 61]]
def ONE : List Int := [40, 41, 46, 44, 43, 45, 42, 47, 37, 60, 62, 61]
def signV (l : List Int) : Nat := if TWO.contains (l.take 2) = true then 2 else if ONE.contains (l.getD 0 0) = true then 1 else 0
theorem ext0 (s : ByteArray) (n : Nat) : bytesOf (s.extract 0 n) = (bytesOf s).take n := by rw [b_extract, List.drop_zero, Nat.sub_zero]
theorem ext00 (s : ByteArray) : s.extract 0 0 = ⟨#[]⟩ := by apply b_inj; rw [ext0]; rfl
theorem ext_take (s : ByteArray) (n : Nat) : s.extract 0 n = strOfNums ((bytesOf s).take n) := by
  apply b_inj; rw [ext0, b_str ((bytes_of s).take n)]
theorem one_iff (a : Int) : ONE.contains a = true ↔ a = 40 ∨ a = 41 ∨ a = 46 ∨ a = 44 ∨ a = 43 ∨ a = 45 ∨ a = 42 ∨ a = 47 ∨ a = 37 ∨ a = 60 ∨ a = 62 ∨ a = 61 := by simp [ONE]
theorem sign_one (k : Nat) (s : ByteArray) (a : Int) (t : List Int) (h : bytesOf s = a :: t) : lexer_sign.l0 (k + 2) s 1 = some (s.extract 0 (if ONE.contains a = true then 1 else 0)) := by
  have hb : bytesOf (s.extract 0 (1 : Int).toNat) = [a] := by rw [ext0, h]; rfl
  have hz : s.size = t.length + 1 := by rw [b_size, h]; rfl
  have e0 : lexer_sign.l0 (k + 1) s (wrap64 (1 - 1)) = some ⟨#[]⟩ := by
    rw [show wrap64 (1 - 1) = 0 from by unfold wrap64; omega, lexer_sign.l0, if_neg (by omega)]
  rw [show k + 2 = (k + 1) + 1 from rfl, lexer_sign.l0, if_pos (by omega), if_pos (by omega), if_pos (by omega), e0]
  simp only [toList_iff, hb, List.map_cons, List.map_nil]
  simp only [List.cons.injEq, and_true, and_false, if_false, reduceCtorEq]
  by_cases hc : ONE.contains a = true
  · rcases (one_iff a).1 hc with rfl | rfl | rfl | rfl | rfl | rfl | rfl | rfl | rfl | rfl | rfl | rfl <;> rfl
  · have n : ∀ x : Int, ONE.contains x = true → ¬ a = x := fun x hx he => hc (by rw [he]; exact hx)
    rw [if_neg hc, ext00]
    exact (if_neg (n 40 rfl)).trans <| (if_neg (n 41 rfl)).trans <| (if_neg (n 46 rfl)).trans <| (if_neg (n 44 rfl)).trans <| (if_neg (n 43 rfl)).trans <| (if_neg (n 45 rfl)).trans <| (if_neg (n 42 rfl)).trans <| (if_neg (n 47 rfl)).trans <| (if_neg (n 37 rfl)).trans <| (if_neg (n 60 rfl)).trans <| (if_neg (n 62 rfl)).trans <| (if_neg (n 61 rfl))
theorem signV_one (a : Int) : signV [a] = if ONE.contains a = true then 1 else 0 := by
  unfold signV
  have : ¬ TWO.contains ([a].take 2) = true := by simp [TWO]
  rw [if_neg this]; rfl
theorem sign_spec (k : Nat) (s : ByteArray) (h : bytesOf s ≠ []) : lexer_sign.f (k + 3) s = some (s.extract 0 (signV (bytesOf s))) := by
  match hl : bytesOf s, h with
  | [a], _ =>
    have hz : s.size = 1 := by rw [b_size, hl]; rfl
    unfold lexer_sign.f
    rw [hz, show mn 2 ((1 : Nat) : Int) = 1 from rfl, show k + 3 = (k + 1) + 2 from rfl, sign_one _ s a [] hl, signV_one]
  | a :: b :: t, _ =>
    have hz : s.size = t.length + 2 := by rw [b_size, hl]; rfl
    have hm : mn 2 (s.size : Int) = 2 := by unfold mn; split <;> omega
    unfold lexer_sign.f
    have hb : bytesOf (s.extract 0 (2 : Int).toNat) = [a, b] := by rw [ext0, hl]; rfl
    rw [hm, show k + 3 = (k + 2) + 1 from rfl, lexer_sign.l0, if_pos (by omega), if_pos (by omega), if_pos (by omega)]
    simp only [toList_iff, hb, List.map_cons, List.map_nil]
    have e : wrap64 (2 - 1) = 1 := by unfold wrap64; omega
    rw [e, sign_one k s a (b :: t) hl]
    simp only [List.cons.injEq, and_true, and_false, if_false, reduceCtorEq]
    unfold signV
    simp only [List.take_succ_cons, List.take_zero, List.getD_cons_zero]
    by_cases h1 : TWO.contains [a, b] = true
    · rw [if_pos h1]
      have : (a = 60 ∧ b = 61) ∨ (a = 62 ∧ b = 61) ∨ (a = 33 ∧ b = 61) := by simpa [TWO] using h1
      rcases this with ⟨rfl, rfl⟩ | ⟨rfl, rfl⟩ | ⟨rfl, rfl⟩ <;> rfl
    · rw [if_neg h1]
      have : ¬ ((a = 60 ∧ b = 61) ∨ (a = 62 ∧ b = 61) ∨ (a = 33 ∧ b = 61)) := fun x => h1 (by simpa [TWO] using x)
      rw [if_neg (fun x => this (Or.inl (by simpa using x))), if_neg (fun x => this (Or.inr (Or.inl (by simpa using x)))), if_neg (fun x => this (Or.inr (Or.inr (by simpa using x))))]
theorem sign_at (s : ByteArray) (a : Int) (t : List Int) (h : bytesOf s = a :: t) (xs : List ByteArray) (hx : xs.length ≤ 1000) : ∀ d i k : Nat, i + d = xs.length →
    dossierref08_sign.l0 (k + d + 1) s xs (xs.length : Int) (i : Int) = some (if ((xs.drop i).map bytesOf).contains [a] = true then (4, s.extract 0 1, 0, 1, true) else (0, (⟨#[]⟩ : ByteArray), 0, 0, false)) := by
  have hz : s.size = t.length + 1 := by rw [b_size, h]; rfl
  have hb : bytesOf (s.extract 0 1) = [a] := by rw [ext0, h]; rfl
  intro d
  induction d with
  | zero =>
    intro i k hi
    rw [dossierref08_sign.l0, if_neg (by omega), List.drop_of_length_le (by omega)]; rfl
  | succ d ih =>
    intro i k hi
    have e2 : wrap64 ((i : Int) + 1) = ((i + 1 : Nat) : Int) := by rw [w64' _ (by omega) (by omega)]; omega
    have hlt : i < xs.length := by omega
    have hr : rdOf ByteArray.empty xs (i : Int) = xs[i] := by
      unfold rdOf; rw [Int.toNat_natCast, List.getD_eq_getElem?_getD, List.getElem?_eq_getElem hlt]; rfl
    rw [show k + (d + 1) + 1 = (k + d + 1) + 1 from by omega, dossierref08_sign.l0, if_pos (by omega), if_pos (by omega), if_pos (by omega), if_pos (by omega), if_pos (by omega), hr, e2, ih (i + 1) k (by omega), List.drop_eq_getElem_cons hlt, List.map_cons, List.contains_cons]
    by_cases hc : (s.extract 0 1).toList = xs[i].toList
    · have hc' := (toList_iff2 _ _).1 hc
      have hs : xs[i] = s.extract 0 1 := b_inj hc'.symm
      rw [if_pos hc, if_pos (by rw [← hc', hb]; simp), hs]
    · have hc' : ¬ [a] = bytesOf xs[i] := fun x => hc ((toList_iff2 _ _).2 (by rw [hb]; exact x))
      rw [if_neg hc]
      have : ([a] == bytesOf xs[i]) = false := by simpa using hc'
      rw [this, Bool.false_or]
theorem ref_sign_spec (k : Nat) (s : ByteArray) (h : bytesOf s ≠ []) : dossierref08_sign.f (k + 20) s = some (if signV (bytesOf s) = 0 then (0, (⟨#[]⟩ : ByteArray), 0, 0, false) else (4, s.extract 0 (signV (bytesOf s)), 0, (signV (bytesOf s) : Int), true)) := by
  have one : ∀ (a : Int) (t : List Int), bytesOf s = a :: t → dossierref08_sign.j0 (k + 20) s false = some (if ONE.contains a = true then (4, s.extract 0 1, 0, 1, true) else (0, (⟨#[]⟩ : ByteArray), 0, 0, false)) := by
    intro a t ht
    rw [show k + 20 = (k + 19) + 1 from rfl, dossierref08_sign.j0, if_neg (by decide), Option.bind_some]
    have := sign_at s a t ht [(⟨#[40]⟩ : ByteArray), (⟨#[41]⟩ : ByteArray), (⟨#[46]⟩ : ByteArray), (⟨#[44]⟩ : ByteArray), (⟨#[43]⟩ : ByteArray), (⟨#[45]⟩ : ByteArray), (⟨#[42]⟩ : ByteArray), (⟨#[47]⟩ : ByteArray), (⟨#[37]⟩ : ByteArray), (⟨#[60]⟩ : ByteArray), (⟨#[62]⟩ : ByteArray), (⟨#[61]⟩ : ByteArray)] (by decide) 12 0 (k + 6) rfl
    rw [show k + 6 + 12 + 1 = k + 19 from rfl] at this
    refine this.trans ?_
    have e : ((([(⟨#[40]⟩ : ByteArray), (⟨#[41]⟩ : ByteArray), (⟨#[46]⟩ : ByteArray), (⟨#[44]⟩ : ByteArray), (⟨#[43]⟩ : ByteArray), (⟨#[45]⟩ : ByteArray), (⟨#[42]⟩ : ByteArray), (⟨#[47]⟩ : ByteArray), (⟨#[37]⟩ : ByteArray), (⟨#[60]⟩ : ByteArray), (⟨#[62]⟩ : ByteArray), (⟨#[61]⟩ : ByteArray)] : List ByteArray).drop 0).map bytesOf) = ONE.map fun x => [x] := rfl
    rw [e]
    have e2 : (ONE.map fun x => [x]).contains [a] = ONE.contains a := by
      rw [Bool.eq_iff_iff, List.contains_iff_mem, List.contains_iff_mem, List.mem_map]
      constructor
      · rintro ⟨x, hx, he⟩
        cases he; exact hx
      · intro hx; exact ⟨a, hx, rfl⟩
    rw [e2]
  have two : dossierref08_sign.j0 (k + 20) s true = if 2 ≤ (s.size : Int) then some (4, s.extract 0 2, 0, 2, true) else none := by
    rw [show k + 20 = (k + 19) + 1 from rfl, dossierref08_sign.j0, if_pos rfl, if_pos (by decide)]
  match hl : bytesOf s, h with
  | [a], _ =>
    have hz : s.size = 1 := by rw [b_size, hl]; rfl
    unfold dossierref08_sign.f
    rw [if_neg (by omega), one a [] hl]
    rw [signV_one]
    by_cases h1 : ONE.contains a = true
    · rw [if_pos h1, if_pos h1]; rfl
    · rw [if_neg h1, if_neg h1]; rfl
  | a :: b :: t, _ =>
    have hz : s.size = t.length + 2 := by rw [b_size, hl]; rfl
    have hb : bytesOf (s.extract 0 2) = [a, b] := by rw [ext0, hl]; rfl
    unfold dossierref08_sign.f
    have two := two.trans (if_pos (by omega))
    rw [if_pos (by omega), if_pos (by omega), if_pos (by omega), two]
    have hbe : ((s.extract 0 2).toList == ([33, 61] : List UInt8)) = decide (a = 33 ∧ b = 61) := by
      rw [Bool.eq_iff_iff, beq_iff_eq, toList_iff, hb]; simp
    rw [hbe]
    simp only [toList_iff, hb, List.map_cons, List.map_nil, List.cons.injEq, and_true]
    unfold signV
    simp only [List.take_succ_cons, List.take_zero, List.getD_cons_zero]
    by_cases h1 : TWO.contains [a, b] = true
    · simp only [if_pos h1]
      have : (a = 60 ∧ b = 61) ∨ (a = 62 ∧ b = 61) ∨ (a = 33 ∧ b = 61) := by simpa [TWO] using h1
      rcases this with ⟨rfl, rfl⟩ | ⟨rfl, rfl⟩ | ⟨rfl, rfl⟩
      · rfl
      · rfl
      · rw [if_neg (by decide), if_neg (by decide), show decide ((33 : Int) = 33 ∧ (61 : Int) = 61) = true from rfl, two]; rfl
    · simp only [if_neg h1]
      have : ¬ ((a = 60 ∧ b = 61) ∨ (a = 62 ∧ b = 61) ∨ (a = 33 ∧ b = 61)) := fun x => h1 (by simpa [TWO] using x)
      rw [if_neg (fun x => this (Or.inl (by simpa using x))), if_neg (fun x => this (Or.inr (Or.inl (by simpa using x)))), show decide (a = 33 ∧ b = 61) = false from by simpa using fun x y => this (Or.inr (Or.inr ⟨x, y⟩)), one a (b :: t) hl]
      by_cases h2 : ONE.contains a = true
      · rw [if_pos h2, if_pos h2]; rfl
      · rw [if_neg h2, if_neg h2]; rfl

/-! ## A word -/
def nameP (x : Int) : Bool := letterV x || digitV x
theorem take_while (p : Int → Bool) : ∀ l : List Int, l.take (l.takeWhile p).length = l.takeWhile p
  | [] => rfl
  | x :: t => by
    by_cases h : p x = true
    · rw [List.takeWhile_cons_of_pos h, List.length_cons, List.take_succ_cons, take_while p t]
    · rw [List.takeWhile_cons_of_neg h]; rfl
theorem while_len (p : Int → Bool) (l : List Int) : (l.takeWhile p).length ≤ l.length := by
  have := congrArg List.length (take_while p l)
  rw [List.length_take] at this; omega
theorem ext_while (s : ByteArray) (p : Int → Bool) : s.extract 0 ((bytesOf s).takeWhile p).length = strOfNums ((bytesOf s).takeWhile p) := by
  rw [ext_take, take_while]
theorem while_digits (l : List Int) : Digits (l.takeWhile digitV) := by
  induction l with
  | nil => intro x hx; exact absurd hx (by simp)
  | cons a t ih =>
    intro x hx
    rw [List.takeWhile_cons] at hx
    split at hx
    · rename_i ha
      rcases List.mem_cons.1 hx with rfl | hx
      · unfold digitV at ha; simp at ha; exact ha
      · exact ih x hx
    · exact absurd hx (by simp)
open Classical in
noncomputable def textV (r : Option (List Int × Nat)) : Option (S51 × Nat) :=
  match r with
  | none => none
  | some r => if 256 < r.1.length ∨ ¬ Lex.Good r.1 then none else some (⟨3, strOfNums r.1, 0⟩, r.2 + 1)
/-- The word that bytes begin with. -/
noncomputable def wordV (l : List Int) : Option (S51 × Nat) :=
  if letterV (l.getD 0 0) = true then some (⟨1, strOfNums (l.takeWhile nameP), 0⟩, (l.takeWhile nameP).length)
  else if digitV (l.getD 0 0) = true then (if (numV (l.takeWhile digitV)).2 = 0 then some (⟨2, ⟨#[]⟩, (numV (l.takeWhile digitV)).1⟩, (l.takeWhile digitV).length) else none)
  else if l.getD 0 0 = 34 then textV (scan (l.drop 1))
  else if signV l = 0 then none else some (⟨4, strOfNums (l.take (signV l)), 0⟩, signV l)
theorem signV_le (l : List Int) (h : l ≠ []) : signV l ≤ l.length := by
  unfold signV
  split
  · rename_i h2
    match l, h with
    | [a], _ => simp [TWO] at h2
    | a :: b :: t, _ => simp
  · have : 0 < l.length := List.length_pos_iff.2 h
    split <;> omega
theorem wordV_len (l : List Int) (hl : Bytes l) (h : l ≠ []) (w : S51) (n : Nat) (hw : wordV l = some (w, n)) : 1 ≤ n ∧ n ≤ l.length := by
  obtain ⟨a, t, rfl⟩ : ∃ a t, l = a :: t := List.exists_cons_of_ne_nil h
  unfold wordV at hw
  rw [List.getD_cons_zero] at hw
  by_cases h1 : letterV a = true
  · rw [if_pos h1] at hw
    have hp : nameP a = true := by unfold nameP; rw [h1]; rfl
    have := while_len nameP (a :: t)
    cases hw
    rw [List.takeWhile_cons_of_pos hp] at this ⊢
    simp at this ⊢
    omega
  · rw [if_neg h1] at hw
    by_cases h2 : digitV a = true
    · rw [if_pos h2] at hw
      split at hw
      · have := while_len digitV (a :: t)
        cases hw
        rw [List.takeWhile_cons_of_pos h2] at this ⊢
        simp at this ⊢
        omega
      · cases hw
    · rw [if_neg h2] at hw
      by_cases h3 : a = 34
      · rw [if_pos h3, List.drop_succ_cons, List.drop_zero] at hw
        cases hs : scan t with
        | none => rw [hs] at hw; cases hw
        | some r =>
          obtain ⟨o, m⟩ := r
          have := scan_bytes _ t rfl (fun x hx => hl x (by simp [hx])) o m hs
          rw [hs] at hw
          unfold textV at hw
          simp only at hw
          split at hw
          · cases hw
          · cases hw
            simp; omega
      · rw [if_neg h3] at hw
        have := signV_le (a :: t) h
        split at hw
        · cases hw
        · cases hw; omega
def Says (v : Option (S51 × Nat)) (r : Int × ByteArray × Int × Int) : Prop :=
  (∀ w n, v = some (w, n) → r = (w.f0, w.f1, w.f2, (n : Int))) ∧ (v = none → r.2.2.2 = 0)
def Tells (v : Option (S51 × Nat)) (r : Int × ByteArray × Int × Int × Bool) : Prop :=
  (∀ w n, v = some (w, n) → r = (w.f0, w.f1, w.f2, (n : Int), true)) ∧ (v = none → r.2.2.2.2 = false)
theorem word_spec (s : ByteArray) (a : Int) (t : List Int) (h : bytesOf s = a :: t) (hs : (bytesOf s).length ≤ 1000) (k : Nat) (hk : 3000 ≤ k) : ∃ r, lexer_word.f k s = some r ∧ Says (wordV (bytesOf s)) r := by
  have hz : s.size = t.length + 1 := by rw [b_size, h]; rfl
  have hb : bt s 0 = a := by rw [bt_get, h]; rfl
  have ha : 0 ≤ a ∧ a < 256 := bytes_of s a (by rw [h]; simp)
  have hS := sets_at a ha
  have g0 : (bytesOf s).getD 0 0 = a := by rw [h]; rfl
  unfold LET DIG at hS
  unfold lexer_word.f wordV
  rw [if_pos (by omega), hb, g0, hS.1, Option.bind_some]
  by_cases h1 : letterV a = true
  · rw [if_pos h1, if_pos h1]
    have hr := run_spec s LETDIG nameP (fun x hx => (sets_at x hx).2.1) (by omega) k (by omega)
    unfold LETDIG at hr
    rw [hr, Option.bind_some, ext_while]
    refine ⟨_, rfl, fun w n hw => ?_, fun hw => (by cases hw)⟩
    cases hw
    rw [str_size]
  · rw [if_neg h1, if_neg h1, hS.2.2.1, Option.bind_some]
    by_cases h2 : digitV a = true
    · rw [if_pos h2, if_pos h2]
      have hr := run_spec s DIG digitV (fun x hx => (sets_at x hx).2.2.1) (by omega) k (by omega)
      unfold DIG at hr
      have hd := while_digits (bytesOf s)
      have hn0 : (bytesOf s).takeWhile digitV ≠ [] := by rw [h, List.takeWhile_cons_of_pos h2]; simp
      have hle := while_len digitV (bytesOf s)
      have hbs : bytesOf (strOfNums ((bytesOf s).takeWhile digitV)) = (bytesOf s).takeWhile digitV := b_str (by rw [← take_while]; exact (bytes_of s).take _)
      have hN := number_spec (strOfNums ((bytesOf s).takeWhile digitV)) (by rw [hbs]; exact hd) (by rw [hbs]; exact hn0) (by rw [hbs]; omega) k (by rw [hbs]; omega)
      rw [hbs] at hN
      rw [hr, Option.bind_some, ext_while, hN, Option.bind_some]
      by_cases h3 : (numV ((bytesOf s).takeWhile digitV)).2 = 0
      · rw [if_pos h3, if_pos h3]
        refine ⟨_, rfl, fun w n hw => ?_, fun hw => (by cases hw)⟩
        cases hw
        rw [str_size]
      · rw [if_neg h3, if_neg h3]
        exact ⟨_, rfl, fun w n hw => (by cases hw), fun _ => rfl⟩
    · rw [if_neg h2, if_neg h2]
      by_cases h3 : a = 34
      · rw [if_pos h3, if_pos h3]
        have hq := quoted_at s hs ((bytesOf s).length - 1) 1 (k - ((bytesOf s).length - 1) - 400) [] (by rw [h]; simp; omega) (fun x hx => absurd hx (by simp)) (by simp)
        rw [show k - ((bytesOf s).length - 1) - 400 + ((bytesOf s).length - 1) + 400 = k from by omega] at hq
        unfold lexer_quoted.f
        rw [show ((1 : Nat) : Int) = 1 from rfl] at hq
        rw [hq, Option.bind_some]
        cases hsc : scan ((bytesOf s).drop 1) with
        | none => exact ⟨_, rfl, fun w n hw => (by cases hw), fun _ => rfl⟩
        | some r =>
          obtain ⟨o, m⟩ := r
          unfold textV quoP quoE
          simp only [List.nil_append]
          by_cases h4 : 256 < o.length ∨ ¬ Lex.Good o
          · rw [if_pos h4, if_pos h4]
            exact ⟨_, rfl, fun w n hw => (by cases hw), fun _ => rfl⟩
          · rw [if_neg h4, if_neg h4]
            refine ⟨_, rfl, fun w n hw => ?_, fun hw => (by cases hw)⟩
            cases hw
            simp only [Nat.add_comm]
      · rw [if_neg h3, if_neg h3]
        have hg := sign_spec (k - 3) s (by rw [h]; simp)
        rw [show k - 3 + 3 = k from by omega] at hg
        rw [hg, Option.bind_some]
        by_cases h4 : signV (bytesOf s) = 0
        · rw [if_pos h4, h4, ext00]
          exact ⟨_, rfl, fun w n hw => (by cases hw), fun _ => rfl⟩
        · rw [if_neg h4, ext_take]
          have hle := signV_le (bytesOf s) (by rw [h]; simp)
          refine ⟨_, rfl, fun w n hw => ?_, fun hw => (by cases hw)⟩
          cases hw
          rw [str_size, List.length_take, Nat.min_eq_left hle]
theorem ref_word_spec (s : ByteArray) (a : Int) (t : List Int) (h : bytesOf s = a :: t) (hs : (bytesOf s).length ≤ 1000) (k : Nat) (hk : 3000 ≤ k) : ∃ r, dossierref08_word.f k s = some r ∧ Tells (wordV (bytesOf s)) r := by
  have hz : s.size = t.length + 1 := by rw [b_size, h]; rfl
  have hb : bt s 0 = a := by rw [bt_get, h]; rfl
  have ha : 0 ≤ a ∧ a < 256 := bytes_of s a (by rw [h]; simp)
  have g0 : (bytesOf s).getD 0 0 = a := by rw [h]; rfl
  unfold dossierref08_word.f wordV
  rw [if_pos (by omega), hb, g0, digit_spec, Option.bind_some, letter_spec]
  by_cases h2 : digitV a = true
  · have h1 : ¬ letterV a = true := by
      intro x; unfold letterV at x; unfold digitV at h2; simp at x h2; omega
    rw [if_pos h2, if_neg h1, if_pos h2]
    have hd := while_digits (bytesOf s)
    have hn0 : (bytesOf s).takeWhile digitV ≠ [] := by rw [h, List.takeWhile_cons_of_pos h2]; simp
    have hle := while_len digitV (bytesOf s)
    have hbs : bytesOf (s.extract 0 ((bytesOf s).takeWhile digitV).length) = (bytesOf s).takeWhile digitV := by rw [ext0, take_while]
    have hI := integer_at s (by omega) 1100 (numV ((bytesOf s).takeWhile digitV)) ((bytesOf s).takeWhile digitV).length
      (fun k hk => by
        have := ref_number_spec (s.extract 0 ((bytesOf s).takeWhile digitV).length) (by rw [hbs]; exact hd) (by rw [hbs]; exact hn0) (by rw [hbs]; omega) k (by rw [hbs]; omega)
        rw [hbs] at this; exact this) (bytesOf s).length 0 (k - 1100 - (bytesOf s).length - 1) (by omega) (by rw [List.drop_zero]; omega)
    rw [show 1100 + (k - 1100 - (bytesOf s).length - 1) + (bytesOf s).length + 1 = k from by omega] at hI
    unfold dossierref08_integer.f
    rw [show ((0 : Nat) : Int) = 0 from rfl] at hI
    rw [hI, Option.bind_some]
    by_cases h3 : (numV ((bytesOf s).takeWhile digitV)).2 = 0
    · rw [if_pos h3]
      refine ⟨_, rfl, fun w n hw => ?_, fun hw => (by cases hw)⟩
      cases hw
      rw [h3]; rfl
    · rw [if_neg h3]
      refine ⟨_, rfl, fun w n hw => (by cases hw), fun _ => ?_⟩
      simpa using h3
  · rw [if_neg h2, if_neg h2]
    by_cases h3 : a = 34
    · have h1 : ¬ letterV a = true := by rw [h3]; decide
      rw [if_pos h3, if_neg h1, if_pos h3]
      obtain ⟨r, hr, ht⟩ := text_at s hs ((bytesOf s).length - 1) 1 (k - ((bytesOf s).length - 1) - 60) ⟨#[]⟩ (by rw [h]; simp; omega) (by decide)
      rw [show k - ((bytesOf s).length - 1) - 60 + ((bytesOf s).length - 1) + 60 = k from by omega] at hr
      unfold dossierref08_text.f
      rw [show ((1 : Nat) : Int) = 1 from rfl] at hr
      rw [hr, Option.bind_some]
      refine ⟨r, rfl, ?_⟩
      cases hsc : scan ((bytesOf s).drop 1) with
      | none => exact ⟨fun w n hw => (by cases hw), fun _ => ht.2 fun o n x => by rw [hsc] at x; cases x⟩
      | some q =>
        obtain ⟨o, m⟩ := q
        by_cases hg : Lex.Good o
        · have e := ht.1 o m hsc hg
          unfold textV
          simp only
          by_cases h4 : 256 < o.length
          · rw [if_pos (Or.inl h4)]
            refine ⟨fun w n hw => (by cases hw), fun _ => ?_⟩
            rw [e]
            simp
            omega
          · rw [if_neg (fun x => x.elim h4 (fun y => y hg))]
            refine ⟨fun w n hw => ?_, fun hw => (by cases hw)⟩
            cases hw
            rw [e, nil_append]
            have : decide ((((⟨#[]⟩ : ByteArray).size + o.length : Nat) : Int) ≤ 256) = true := by
              rw [decide_eq_true_eq]
              have : (⟨#[]⟩ : ByteArray).size = 0 := rfl
              omega
            rw [this, Nat.add_comm]
        · unfold textV
          simp only
          rw [if_pos (Or.inr hg)]
          exact ⟨fun w n hw => (by cases hw), fun _ => ht.2 fun o' n' x => by rw [hsc] at x; cases x; exact hg⟩
    · rw [if_neg h3, if_neg h3, Option.bind_some]
      by_cases h1 : letterV a = true
      · rw [if_pos h1, if_pos h1]
        have hn := name_at s (by omega) ((bytesOf s).length - 1) 1 (k - ((bytesOf s).length - 1) - 1) (by rw [h]; simp; omega)
        rw [show k - ((bytesOf s).length - 1) - 1 + ((bytesOf s).length - 1) + 1 = k from by omega, show ((1 : Nat) : Int) = 1 from rfl] at hn
        rw [hn]
        have hp : nameP a = true := by unfold nameP; rw [h1]; rfl
        have e : 1 + (((bytesOf s).drop 1).takeWhile fun x => letterV x || digitV x).length = ((bytesOf s).takeWhile nameP).length := by
          rw [h, List.takeWhile_cons_of_pos hp, List.length_cons, List.drop_succ_cons, List.drop_zero, Nat.add_comm]; rfl
        rw [e, ext_while]
        refine ⟨_, rfl, fun w n hw => ?_, fun hw => (by cases hw)⟩
        cases hw; rfl
      · rw [if_neg h1, if_neg h1]
        have hg := ref_sign_spec (k - 20) s (by rw [h]; simp)
        rw [show k - 20 + 20 = k from by omega] at hg
        rw [hg, Option.bind_some]
        by_cases h4 : signV (bytesOf s) = 0
        · rw [if_pos h4, if_pos h4]
          exact ⟨_, rfl, fun w n hw => (by cases hw), fun _ => rfl⟩
        · rw [if_neg h4, if_neg h4, ext_take]
          refine ⟨_, rfl, fun w n hw => ?_, fun hw => (by cases hw)⟩
          cases hw; rfl

/-! ## All words -/
def blankV (x : Int) : Bool := decide (x = 32) || decide (x = 9) || decide (x = 10) || decide (x = 13)
theorem space_spec (x : Int) : dossierref01_Space.f x = some (blankV x) := by
  unfold dossierref01_Space.f blankV
  repeat' split
  all_goals (congr 1; rw [Bool.eq_iff_iff]; simp; omega)
theorem trim_spec (s : ByteArray) : ∃ r, strings_TrimLeft.f s ⟨#[32, 9, 10, 13]⟩ = some r ∧ bytesOf r = (bytesOf s).dropWhile blankV := by
  unfold strings_TrimLeft.f
  rw [if_pos ⟨by decide, by decide⟩]
  refine ⟨_, rfl, ?_⟩
  unfold bytesOf
  simp only
  generalize s.data.toList = l
  unfold Lib.trimLeftS
  induction l with
  | nil => rfl
  | cons b t ih =>
    have hb : ([32, 9, 10, 13] : List UInt8).contains b = blankV (b.toNat : Int) := by
      unfold blankV
      rw [Bool.eq_iff_iff]
      simp [← UInt8.toNat_inj]
      omega
    have hb' : (⟨#[32, 9, 10, 13]⟩ : ByteArray).data.toList.contains b = blankV (b.toNat : Int) := hb
    rw [List.dropWhile_cons, List.map_cons, List.dropWhile_cons, hb']
    by_cases hc : blankV (b.toNat : Int) = true
    · rw [if_pos hc, if_pos hc]; exact ih
    · rw [if_neg hc, if_neg hc]; rfl
theorem words_at (s : ByteArray) (hs : (bytesOf s).length ≤ 400) (C : Nat) (hC : 3001 ≤ C) : ∀ (d i k1 k2 : Nat) (acc : List S51) (rest : ByteArray), i + d = (bytesOf s).length → acc.length ≤ i → bytesOf rest = ((bytesOf s).drop i).dropWhile blankV → d + C ≤ k1 → d + C ≤ k2 →
    ∃ r, lexer_Words.l0 k1 s acc rest = some r ∧ dossierref08_Words.l0 k2 s acc (i : Int) = some r ∧ r.1.length ≤ 401 := by
  intro d
  induction d using Nat.strongRecOn with
  | ind d ih =>
    intro i k1 k2 acc rest hi hacc hrest hk1 hk2
    have hss := b_size s
    by_cases hlt : i < (bytesOf s).length
    · obtain ⟨d', rfl⟩ : ∃ d', d = d' + 1 := ⟨d - 1, by omega⟩
      obtain ⟨m2, rfl⟩ : ∃ m, k2 = m + 1 := ⟨k2 - 1, by omega⟩
      have hbx := bytes_of s _ (List.getElem_mem hlt)
      have e2 : wrap64 ((i : Int) + 1) = ((i + 1 : Nat) : Int) := by rw [w64' _ (by omega) (by omega)]; omega
      have e3 : wrap64 ((bytesOf s)[i]) = (bytesOf s)[i] := by rw [w64' _ (by omega) (by omega)]
      rw [dossierref08_Words.l0, if_pos (by omega), if_pos (by omega), bt_at' hlt, e3, space_spec, Option.bind_some]
      by_cases hbl : blankV (bytesOf s)[i] = true
      · rw [if_pos hbl, e2]
        refine ih d' (by omega) (i + 1) k1 m2 acc rest (by omega) (by omega) ?_ (by omega) (by omega)
        rw [hrest, drop_cons hlt, List.dropWhile_cons, if_pos hbl]
      · have hrb : bytesOf rest = (bytesOf s).drop i := by rw [hrest, drop_cons hlt, List.dropWhile_cons, if_neg hbl]
        have hrs : rest = s.extract i s.size := by apply b_inj; rw [hrb, ext_all]
        have hrz : rest.size = (bytesOf s).length - i := by rw [b_size, hrb, List.length_drop]
        have hcons := hrb.trans (drop_cons hlt)
        rw [if_neg hbl, if_pos (by omega), Int.toNat_natCast, ← hrs]
        obtain ⟨m1, rfl⟩ : ∃ m, k1 = m + 1 := ⟨k1 - 1, by omega⟩
        obtain ⟨r1, hr1, hsay⟩ := word_spec rest _ _ hcons (by rw [hrb, List.length_drop]; omega) m1 (by omega)
        obtain ⟨r2, hr2, htell⟩ := ref_word_spec rest _ _ hcons (by rw [hrb, List.length_drop]; omega) m2 (by omega)
        rw [lexer_Words.l0, if_neg (by rw [toList_iff, hcons]; exact List.cons_ne_nil _ _), hr1, Option.bind_some, hr2, Option.bind_some]
        cases hw : wordV (bytesOf rest) with
        | none =>
          have q1 := hsay.2 hw
          have q2 := htell.2 hw
          rw [if_pos q1, if_neg (by rw [q2]; decide)]
          refine ⟨_, rfl, ?_, by simp⟩
          have : wrap64 ((s.size : Int) - (rest.size : Int)) = (i : Int) := by rw [w64' _ (by omega) (by omega)]; omega
          rw [this]
        | some v =>
          obtain ⟨w, n⟩ := v
          have q1 := hsay.1 w n hw
          have q2 := htell.1 w n hw
          have hn := wordV_len (bytesOf rest) (bytes_of rest) (by rw [hcons]; exact List.cons_ne_nil _ _) w n hw
          have hl := b_size rest
          subst q1 q2
          simp only
          rw [if_neg (by omega), if_pos (by omega), if_pos (by omega), if_pos (by omega), if_pos trivial, if_pos (by omega), Int.toNat_natCast]
          obtain ⟨r3, hr3, hb3⟩ := trim_spec (rest.extract n rest.size)
          have e4 : wrap64 ((i : Int) + (n : Int)) = ((i + n : Nat) : Int) := by rw [w64' _ (by omega) (by omega)]; omega
          rw [hr3, Option.bind_some, e4]
          have t1 : d' + 1 - n < d' + 1 := by omega
          have t2 : i + n + (d' + 1 - n) = (bytesOf s).length := by omega
          have t3 : (acc ++ [(⟨w.f0, w.f1, w.f2⟩ : S51)]).length ≤ i + n := by rw [List.length_append, List.length_singleton]; exact Nat.add_le_add hacc hn.1
          have t4 : d' + 1 - n + C ≤ m1 := by omega
          have t5 : d' + 1 - n + C ≤ m2 := by omega
          refine ih (d' + 1 - n) t1 (i + n) m1 m2 _ r3 t2 t3 ?_ t4 t5
          rw [hb3, ext_all, hrb, List.drop_drop]
    · have hd : (bytesOf s).drop i = [] := List.drop_of_length_le (by omega)
      rw [hd] at hrest
      obtain ⟨m1, rfl⟩ : ∃ m, k1 = m + 1 := ⟨k1 - 1, by omega⟩
      obtain ⟨m2, rfl⟩ : ∃ m, k2 = m + 1 := ⟨k2 - 1, by omega⟩
      rw [lexer_Words.l0, if_pos (by rw [toList_iff, hrest]; rfl), if_pos (by omega), dossierref08_Words.l0, if_neg (by omega), if_pos (by omega)]
      exact ⟨_, rfl, rfl, by rw [List.length_append, List.length_singleton]; omega⟩
theorem words_same (s : ByteArray) (k : Nat) (hk : 4000 ≤ k) : ∃ r, lexer_Words.f k s = some r ∧ dossierref08_Words.f k s = some r ∧ r.1.length ≤ 401 := by
  have hss := b_size s
  unfold lexer_Words.f dossierref08_Words.f
  by_cases h : 400 < (bytesOf s).length
  · rw [if_pos (by omega), if_pos (by omega)]
    exact ⟨_, rfl, rfl, by simp⟩
  · rw [if_neg (by omega), if_neg (by omega)]
    obtain ⟨r, hr, hb⟩ := trim_spec s
    rw [hr, Option.bind_some]
    exact words_at s (by omega) 3001 (Nat.le_refl _) _ 0 k k [] r (Nat.zero_add _) (by simp) hb (by omega) (by omega)
theorem same_at (l : List S51) (hl : l.length ≤ 1000) : ∀ d i k : Nat, i + d = l.length → dossierref08_Same.l0 (k + d + 1) l l (l.length : Int) (i : Int) = some true := by
  intro d
  induction d with
  | zero => intro i k hi; rw [dossierref08_Same.l0, if_neg (by omega)]
  | succ d ih =>
    intro i k hi
    have e2 : wrap64 ((i : Int) + 1) = ((i + 1 : Nat) : Int) := by rw [w64' _ (by omega) (by omega)]; omega
    rw [show k + (d + 1) + 1 = (k + d + 1) + 1 from by omega, dossierref08_Same.l0, if_pos (by omega), if_pos (by omega), if_pos (by omega), if_pos (by omega), if_neg (by simp), e2]
    exact ih (i + 1) k (by omega)
theorem same_spec (l : List S51) (hl : l.length ≤ 1000) (k : Nat) (hk : 1001 ≤ k) : dossierref08_Same.f k l l = some true := by
  unfold dossierref08_Same.f
  rw [if_pos rfl]
  have := same_at l hl l.length 0 (k - l.length - 1) (Nat.zero_add _)
  rw [show k - l.length - 1 + l.length + 1 = k from by omega] at this
  exact this
theorem mono_le {α : Type} (f : Nat → Option α) (h : ∀ k, LeO (f k) (f (k + 1))) {k k' : Nat} (hk : k ≤ k') {r : α} (e : f k = some r) : f k' = some r := by
  obtain ⟨d, rfl⟩ : ∃ d, k' = k + d := ⟨k' - k, by omega⟩
  clear hk
  induction d with
  | zero => exact e
  | succ d ih => exact h _ r ih
theorem awake_small : dossierlaw08_awake.f 60 = some true := by kernel_rfl
theorem awake_spec (k : Nat) (hk : 60 ≤ k) : dossierlaw08_awake.f k = some true := mono_le _ dossierlaw08_awake.mono hk awake_small
end Go.Proofs.YtifgpigicgaadaaDoor.Words
end
