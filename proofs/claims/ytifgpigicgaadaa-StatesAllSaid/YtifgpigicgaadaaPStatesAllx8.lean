-- PRINTED BY print.sh 35421559b90ae4d0a3588c463048766b98c2df88dd9212a6774a882060cdf62d: not written by this session
import Derived.Test.YtifgpigicgaadaaPStatesAllx0
import Derived.Test.YtifgpigicgaadaaPStatesAllx1
import Derived.Test.YtifgpigicgaadaaPStatesAllx2
import Derived.Test.YtifgpigicgaadaaPStatesAllx7
namespace Go.Proofs.Ytifgpigicgaadaa.PStatesAll
open Go.RowKit Go.Proofs.YtifgpigicgaadaaW.PrintWords Go.Proofs.YtifgpigicgaadaaW.PrintLast Go.Proofs.YtifgpigicgaadaaW.PrintMore
attribute [local go_sem] max2_int min2_int max_two min_two max_three min_three max_four min_four   -- for this text's walks alone
set_option linter.unusedVariables false
set_option linter.unusedSimpArgs false

/-! ### dossierlaw17_StatesAll: function 5 -/
mutual
def dossierlaw17_StatesAll.l0 : Nat → Int → Int → Option (Bool)
  | 0, _, _ => none
  | k + 1, x0, x12 => if x12 < 10 then (dossierlaw17_StatesAll.l1 k x0 x12 x12 0) else ((dossierlaw17_awake.f k).bind fun t296 => (some t296))
def dossierlaw17_StatesAll.l1 : Nat → Int → Int → Int → Int → Option (Bool)
  | 0, _, _, _, _ => none
  | k + 1, x0, x3, x12, x15 => if x15 < 11 then (dossierlaw17_StatesAll.l2 k x0 x3 x15 x12 x15 0) else (dossierlaw17_StatesAll.l0 k x0 (wrap64 (x12 + 1)))
def dossierlaw17_StatesAll.l2 : Nat → Int → Int → Int → Int → Int → Int → Option (Bool)
  | 0, _, _, _, _, _, _ => none
  | k + 1, x0, x3, x4, x12, x15, x18 => if x18 < 20 then ((some (([false, true] : List Bool) : List Bool)).bind fun y297 => (dossierlaw17_StatesAll.l3 k x0 x3 x4 x18 x12 x15 x18 y297 (y297.length : Int) 0)) else (dossierlaw17_StatesAll.l1 k x0 x3 x12 (wrap64 (x15 + 1)))
def dossierlaw17_StatesAll.l3 : Nat → Int → Int → Int → Int → Int → Int → Int → List Bool → Int → Int → Option (Bool)
  | 0, _, _, _, _, _, _, _, _, _, _ => none
  | k + 1, x0, x3, x4, x5, x12, x15, x18, x21, x22, x23 => if x23 < x22 then (if 0 ≤ x23 then (if x23 < (x21.length : Int) then ((states_Next.f k x3 (rdOf false x21 x23) x4 x0 x5).bind fun bt301 => ((dossierref17_Next.f k x3 (rdOf false x21 x23) x4 x0 x5).bind fun bt303 => (if bt301.1 = bt303.1 then (if (bt301.2 != bt303.2) = true then (some false) else (if bt301.2 = true then ((states_States.f k x3 (rdOf false x21 x23) bt301.1).bind fun t305 => (if t305 = true then ((states_Final.f x4).bind fun t306 => (if t306 = true then (if x5 = 18 then (dossierlaw17_StatesAll.l3 k x0 x3 x4 x5 x12 x15 x18 x21 x22 (wrap64 (x23 + 1))) else (some false)) else (dossierlaw17_StatesAll.l3 k x0 x3 x4 x5 x12 x15 x18 x21 x22 (wrap64 (x23 + 1))))) else (some false))) else (dossierlaw17_StatesAll.l3 k x0 x3 x4 x5 x12 x15 x18 x21 x22 (wrap64 (x23 + 1))))) else (some false)))) else (none)) else (none)) else (dossierlaw17_StatesAll.l2 k x0 x3 x4 x12 x15 (wrap64 (x18 + 1)))
end
def dossierlaw17_StatesAll.f (k : Nat) (a0 : Int) : Option (Bool) := dossierlaw17_StatesAll.l0 k a0 0
theorem dossierlaw17_StatesAll.mono_l : ∀ k, (∀ y0 y1, LeO (dossierlaw17_StatesAll.l0 k y0 y1) (dossierlaw17_StatesAll.l0 (k + 1) y0 y1)) ∧ (∀ y0 y1 y2 y3, LeO (dossierlaw17_StatesAll.l1 k y0 y1 y2 y3) (dossierlaw17_StatesAll.l1 (k + 1) y0 y1 y2 y3)) ∧ (∀ y0 y1 y2 y3 y4 y5, LeO (dossierlaw17_StatesAll.l2 k y0 y1 y2 y3 y4 y5) (dossierlaw17_StatesAll.l2 (k + 1) y0 y1 y2 y3 y4 y5)) ∧ (∀ y0 y1 y2 y3 y4 y5 y6 y7 y8 y9, LeO (dossierlaw17_StatesAll.l3 k y0 y1 y2 y3 y4 y5 y6 y7 y8 y9) (dossierlaw17_StatesAll.l3 (k + 1) y0 y1 y2 y3 y4 y5 y6 y7 y8 y9))
  | 0 => ⟨fun _ _ r h => by simp [dossierlaw17_StatesAll.l0] at h, fun _ _ _ _ r h => by simp [dossierlaw17_StatesAll.l1] at h, fun _ _ _ _ _ _ r h => by simp [dossierlaw17_StatesAll.l2] at h, fun _ _ _ _ _ _ _ _ _ _ r h => by simp [dossierlaw17_StatesAll.l3] at h⟩
  | k + 1 => by
    obtain ⟨ih0, ih1, ih2, ih3⟩ := dossierlaw17_StatesAll.mono_l k
    refine ⟨?_, ?_, ?_, ?_⟩
    · intro y0 y1
      unfold dossierlaw17_StatesAll.l0
      repeat' first
      | (with_reducible exact ih0 _ _)
      | (with_reducible exact ih1 _ _ _ _)
      | (with_reducible exact ih2 _ _ _ _ _ _)
      | (with_reducible exact ih3 _ _ _ _ _ _ _ _ _ _)
      | (with_reducible exact dossierlaw17_awake.mono _)
      | (with_reducible exact dossierref17_Next.mono _ _ _ _ _ _)
      | (with_reducible exact states_Next.mono _ _ _ _ _ _)
      | (with_reducible exact states_States.mono _ _ _ _)
      | (with_reducible exact LeO.refl _)
      | (with_reducible exact LeO.none _)
      | (with_reducible refine LeO.ite ?_ ?_)
      | (with_reducible refine LeO.bind ?_ (fun _ => ?_))
      | exact ih0 _ _
      | exact ih1 _ _ _ _
      | exact ih2 _ _ _ _ _ _
      | exact ih3 _ _ _ _ _ _ _ _ _ _
      | exact dossierlaw17_awake.mono _
      | exact dossierref17_Next.mono _ _ _ _ _ _
      | exact states_Next.mono _ _ _ _ _ _
      | exact states_States.mono _ _ _ _
      | exact LeO.none _
      | refine LeO.ite ?_ ?_
      | refine LeO.bind ?_ (fun _ => ?_)
    · intro y0 y1 y2 y3
      unfold dossierlaw17_StatesAll.l1
      repeat' first
      | (with_reducible exact ih0 _ _)
      | (with_reducible exact ih1 _ _ _ _)
      | (with_reducible exact ih2 _ _ _ _ _ _)
      | (with_reducible exact ih3 _ _ _ _ _ _ _ _ _ _)
      | (with_reducible exact dossierlaw17_awake.mono _)
      | (with_reducible exact dossierref17_Next.mono _ _ _ _ _ _)
      | (with_reducible exact states_Next.mono _ _ _ _ _ _)
      | (with_reducible exact states_States.mono _ _ _ _)
      | (with_reducible exact LeO.refl _)
      | (with_reducible exact LeO.none _)
      | (with_reducible refine LeO.ite ?_ ?_)
      | (with_reducible refine LeO.bind ?_ (fun _ => ?_))
      | exact ih0 _ _
      | exact ih1 _ _ _ _
      | exact ih2 _ _ _ _ _ _
      | exact ih3 _ _ _ _ _ _ _ _ _ _
      | exact dossierlaw17_awake.mono _
      | exact dossierref17_Next.mono _ _ _ _ _ _
      | exact states_Next.mono _ _ _ _ _ _
      | exact states_States.mono _ _ _ _
      | exact LeO.none _
      | refine LeO.ite ?_ ?_
      | refine LeO.bind ?_ (fun _ => ?_)
    · intro y0 y1 y2 y3 y4 y5
      unfold dossierlaw17_StatesAll.l2
      repeat' first
      | (with_reducible exact ih0 _ _)
      | (with_reducible exact ih1 _ _ _ _)
      | (with_reducible exact ih2 _ _ _ _ _ _)
      | (with_reducible exact ih3 _ _ _ _ _ _ _ _ _ _)
      | (with_reducible exact dossierlaw17_awake.mono _)
      | (with_reducible exact dossierref17_Next.mono _ _ _ _ _ _)
      | (with_reducible exact states_Next.mono _ _ _ _ _ _)
      | (with_reducible exact states_States.mono _ _ _ _)
      | (with_reducible exact LeO.refl _)
      | (with_reducible exact LeO.none _)
      | (with_reducible refine LeO.ite ?_ ?_)
      | (with_reducible refine LeO.bind ?_ (fun _ => ?_))
      | exact ih0 _ _
      | exact ih1 _ _ _ _
      | exact ih2 _ _ _ _ _ _
      | exact ih3 _ _ _ _ _ _ _ _ _ _
      | exact dossierlaw17_awake.mono _
      | exact dossierref17_Next.mono _ _ _ _ _ _
      | exact states_Next.mono _ _ _ _ _ _
      | exact states_States.mono _ _ _ _
      | exact LeO.none _
      | refine LeO.ite ?_ ?_
      | refine LeO.bind ?_ (fun _ => ?_)
    · intro y0 y1 y2 y3 y4 y5 y6 y7 y8 y9
      unfold dossierlaw17_StatesAll.l3
      repeat' first
      | (with_reducible exact ih0 _ _)
      | (with_reducible exact ih1 _ _ _ _)
      | (with_reducible exact ih2 _ _ _ _ _ _)
      | (with_reducible exact ih3 _ _ _ _ _ _ _ _ _ _)
      | (with_reducible exact dossierlaw17_awake.mono _)
      | (with_reducible exact dossierref17_Next.mono _ _ _ _ _ _)
      | (with_reducible exact states_Next.mono _ _ _ _ _ _)
      | (with_reducible exact states_States.mono _ _ _ _)
      | (with_reducible exact LeO.refl _)
      | (with_reducible exact LeO.none _)
      | (with_reducible refine LeO.ite ?_ ?_)
      | (with_reducible refine LeO.bind ?_ (fun _ => ?_))
      | exact ih0 _ _
      | exact ih1 _ _ _ _
      | exact ih2 _ _ _ _ _ _
      | exact ih3 _ _ _ _ _ _ _ _ _ _
      | exact dossierlaw17_awake.mono _
      | exact dossierref17_Next.mono _ _ _ _ _ _
      | exact states_Next.mono _ _ _ _ _ _
      | exact states_States.mono _ _ _ _
      | exact LeO.none _
      | refine LeO.ite ?_ ?_
      | refine LeO.bind ?_ (fun _ => ?_)
theorem dossierlaw17_StatesAll.mono : ∀ a0 k, LeO (dossierlaw17_StatesAll.f k a0) (dossierlaw17_StatesAll.f (k + 1) a0) := by
  intro a0 k
  obtain ⟨ih0, ih1, ih2, ih3⟩ := dossierlaw17_StatesAll.mono_l k
  unfold dossierlaw17_StatesAll.f
  repeat' first
      | (with_reducible exact ih0 _ _)
      | (with_reducible exact ih1 _ _ _ _)
      | (with_reducible exact ih2 _ _ _ _ _ _)
      | (with_reducible exact ih3 _ _ _ _ _ _ _ _ _ _)
      | (with_reducible exact dossierlaw17_awake.mono _)
      | (with_reducible exact dossierref17_Next.mono _ _ _ _ _ _)
      | (with_reducible exact states_Next.mono _ _ _ _ _ _)
      | (with_reducible exact states_States.mono _ _ _ _)
      | (with_reducible exact LeO.refl _)
      | (with_reducible exact LeO.none _)
      | (with_reducible refine LeO.ite ?_ ?_)
      | (with_reducible refine LeO.bind ?_ (fun _ => ?_))
      | exact ih0 _ _
      | exact ih1 _ _ _ _
      | exact ih2 _ _ _ _ _ _
      | exact ih3 _ _ _ _ _ _ _ _ _ _
      | exact dossierlaw17_awake.mono _
      | exact dossierref17_Next.mono _ _ _ _ _ _
      | exact states_Next.mono _ _ _ _ _ _
      | exact states_States.mono _ _ _ _
      | exact LeO.none _
      | refine LeO.ite ?_ ?_
      | refine LeO.bind ?_ (fun _ => ?_)
set_option maxHeartbeats 8000000 in
set_option maxRecDepth 100000 in
theorem dossierlaw17_StatesAll.calls (k : Nat) (a0 : Int) (r : Bool) (w : World) (h : dossierlaw17_StatesAll.f k a0 = some r) :
    Calls Try.prog 5 #[.int .i64 a0] w fun e w' => e = .returned (.bool r) ∧ Below w.heap.size w w' := by
  have HB := Aside0.mk (Below.refl w.heap.size w)
  have H : (dossierlaw17_StatesAll.l0 k a0 0) = some r := h
  clear h
  have H' := Aside0.mk H
  clear H
  go_enter Try.func5, Try.ntmps5
  go_wp2
  go_loopg [12] k (fun kq v12 w' => ∃ (x12_1 : Int), v12 = .int .i64 x12_1 ∧ Aside0 (dossierlaw17_StatesAll.l0 kq a0 x12_1 = some r) ∧ Aside0 (kq ≤ k) ∧ Aside0 (Below w.heap.size w w'))
  case atStart => exact ⟨(0), (by first | rfl | (simp; done) | (simp [*]; done)), H', ⟨Nat.le_refl _⟩, ⟨by repeat (first | (with_reducible first | exact HB.out | apply below_alloc | apply pw_below_drewN | apply below_drew1) | exact HB.out)⟩⟩
  case round =>
    clear H'
    obtain ⟨x12_1, rfl, HA, HK1, HB⟩ := hrel
    cases gk with
    | zero => exact absurd HA.out (by simp [dossierlaw17_StatesAll.l0])
    | succ k1 =>
      have H := HA.out
      clear HA
      simp only [dossierlaw17_StatesAll.l0] at H
      by_cases c2 : x12_1 < 10
      · rw [if_pos c2] at H
        have c2b0 : decide (x12_1 < 10) = true := decide_eq_true c2
        clear c2
        have H' := Aside0.mk H
        clear H
        go_wp2
        go_loopg [15] k1 (fun kq v15 w' => ∃ (x15_2 : Int), v15 = .int .i64 x15_2 ∧ Aside0 (dossierlaw17_StatesAll.l1 kq a0 x12_1 x12_1 x15_2 = some r) ∧ Aside0 (kq ≤ k1) ∧ Aside0 (Below w.heap.size w w'))
        case atStart => exact ⟨(0), (by first | rfl | (simp; done) | (simp [*]; done)), H', ⟨Nat.le_refl _⟩, ⟨by repeat (first | (with_reducible first | exact HB.out | apply below_alloc | apply pw_below_drewN | apply below_drew1) | exact HB.out)⟩⟩
        case round =>
          clear H'
          try clear c2
          try clear c2b0
          try clear p2
          obtain ⟨x15_2, rfl, HA, HK2, HB⟩ := hrel
          cases gk with
          | zero => exact absurd HA.out (by simp [dossierlaw17_StatesAll.l1])
          | succ k2 =>
            have H := HA.out
            clear HA
            simp only [dossierlaw17_StatesAll.l1] at H
            by_cases c3 : x15_2 < 11
            · rw [if_pos c3] at H
              have c3b0 : decide (x15_2 < 11) = true := decide_eq_true c3
              clear c3
              have H' := Aside0.mk H
              clear H
              go_wp2
              go_loopg [18] k2 (fun kq v18 w' => ∃ (x18_3 : Int), v18 = .int .i64 x18_3 ∧ Aside0 (dossierlaw17_StatesAll.l2 kq a0 x12_1 x15_2 x12_1 x15_2 x18_3 = some r) ∧ Aside0 (kq ≤ k2) ∧ Aside0 (Below w.heap.size w w'))
              case atStart => exact ⟨(0), (by first | rfl | (simp; done) | (simp [*]; done)), H', ⟨Nat.le_refl _⟩, ⟨by repeat (first | (with_reducible first | exact HB.out | apply below_alloc | apply pw_below_drewN | apply below_drew1) | exact HB.out)⟩⟩
              case round =>
                clear H'
                try clear c2
                try clear c2b0
                try clear p2
                try clear c3
                try clear c3b0
                try clear p2
                obtain ⟨x18_3, rfl, HA, HK3, HB⟩ := hrel
                cases gk with
                | zero => exact absurd HA.out (by simp [dossierlaw17_StatesAll.l2])
                | succ k3 =>
                  have H := HA.out
                  clear HA
                  simp only [dossierlaw17_StatesAll.l2] at H
                  by_cases c4 : x18_3 < 20
                  · rw [if_pos c4] at H
                    have c4b0 : decide (x18_3 < 20) = true := decide_eq_true c4
                    clear c4
                    obtain ⟨y297, hy297⟩ : ∃ y_ : List Bool, y_ = (([false, true] : List Bool)) := ⟨_, rfl⟩
                    replace H : (dossierlaw17_StatesAll.l3 k3 a0 x12_1 x15_2 x18_3 x12_1 x15_2 x18_3 y297 (y297.length : Int) 0) = some r := by first | (rw [hy297]; with_reducible exact H) | (have H2_ := (Option.bind_some _ _).symm.trans H; rw [hy297]; with_reducible exact H2_) | (have H2_ := (Option.bind_some _ _).symm.trans H; with_reducible exact H2_) | with_reducible exact H | (rw [hy297]; exact H) | exact H
                    have Ny297 := Aside0.mk hy297
                    clear hy297
                    have H' := Aside0.mk H
                    clear H
                    go_wp2_with (first | ((with_reducible refine gate_dst (N := 21) rfl ?_); refine Kd.R_lit Kd.bool _ 4 ?hg (N := 21) ?hd (xs := ([false, true] : List Bool)) (inner := [.bool false, .bool true]) (ok := fun _ => True) (okp := fun _ => True) ?hr ?hp (fun _ hk => hk) trivial (Below.refl _ _) (Nat.le_refl _) (by simp) ?_; (case hd => rfl); (case hg => rfl); (case hr => first | (go_simp; done) | (go_simp; rfl)); (case hp => exact (Reps.one (show Kd.M Kd.bool _ _ _ false [.bool false] from rfl) (Reps.one (show Kd.M Kd.bool _ _ _ true [.bool true] from rfl) (Reps.none _ _)))); intro v298 w5 ho6 hb hg_ hnew_; clear hg_ hnew_; (first | rw [← Ny297.out] at ho6 | (simp only [Int.reduceToNat] at ho6; rw [← Ny297.out] at ho6)); have n0_ := Aside0.mk (Kd.R_lower ho6 (below_size (by repeat (first | (with_reducible first | exact HB.out | apply below_alloc | apply pw_below_drewN | apply below_drew1) | exact HB.out)))); have n1_ := Aside0.mk (below_step (by repeat (first | (with_reducible first | exact HB.out | apply below_alloc | apply pw_below_drewN | apply below_drew1) | exact HB.out)) hb); clear HB; have HO299 := n0_; have HB := n1_; clear n0_ n1_; clear hb ho6; obtain ⟨Ao7, co7, eo7⟩ := Kd.R_slice HO299.out; subst eo7))
                    go_loopg [23] k3 (fun kq v23 w' => ∃ (x23_4 : Int), v23 = .int .i64 x23_4 ∧ Aside0 (dossierlaw17_StatesAll.l3 kq a0 x12_1 x15_2 x18_3 x12_1 x15_2 x18_3 y297 (y297.length : Int) x23_4 = some r) ∧ Aside0 (kq ≤ k3) ∧ Aside0 (Kd.R Kd.bool 4 w' w.heap.size (fun _ => True) (.slice Ao7 y297.length co7) y297) ∧ Aside0 (Below w.heap.size w w'))
                    case atStart => exact ⟨(0), (by first | rfl | (simp; done) | (simp [*]; done)), H', ⟨Nat.le_refl _⟩, ⟨by (with_reducible repeat (first | apply Kd.R_alloc | apply Kd.R_drewN | apply Kd.R_drew)); exact HO299.out⟩, ⟨by repeat (first | (with_reducible first | exact HB.out | apply below_alloc | apply pw_below_drewN | apply below_drew1) | exact HB.out)⟩⟩
                    case round =>
                      clear H'
                      try clear c2
                      try clear c2b0
                      try clear p2
                      try clear c3
                      try clear c3b0
                      try clear c4
                      try clear c4b0
                      try clear c5
                      try clear p2
                      obtain ⟨x23_4, rfl, HA, HK4, HO_21, HB⟩ := hrel
                      cases gk with
                      | zero => exact absurd HA.out (by simp [dossierlaw17_StatesAll.l3])
                      | succ k4 =>
                        have H := HA.out
                        clear HA
                        simp only [dossierlaw17_StatesAll.l3] at H
                        by_cases c8 : x23_4 < (y297.length : Int)
                        · rw [if_pos c8] at H
                          have c8b0 : decide (x23_4 < (y297.length : Int)) = true := decide_eq_true c8
                          clear c8
                          by_cases c9 : 0 ≤ x23_4
                          · rw [if_pos c9] at H
                            have c9b0 : decide (0 ≤ x23_4) = true := decide_eq_true c9
                            clear c9
                            by_cases c10 : x23_4 < (y297.length : Int)
                            · rw [if_pos c10] at H
                              have c10b0 : decide (x23_4 < (y297.length : Int)) = true := decide_eq_true c10
                              clear c10
                              replace H := Option.bind_eq_some_iff.mp H
                              obtain ⟨⟨t301, t302⟩, A110, H⟩ := H
                              replace H : ((dossierref17_Next.f k4 x12_1 (rdOf false y297 x23_4) x15_2 a0 x18_3).bind fun bt303 => (if t301 = bt303.1 then (if (t302 != bt303.2) = true then (some false) else (if t302 = true then ((states_States.f k4 x12_1 (rdOf false y297 x23_4) t301).bind fun t305 => (if t305 = true then ((states_Final.f x15_2).bind fun t306 => (if t306 = true then (if x18_3 = 18 then (dossierlaw17_StatesAll.l3 k4 a0 x12_1 x15_2 x18_3 x12_1 x15_2 x18_3 y297 (y297.length : Int) (wrap64 (x23_4 + 1))) else (some false)) else (dossierlaw17_StatesAll.l3 k4 a0 x12_1 x15_2 x18_3 x12_1 x15_2 x18_3 y297 (y297.length : Int) (wrap64 (x23_4 + 1))))) else (some false))) else (dossierlaw17_StatesAll.l3 k4 a0 x12_1 x15_2 x18_3 x12_1 x15_2 x18_3 y297 (y297.length : Int) (wrap64 (x23_4 + 1))))) else (some false))) = some r := H
                              have A11 := Aside0.mk A110
                              clear A110
                              replace H := Option.bind_eq_some_iff.mp H
                              obtain ⟨⟨t303, t304⟩, A120, H⟩ := H
                              replace H : (if t301 = t303 then (if (t302 != t304) = true then (some false) else (if t302 = true then ((states_States.f k4 x12_1 (rdOf false y297 x23_4) t301).bind fun t305 => (if t305 = true then ((states_Final.f x15_2).bind fun t306 => (if t306 = true then (if x18_3 = 18 then (dossierlaw17_StatesAll.l3 k4 a0 x12_1 x15_2 x18_3 x12_1 x15_2 x18_3 y297 (y297.length : Int) (wrap64 (x23_4 + 1))) else (some false)) else (dossierlaw17_StatesAll.l3 k4 a0 x12_1 x15_2 x18_3 x12_1 x15_2 x18_3 y297 (y297.length : Int) (wrap64 (x23_4 + 1))))) else (some false))) else (dossierlaw17_StatesAll.l3 k4 a0 x12_1 x15_2 x18_3 x12_1 x15_2 x18_3 y297 (y297.length : Int) (wrap64 (x23_4 + 1))))) else (some false)) = some r := H
                              have A12 := Aside0.mk A120
                              clear A120
                              by_cases c13 : t301 = t303
                              · rw [if_pos c13] at H
                                have c13b0 : (t301 == t303) = true := beq_iff_eq.mpr c13
                                have c13b1 : (t301 != t303) = false := bne_eq_false_iff_eq.mpr c13
                                clear c13
                                by_cases c14 : (t302 != t304) = true
                                · rw [if_pos c14] at H
                                  have c14b0 : (t302 != t304) = true := c14
                                  (try (have c14b1 : decide (t302 = t304) = false := by simpa using c14))
                                  (try (have c14b2 : (t302 == t304) = false := by simpa using c14))
                                  (try (have c14b3 : ¬ (t302 = t304) := by simpa using c14))
                                  clear c14
                                  obtain rfl := Option.some.inj H
                                  have p300 : 0 ≤ (x23_4 : Int) := of_decide_eq_true (by first | (with_reducible assumption) | assumption)
                                  have q300 : x23_4 < (y297.length : Int) := of_decide_eq_true (by first | (with_reducible assumption) | assumption)
                                  obtain ⟨ad300, e300, hx300_0⟩ := Kd.at_bool (Kd.R_reads' HO_21.out).2.2 x23_4 p300 q300
                                  cases e300
                                  replace p300 := eq_true p300
                                  replace q300 := eq_true q300
                                  go_wp2_with (first | ((with_reducible refine gate_callee (f := 7) rfl ?_); refine goesL_ (some 33) rfl rfl Try.func7 (by kernel_rfl) rfl #[.int .i64 x12_1, .bool (rdOf false y297 x23_4), .int .i64 x15_2, .int .i64 a0, .int .i64 x18_3] rfl (by (try simp only [List.map_toArray, List.map_cons, List.map_nil]); first | done | rfl | (simp only [List.length_drop, List.length_take]; rfl)) ?_; (with_reducible refine (states_Next.calls k4 x12_1 (rdOf false y297 x23_4) x15_2 a0 x18_3 t301 t302 _ A11.out).mono ?_); rintro e w15 ⟨rfl, hb⟩; refine ⟨_, rfl, ?_⟩; have n0_ := Aside0.mk (Kd.R_below (by (with_reducible repeat (first | apply Kd.R_alloc | apply Kd.R_drewN | apply Kd.R_drew)); exact HO_21.out) hb); have n1_ := Aside0.mk (below_step (by repeat (first | (with_reducible first | exact HB.out | apply below_alloc | apply pw_below_drewN | apply below_drew1) | exact HB.out)) hb); clear HO_21; clear HB; have HO_21 := n0_; have HB := n1_; clear n0_ n1_; (try clear hb); (try clear hb2); (try clear hk); (try clear hi)) | ((with_reducible refine gate_callee (f := 8) rfl ?_); refine goesL_ (some 42) rfl rfl Try.func8 (by kernel_rfl) rfl #[.int .i64 x12_1, .bool (rdOf false y297 x23_4), .int .i64 x15_2, .int .i64 a0, .int .i64 x18_3] rfl (by (try simp only [List.map_toArray, List.map_cons, List.map_nil]); first | done | rfl | (simp only [List.length_drop, List.length_take]; rfl)) ?_; (with_reducible refine (dossierref17_Next.calls k4 x12_1 (rdOf false y297 x23_4) x15_2 a0 x18_3 t303 t304 _ A12.out).mono ?_); rintro e w16 ⟨rfl, hb⟩; refine ⟨_, rfl, ?_⟩; have n0_ := Aside0.mk (Kd.R_below (by (with_reducible repeat (first | apply Kd.R_alloc | apply Kd.R_drewN | apply Kd.R_drew)); exact HO_21.out) hb); have n1_ := Aside0.mk (below_step (by repeat (first | (with_reducible first | exact HB.out | apply below_alloc | apply pw_below_drewN | apply below_drew1) | exact HB.out)) hb); clear HO_21; clear HB; have HO_21 := n0_; have HB := n1_; clear n0_ n1_; (try clear hb); (try clear hb2); (try clear hk); (try clear hi)))
                                  go_ret
                                  exact ⟨by first | rfl | (simp [errW_none, errW_some] <;> rfl) | (simp [*, errW_none, errW_some] <;> rfl), by repeat (first | (with_reducible first | exact HB.out | apply below_alloc | apply pw_below_drewN | apply below_drew1) | exact HB.out)⟩
                                · rw [if_neg c14] at H
                                  have c14b0 : (t302 != t304) = false := by simpa using c14
                                  (try (have c14b1 : decide (t302 = t304) = true := by simpa using c14))
                                  (try (have c14b2 : (t302 == t304) = true := by simpa using c14))
                                  clear c14
                                  by_cases c17 : t302 = true
                                  · subst c17
                                    have H1 : ((states_States.f k4 x12_1 (rdOf false y297 x23_4) t301).bind fun t305 => (if t305 = true then ((states_Final.f x15_2).bind fun t306 => (if t306 = true then (if x18_3 = 18 then (dossierlaw17_StatesAll.l3 k4 a0 x12_1 x15_2 x18_3 x12_1 x15_2 x18_3 y297 (y297.length : Int) (wrap64 (x23_4 + 1))) else (some false)) else (dossierlaw17_StatesAll.l3 k4 a0 x12_1 x15_2 x18_3 x12_1 x15_2 x18_3 y297 (y297.length : Int) (wrap64 (x23_4 + 1))))) else (some false))) = some r := by rw [if_pos rfl] at H; exact H
                                    clear H
                                    have H := H1
                                    clear H1
                                    replace H := Option.bind_eq_some_iff.mp H
                                    obtain ⟨t305, A180, H⟩ := H
                                    replace H : (if t305 = true then ((states_Final.f x15_2).bind fun t306 => (if t306 = true then (if x18_3 = 18 then (dossierlaw17_StatesAll.l3 k4 a0 x12_1 x15_2 x18_3 x12_1 x15_2 x18_3 y297 (y297.length : Int) (wrap64 (x23_4 + 1))) else (some false)) else (dossierlaw17_StatesAll.l3 k4 a0 x12_1 x15_2 x18_3 x12_1 x15_2 x18_3 y297 (y297.length : Int) (wrap64 (x23_4 + 1))))) else (some false)) = some r := H
                                    have A18 := Aside0.mk A180
                                    clear A180
                                    by_cases c19 : t305 = true
                                    · subst c19
                                      have H1 : ((states_Final.f x15_2).bind fun t306 => (if t306 = true then (if x18_3 = 18 then (dossierlaw17_StatesAll.l3 k4 a0 x12_1 x15_2 x18_3 x12_1 x15_2 x18_3 y297 (y297.length : Int) (wrap64 (x23_4 + 1))) else (some false)) else (dossierlaw17_StatesAll.l3 k4 a0 x12_1 x15_2 x18_3 x12_1 x15_2 x18_3 y297 (y297.length : Int) (wrap64 (x23_4 + 1))))) = some r := by rw [if_pos rfl] at H; exact H
                                      clear H
                                      have H := H1
                                      clear H1
                                      replace H := Option.bind_eq_some_iff.mp H
                                      obtain ⟨t306, A200, H⟩ := H
                                      replace H : (if t306 = true then (if x18_3 = 18 then (dossierlaw17_StatesAll.l3 k4 a0 x12_1 x15_2 x18_3 x12_1 x15_2 x18_3 y297 (y297.length : Int) (wrap64 (x23_4 + 1))) else (some false)) else (dossierlaw17_StatesAll.l3 k4 a0 x12_1 x15_2 x18_3 x12_1 x15_2 x18_3 y297 (y297.length : Int) (wrap64 (x23_4 + 1)))) = some r := H
                                      have A20 := Aside0.mk A200
                                      clear A200
                                      by_cases c21 : t306 = true
                                      · subst c21
                                        have H1 : (if x18_3 = 18 then (dossierlaw17_StatesAll.l3 k4 a0 x12_1 x15_2 x18_3 x12_1 x15_2 x18_3 y297 (y297.length : Int) (wrap64 (x23_4 + 1))) else (some false)) = some r := by rw [if_pos rfl] at H; exact H
                                        clear H
                                        have H := H1
                                        clear H1
                                        by_cases c22 : x18_3 = 18
                                        · rw [if_pos c22] at H
                                          have c22b0 : (x18_3 == 18) = true := beq_iff_eq.mpr c22
                                          have c22b1 : (x18_3 != 18) = false := bne_eq_false_iff_eq.mpr c22
                                          clear c22
                                          have H' := Aside0.mk H
                                          clear H
                                          have p300 : 0 ≤ (x23_4 : Int) := of_decide_eq_true (by first | (with_reducible assumption) | assumption)
                                          have q300 : x23_4 < (y297.length : Int) := of_decide_eq_true (by first | (with_reducible assumption) | assumption)
                                          obtain ⟨ad300, e300, hx300_0⟩ := Kd.at_bool (Kd.R_reads' HO_21.out).2.2 x23_4 p300 q300
                                          cases e300
                                          replace p300 := eq_true p300
                                          replace q300 := eq_true q300
                                          go_wp2_with (first | ((with_reducible refine gate_callee (f := 7) rfl ?_); refine goesL_ (some 33) rfl rfl Try.func7 (by kernel_rfl) rfl #[.int .i64 x12_1, .bool (rdOf false y297 x23_4), .int .i64 x15_2, .int .i64 a0, .int .i64 x18_3] rfl (by (try simp only [List.map_toArray, List.map_cons, List.map_nil]); first | done | rfl | (simp only [List.length_drop, List.length_take]; rfl)) ?_; (with_reducible refine (states_Next.calls k4 x12_1 (rdOf false y297 x23_4) x15_2 a0 x18_3 t301 true _ A11.out).mono ?_); rintro e w23 ⟨rfl, hb⟩; refine ⟨_, rfl, ?_⟩; have n0_ := Aside0.mk (Kd.R_below (by (with_reducible repeat (first | apply Kd.R_alloc | apply Kd.R_drewN | apply Kd.R_drew)); exact HO_21.out) hb); have n1_ := Aside0.mk (below_step (by repeat (first | (with_reducible first | exact HB.out | apply below_alloc | apply pw_below_drewN | apply below_drew1) | exact HB.out)) hb); clear HO_21; clear HB; have HO_21 := n0_; have HB := n1_; clear n0_ n1_; (try clear hb); (try clear hb2); (try clear hk); (try clear hi)) | ((with_reducible refine gate_callee (f := 8) rfl ?_); refine goesL_ (some 42) rfl rfl Try.func8 (by kernel_rfl) rfl #[.int .i64 x12_1, .bool (rdOf false y297 x23_4), .int .i64 x15_2, .int .i64 a0, .int .i64 x18_3] rfl (by (try simp only [List.map_toArray, List.map_cons, List.map_nil]); first | done | rfl | (simp only [List.length_drop, List.length_take]; rfl)) ?_; (with_reducible refine (dossierref17_Next.calls k4 x12_1 (rdOf false y297 x23_4) x15_2 a0 x18_3 t303 t304 _ A12.out).mono ?_); rintro e w24 ⟨rfl, hb⟩; refine ⟨_, rfl, ?_⟩; have n0_ := Aside0.mk (Kd.R_below (by (with_reducible repeat (first | apply Kd.R_alloc | apply Kd.R_drewN | apply Kd.R_drew)); exact HO_21.out) hb); have n1_ := Aside0.mk (below_step (by repeat (first | (with_reducible first | exact HB.out | apply below_alloc | apply pw_below_drewN | apply below_drew1) | exact HB.out)) hb); clear HO_21; clear HB; have HO_21 := n0_; have HB := n1_; clear n0_ n1_; (try clear hb); (try clear hb2); (try clear hk); (try clear hi)) | (go_at_call 10; (with_reducible refine (states_States.calls k4 x12_1 (rdOf false y297 x23_4) t301 true _ A18.out).mono ?_); rintro e w25 ⟨rfl, hb⟩; have n0_ := Aside0.mk (Kd.R_below (by (with_reducible repeat (first | apply Kd.R_alloc | apply Kd.R_drewN | apply Kd.R_drew)); exact HO_21.out) hb); have n1_ := Aside0.mk (below_step (by repeat (first | (with_reducible first | exact HB.out | apply below_alloc | apply pw_below_drewN | apply below_drew1) | exact HB.out)) hb); clear HO_21; clear HB; have HO_21 := n0_; have HB := n1_; clear n0_ n1_; (try clear hb); (try clear hb2); (try clear hk); (try clear hi)) | (go_at_call 11; (with_reducible refine (states_Final.calls x15_2 true _ A20.out).mono ?_); rintro e w' ⟨rfl, ⟨nd, rfl⟩⟩))
                                          go_roundg k4
                                          case measure => have := HK1.out; have := HK2.out; have := HK3.out; have := HK4.out; omega
                                          case rel => exact ⟨(wrap64 (x23_4 + 1)), (by first | rfl | (simp; done) | (simp [*]; done)), H', ⟨by have := HK1.out; have := HK2.out; have := HK3.out; have := HK4.out; omega⟩, ⟨by (with_reducible repeat (first | apply Kd.R_alloc | apply Kd.R_drewN | apply Kd.R_drew)); exact HO_21.out⟩, ⟨by repeat (first | (with_reducible first | exact HB.out | apply below_alloc | apply pw_below_drewN | apply below_drew1) | exact HB.out)⟩⟩
                                        · rw [if_neg c22] at H
                                          have c22b0 : (x18_3 == 18) = false := beq_eq_false_iff_ne.mpr c22
                                          have c22b1 : (x18_3 != 18) = true := bne_iff_ne.mpr c22
                                          obtain rfl := Option.some.inj H
                                          have p300 : 0 ≤ (x23_4 : Int) := of_decide_eq_true (by first | (with_reducible assumption) | assumption)
                                          have q300 : x23_4 < (y297.length : Int) := of_decide_eq_true (by first | (with_reducible assumption) | assumption)
                                          obtain ⟨ad300, e300, hx300_0⟩ := Kd.at_bool (Kd.R_reads' HO_21.out).2.2 x23_4 p300 q300
                                          cases e300
                                          replace p300 := eq_true p300
                                          replace q300 := eq_true q300
                                          go_wp2_with (first | ((with_reducible refine gate_callee (f := 7) rfl ?_); refine goesL_ (some 33) rfl rfl Try.func7 (by kernel_rfl) rfl #[.int .i64 x12_1, .bool (rdOf false y297 x23_4), .int .i64 x15_2, .int .i64 a0, .int .i64 x18_3] rfl (by (try simp only [List.map_toArray, List.map_cons, List.map_nil]); first | done | rfl | (simp only [List.length_drop, List.length_take]; rfl)) ?_; (with_reducible refine (states_Next.calls k4 x12_1 (rdOf false y297 x23_4) x15_2 a0 x18_3 t301 true _ A11.out).mono ?_); rintro e w26 ⟨rfl, hb⟩; refine ⟨_, rfl, ?_⟩; have n0_ := Aside0.mk (Kd.R_below (by (with_reducible repeat (first | apply Kd.R_alloc | apply Kd.R_drewN | apply Kd.R_drew)); exact HO_21.out) hb); have n1_ := Aside0.mk (below_step (by repeat (first | (with_reducible first | exact HB.out | apply below_alloc | apply pw_below_drewN | apply below_drew1) | exact HB.out)) hb); clear HO_21; clear HB; have HO_21 := n0_; have HB := n1_; clear n0_ n1_; (try clear hb); (try clear hb2); (try clear hk); (try clear hi)) | ((with_reducible refine gate_callee (f := 8) rfl ?_); refine goesL_ (some 42) rfl rfl Try.func8 (by kernel_rfl) rfl #[.int .i64 x12_1, .bool (rdOf false y297 x23_4), .int .i64 x15_2, .int .i64 a0, .int .i64 x18_3] rfl (by (try simp only [List.map_toArray, List.map_cons, List.map_nil]); first | done | rfl | (simp only [List.length_drop, List.length_take]; rfl)) ?_; (with_reducible refine (dossierref17_Next.calls k4 x12_1 (rdOf false y297 x23_4) x15_2 a0 x18_3 t303 t304 _ A12.out).mono ?_); rintro e w27 ⟨rfl, hb⟩; refine ⟨_, rfl, ?_⟩; have n0_ := Aside0.mk (Kd.R_below (by (with_reducible repeat (first | apply Kd.R_alloc | apply Kd.R_drewN | apply Kd.R_drew)); exact HO_21.out) hb); have n1_ := Aside0.mk (below_step (by repeat (first | (with_reducible first | exact HB.out | apply below_alloc | apply pw_below_drewN | apply below_drew1) | exact HB.out)) hb); clear HO_21; clear HB; have HO_21 := n0_; have HB := n1_; clear n0_ n1_; (try clear hb); (try clear hb2); (try clear hk); (try clear hi)) | (go_at_call 10; (with_reducible refine (states_States.calls k4 x12_1 (rdOf false y297 x23_4) t301 true _ A18.out).mono ?_); rintro e w28 ⟨rfl, hb⟩; have n0_ := Aside0.mk (Kd.R_below (by (with_reducible repeat (first | apply Kd.R_alloc | apply Kd.R_drewN | apply Kd.R_drew)); exact HO_21.out) hb); have n1_ := Aside0.mk (below_step (by repeat (first | (with_reducible first | exact HB.out | apply below_alloc | apply pw_below_drewN | apply below_drew1) | exact HB.out)) hb); clear HO_21; clear HB; have HO_21 := n0_; have HB := n1_; clear n0_ n1_; (try clear hb); (try clear hb2); (try clear hk); (try clear hi)) | (go_at_call 11; (with_reducible refine (states_Final.calls x15_2 true _ A20.out).mono ?_); rintro e w' ⟨rfl, ⟨nd, rfl⟩⟩))
                                          go_ret
                                          exact ⟨by first | rfl | (simp [errW_none, errW_some] <;> rfl) | (simp [*, errW_none, errW_some] <;> rfl), by repeat (first | (with_reducible first | exact HB.out | apply below_alloc | apply pw_below_drewN | apply below_drew1) | exact HB.out)⟩
                                      · replace c21 := Bool.eq_false_iff.mpr c21
                                        subst c21
                                        have H1 : (dossierlaw17_StatesAll.l3 k4 a0 x12_1 x15_2 x18_3 x12_1 x15_2 x18_3 y297 (y297.length : Int) (wrap64 (x23_4 + 1))) = some r := by rw [if_neg (show ¬ (false = true) by decide)] at H; exact H
                                        clear H
                                        have H := H1
                                        clear H1
                                        have H' := Aside0.mk H
                                        clear H
                                        have p300 : 0 ≤ (x23_4 : Int) := of_decide_eq_true (by first | (with_reducible assumption) | assumption)
                                        have q300 : x23_4 < (y297.length : Int) := of_decide_eq_true (by first | (with_reducible assumption) | assumption)
                                        obtain ⟨ad300, e300, hx300_0⟩ := Kd.at_bool (Kd.R_reads' HO_21.out).2.2 x23_4 p300 q300
                                        cases e300
                                        replace p300 := eq_true p300
                                        replace q300 := eq_true q300
                                        go_wp2_with (first | ((with_reducible refine gate_callee (f := 7) rfl ?_); refine goesL_ (some 33) rfl rfl Try.func7 (by kernel_rfl) rfl #[.int .i64 x12_1, .bool (rdOf false y297 x23_4), .int .i64 x15_2, .int .i64 a0, .int .i64 x18_3] rfl (by (try simp only [List.map_toArray, List.map_cons, List.map_nil]); first | done | rfl | (simp only [List.length_drop, List.length_take]; rfl)) ?_; (with_reducible refine (states_Next.calls k4 x12_1 (rdOf false y297 x23_4) x15_2 a0 x18_3 t301 true _ A11.out).mono ?_); rintro e w29 ⟨rfl, hb⟩; refine ⟨_, rfl, ?_⟩; have n0_ := Aside0.mk (Kd.R_below (by (with_reducible repeat (first | apply Kd.R_alloc | apply Kd.R_drewN | apply Kd.R_drew)); exact HO_21.out) hb); have n1_ := Aside0.mk (below_step (by repeat (first | (with_reducible first | exact HB.out | apply below_alloc | apply pw_below_drewN | apply below_drew1) | exact HB.out)) hb); clear HO_21; clear HB; have HO_21 := n0_; have HB := n1_; clear n0_ n1_; (try clear hb); (try clear hb2); (try clear hk); (try clear hi)) | ((with_reducible refine gate_callee (f := 8) rfl ?_); refine goesL_ (some 42) rfl rfl Try.func8 (by kernel_rfl) rfl #[.int .i64 x12_1, .bool (rdOf false y297 x23_4), .int .i64 x15_2, .int .i64 a0, .int .i64 x18_3] rfl (by (try simp only [List.map_toArray, List.map_cons, List.map_nil]); first | done | rfl | (simp only [List.length_drop, List.length_take]; rfl)) ?_; (with_reducible refine (dossierref17_Next.calls k4 x12_1 (rdOf false y297 x23_4) x15_2 a0 x18_3 t303 t304 _ A12.out).mono ?_); rintro e w30 ⟨rfl, hb⟩; refine ⟨_, rfl, ?_⟩; have n0_ := Aside0.mk (Kd.R_below (by (with_reducible repeat (first | apply Kd.R_alloc | apply Kd.R_drewN | apply Kd.R_drew)); exact HO_21.out) hb); have n1_ := Aside0.mk (below_step (by repeat (first | (with_reducible first | exact HB.out | apply below_alloc | apply pw_below_drewN | apply below_drew1) | exact HB.out)) hb); clear HO_21; clear HB; have HO_21 := n0_; have HB := n1_; clear n0_ n1_; (try clear hb); (try clear hb2); (try clear hk); (try clear hi)) | (go_at_call 10; (with_reducible refine (states_States.calls k4 x12_1 (rdOf false y297 x23_4) t301 true _ A18.out).mono ?_); rintro e w31 ⟨rfl, hb⟩; have n0_ := Aside0.mk (Kd.R_below (by (with_reducible repeat (first | apply Kd.R_alloc | apply Kd.R_drewN | apply Kd.R_drew)); exact HO_21.out) hb); have n1_ := Aside0.mk (below_step (by repeat (first | (with_reducible first | exact HB.out | apply below_alloc | apply pw_below_drewN | apply below_drew1) | exact HB.out)) hb); clear HO_21; clear HB; have HO_21 := n0_; have HB := n1_; clear n0_ n1_; (try clear hb); (try clear hb2); (try clear hk); (try clear hi)) | (go_at_call 11; (with_reducible refine (states_Final.calls x15_2 false _ A20.out).mono ?_); rintro e w' ⟨rfl, ⟨nd, rfl⟩⟩))
                                        go_roundg k4
                                        case measure => have := HK1.out; have := HK2.out; have := HK3.out; have := HK4.out; omega
                                        case rel => exact ⟨(wrap64 (x23_4 + 1)), (by first | rfl | (simp; done) | (simp [*]; done)), H', ⟨by have := HK1.out; have := HK2.out; have := HK3.out; have := HK4.out; omega⟩, ⟨by (with_reducible repeat (first | apply Kd.R_alloc | apply Kd.R_drewN | apply Kd.R_drew)); exact HO_21.out⟩, ⟨by repeat (first | (with_reducible first | exact HB.out | apply below_alloc | apply pw_below_drewN | apply below_drew1) | exact HB.out)⟩⟩
                                    · replace c19 := Bool.eq_false_iff.mpr c19
                                      subst c19
                                      have H1 : (some false) = some r := by rw [if_neg (show ¬ (false = true) by decide)] at H; exact H
                                      clear H
                                      have H := H1
                                      clear H1
                                      obtain rfl := Option.some.inj H
                                      have p300 : 0 ≤ (x23_4 : Int) := of_decide_eq_true (by first | (with_reducible assumption) | assumption)
                                      have q300 : x23_4 < (y297.length : Int) := of_decide_eq_true (by first | (with_reducible assumption) | assumption)
                                      obtain ⟨ad300, e300, hx300_0⟩ := Kd.at_bool (Kd.R_reads' HO_21.out).2.2 x23_4 p300 q300
                                      cases e300
                                      replace p300 := eq_true p300
                                      replace q300 := eq_true q300
                                      go_wp2_with (first | ((with_reducible refine gate_callee (f := 7) rfl ?_); refine goesL_ (some 33) rfl rfl Try.func7 (by kernel_rfl) rfl #[.int .i64 x12_1, .bool (rdOf false y297 x23_4), .int .i64 x15_2, .int .i64 a0, .int .i64 x18_3] rfl (by (try simp only [List.map_toArray, List.map_cons, List.map_nil]); first | done | rfl | (simp only [List.length_drop, List.length_take]; rfl)) ?_; (with_reducible refine (states_Next.calls k4 x12_1 (rdOf false y297 x23_4) x15_2 a0 x18_3 t301 true _ A11.out).mono ?_); rintro e w32 ⟨rfl, hb⟩; refine ⟨_, rfl, ?_⟩; have n0_ := Aside0.mk (Kd.R_below (by (with_reducible repeat (first | apply Kd.R_alloc | apply Kd.R_drewN | apply Kd.R_drew)); exact HO_21.out) hb); have n1_ := Aside0.mk (below_step (by repeat (first | (with_reducible first | exact HB.out | apply below_alloc | apply pw_below_drewN | apply below_drew1) | exact HB.out)) hb); clear HO_21; clear HB; have HO_21 := n0_; have HB := n1_; clear n0_ n1_; (try clear hb); (try clear hb2); (try clear hk); (try clear hi)) | ((with_reducible refine gate_callee (f := 8) rfl ?_); refine goesL_ (some 42) rfl rfl Try.func8 (by kernel_rfl) rfl #[.int .i64 x12_1, .bool (rdOf false y297 x23_4), .int .i64 x15_2, .int .i64 a0, .int .i64 x18_3] rfl (by (try simp only [List.map_toArray, List.map_cons, List.map_nil]); first | done | rfl | (simp only [List.length_drop, List.length_take]; rfl)) ?_; (with_reducible refine (dossierref17_Next.calls k4 x12_1 (rdOf false y297 x23_4) x15_2 a0 x18_3 t303 t304 _ A12.out).mono ?_); rintro e w33 ⟨rfl, hb⟩; refine ⟨_, rfl, ?_⟩; have n0_ := Aside0.mk (Kd.R_below (by (with_reducible repeat (first | apply Kd.R_alloc | apply Kd.R_drewN | apply Kd.R_drew)); exact HO_21.out) hb); have n1_ := Aside0.mk (below_step (by repeat (first | (with_reducible first | exact HB.out | apply below_alloc | apply pw_below_drewN | apply below_drew1) | exact HB.out)) hb); clear HO_21; clear HB; have HO_21 := n0_; have HB := n1_; clear n0_ n1_; (try clear hb); (try clear hb2); (try clear hk); (try clear hi)) | (go_at_call 10; (with_reducible refine (states_States.calls k4 x12_1 (rdOf false y297 x23_4) t301 false _ A18.out).mono ?_); rintro e w34 ⟨rfl, hb⟩; have n0_ := Aside0.mk (Kd.R_below (by (with_reducible repeat (first | apply Kd.R_alloc | apply Kd.R_drewN | apply Kd.R_drew)); exact HO_21.out) hb); have n1_ := Aside0.mk (below_step (by repeat (first | (with_reducible first | exact HB.out | apply below_alloc | apply pw_below_drewN | apply below_drew1) | exact HB.out)) hb); clear HO_21; clear HB; have HO_21 := n0_; have HB := n1_; clear n0_ n1_; (try clear hb); (try clear hb2); (try clear hk); (try clear hi)))
                                      go_ret
                                      exact ⟨by first | rfl | (simp [errW_none, errW_some] <;> rfl) | (simp [*, errW_none, errW_some] <;> rfl), by repeat (first | (with_reducible first | exact HB.out | apply below_alloc | apply pw_below_drewN | apply below_drew1) | exact HB.out)⟩
                                  · replace c17 := Bool.eq_false_iff.mpr c17
                                    subst c17
                                    have H1 : (dossierlaw17_StatesAll.l3 k4 a0 x12_1 x15_2 x18_3 x12_1 x15_2 x18_3 y297 (y297.length : Int) (wrap64 (x23_4 + 1))) = some r := by rw [if_neg (show ¬ (false = true) by decide)] at H; exact H
                                    clear H
                                    have H := H1
                                    clear H1
                                    have H' := Aside0.mk H
                                    clear H
                                    have p300 : 0 ≤ (x23_4 : Int) := of_decide_eq_true (by first | (with_reducible assumption) | assumption)
                                    have q300 : x23_4 < (y297.length : Int) := of_decide_eq_true (by first | (with_reducible assumption) | assumption)
                                    obtain ⟨ad300, e300, hx300_0⟩ := Kd.at_bool (Kd.R_reads' HO_21.out).2.2 x23_4 p300 q300
                                    cases e300
                                    replace p300 := eq_true p300
                                    replace q300 := eq_true q300
                                    go_wp2_with (first | ((with_reducible refine gate_callee (f := 7) rfl ?_); refine goesL_ (some 33) rfl rfl Try.func7 (by kernel_rfl) rfl #[.int .i64 x12_1, .bool (rdOf false y297 x23_4), .int .i64 x15_2, .int .i64 a0, .int .i64 x18_3] rfl (by (try simp only [List.map_toArray, List.map_cons, List.map_nil]); first | done | rfl | (simp only [List.length_drop, List.length_take]; rfl)) ?_; (with_reducible refine (states_Next.calls k4 x12_1 (rdOf false y297 x23_4) x15_2 a0 x18_3 t301 false _ A11.out).mono ?_); rintro e w35 ⟨rfl, hb⟩; refine ⟨_, rfl, ?_⟩; have n0_ := Aside0.mk (Kd.R_below (by (with_reducible repeat (first | apply Kd.R_alloc | apply Kd.R_drewN | apply Kd.R_drew)); exact HO_21.out) hb); have n1_ := Aside0.mk (below_step (by repeat (first | (with_reducible first | exact HB.out | apply below_alloc | apply pw_below_drewN | apply below_drew1) | exact HB.out)) hb); clear HO_21; clear HB; have HO_21 := n0_; have HB := n1_; clear n0_ n1_; (try clear hb); (try clear hb2); (try clear hk); (try clear hi)) | ((with_reducible refine gate_callee (f := 8) rfl ?_); refine goesL_ (some 42) rfl rfl Try.func8 (by kernel_rfl) rfl #[.int .i64 x12_1, .bool (rdOf false y297 x23_4), .int .i64 x15_2, .int .i64 a0, .int .i64 x18_3] rfl (by (try simp only [List.map_toArray, List.map_cons, List.map_nil]); first | done | rfl | (simp only [List.length_drop, List.length_take]; rfl)) ?_; (with_reducible refine (dossierref17_Next.calls k4 x12_1 (rdOf false y297 x23_4) x15_2 a0 x18_3 t303 t304 _ A12.out).mono ?_); rintro e w36 ⟨rfl, hb⟩; refine ⟨_, rfl, ?_⟩; have n0_ := Aside0.mk (Kd.R_below (by (with_reducible repeat (first | apply Kd.R_alloc | apply Kd.R_drewN | apply Kd.R_drew)); exact HO_21.out) hb); have n1_ := Aside0.mk (below_step (by repeat (first | (with_reducible first | exact HB.out | apply below_alloc | apply pw_below_drewN | apply below_drew1) | exact HB.out)) hb); clear HO_21; clear HB; have HO_21 := n0_; have HB := n1_; clear n0_ n1_; (try clear hb); (try clear hb2); (try clear hk); (try clear hi)))
                                    go_roundg k4
                                    case measure => have := HK1.out; have := HK2.out; have := HK3.out; have := HK4.out; omega
                                    case rel => exact ⟨(wrap64 (x23_4 + 1)), (by first | rfl | (simp; done) | (simp [*]; done)), H', ⟨by have := HK1.out; have := HK2.out; have := HK3.out; have := HK4.out; omega⟩, ⟨by (with_reducible repeat (first | apply Kd.R_alloc | apply Kd.R_drewN | apply Kd.R_drew)); exact HO_21.out⟩, ⟨by repeat (first | (with_reducible first | exact HB.out | apply below_alloc | apply pw_below_drewN | apply below_drew1) | exact HB.out)⟩⟩
                              · rw [if_neg c13] at H
                                have c13b0 : (t301 == t303) = false := beq_eq_false_iff_ne.mpr c13
                                have c13b1 : (t301 != t303) = true := bne_iff_ne.mpr c13
                                obtain rfl := Option.some.inj H
                                have p300 : 0 ≤ (x23_4 : Int) := of_decide_eq_true (by first | (with_reducible assumption) | assumption)
                                have q300 : x23_4 < (y297.length : Int) := of_decide_eq_true (by first | (with_reducible assumption) | assumption)
                                obtain ⟨ad300, e300, hx300_0⟩ := Kd.at_bool (Kd.R_reads' HO_21.out).2.2 x23_4 p300 q300
                                cases e300
                                replace p300 := eq_true p300
                                replace q300 := eq_true q300
                                go_wp2_with (first | ((with_reducible refine gate_callee (f := 7) rfl ?_); refine goesL_ (some 33) rfl rfl Try.func7 (by kernel_rfl) rfl #[.int .i64 x12_1, .bool (rdOf false y297 x23_4), .int .i64 x15_2, .int .i64 a0, .int .i64 x18_3] rfl (by (try simp only [List.map_toArray, List.map_cons, List.map_nil]); first | done | rfl | (simp only [List.length_drop, List.length_take]; rfl)) ?_; (with_reducible refine (states_Next.calls k4 x12_1 (rdOf false y297 x23_4) x15_2 a0 x18_3 t301 t302 _ A11.out).mono ?_); rintro e w37 ⟨rfl, hb⟩; refine ⟨_, rfl, ?_⟩; have n0_ := Aside0.mk (Kd.R_below (by (with_reducible repeat (first | apply Kd.R_alloc | apply Kd.R_drewN | apply Kd.R_drew)); exact HO_21.out) hb); have n1_ := Aside0.mk (below_step (by repeat (first | (with_reducible first | exact HB.out | apply below_alloc | apply pw_below_drewN | apply below_drew1) | exact HB.out)) hb); clear HO_21; clear HB; have HO_21 := n0_; have HB := n1_; clear n0_ n1_; (try clear hb); (try clear hb2); (try clear hk); (try clear hi)) | ((with_reducible refine gate_callee (f := 8) rfl ?_); refine goesL_ (some 42) rfl rfl Try.func8 (by kernel_rfl) rfl #[.int .i64 x12_1, .bool (rdOf false y297 x23_4), .int .i64 x15_2, .int .i64 a0, .int .i64 x18_3] rfl (by (try simp only [List.map_toArray, List.map_cons, List.map_nil]); first | done | rfl | (simp only [List.length_drop, List.length_take]; rfl)) ?_; (with_reducible refine (dossierref17_Next.calls k4 x12_1 (rdOf false y297 x23_4) x15_2 a0 x18_3 t303 t304 _ A12.out).mono ?_); rintro e w38 ⟨rfl, hb⟩; refine ⟨_, rfl, ?_⟩; have n0_ := Aside0.mk (Kd.R_below (by (with_reducible repeat (first | apply Kd.R_alloc | apply Kd.R_drewN | apply Kd.R_drew)); exact HO_21.out) hb); have n1_ := Aside0.mk (below_step (by repeat (first | (with_reducible first | exact HB.out | apply below_alloc | apply pw_below_drewN | apply below_drew1) | exact HB.out)) hb); clear HO_21; clear HB; have HO_21 := n0_; have HB := n1_; clear n0_ n1_; (try clear hb); (try clear hb2); (try clear hk); (try clear hi)))
                                go_ret
                                exact ⟨by first | rfl | (simp [errW_none, errW_some] <;> rfl) | (simp [*, errW_none, errW_some] <;> rfl), by repeat (first | (with_reducible first | exact HB.out | apply below_alloc | apply pw_below_drewN | apply below_drew1) | exact HB.out)⟩
                            · rw [if_neg c10] at H
                              exact absurd H (by simp)
                          · rw [if_neg c9] at H
                            exact absurd H (by simp)
                        · rw [if_neg c8] at H
                          have c8b0 : decide (x23_4 < (y297.length : Int)) = false := decide_eq_false c8
                          clear c8
                          have H' := Aside0.mk H
                          clear H
                          go_wp2
                          go_roundg k4
                          case measure => have := HK1.out; have := HK2.out; have := HK3.out; have := HK4.out; omega
                          case rel => exact ⟨(wrap64 (x18_3 + 1)), (by first | rfl | (simp; done) | (simp [*]; done)), H', ⟨by have := HK1.out; have := HK2.out; have := HK3.out; have := HK4.out; omega⟩, ⟨by repeat (first | (with_reducible first | exact HB.out | apply below_alloc | apply pw_below_drewN | apply below_drew1) | exact HB.out)⟩⟩
                  · rw [if_neg c4] at H
                    have c4b0 : decide (x18_3 < 20) = false := decide_eq_false c4
                    clear c4
                    have H' := Aside0.mk H
                    clear H
                    go_wp2
                    go_roundg k3
                    case measure => have := HK1.out; have := HK2.out; have := HK3.out; omega
                    case rel => exact ⟨(wrap64 (x15_2 + 1)), (by first | rfl | (simp; done) | (simp [*]; done)), H', ⟨by have := HK1.out; have := HK2.out; have := HK3.out; omega⟩, ⟨by repeat (first | (with_reducible first | exact HB.out | apply below_alloc | apply pw_below_drewN | apply below_drew1) | exact HB.out)⟩⟩
            · rw [if_neg c3] at H
              have c3b0 : decide (x15_2 < 11) = false := decide_eq_false c3
              clear c3
              have H' := Aside0.mk H
              clear H
              go_wp2
              go_roundg k2
              case measure => have := HK1.out; have := HK2.out; omega
              case rel => exact ⟨(wrap64 (x12_1 + 1)), (by first | rfl | (simp; done) | (simp [*]; done)), H', ⟨by have := HK1.out; have := HK2.out; omega⟩, ⟨by repeat (first | (with_reducible first | exact HB.out | apply below_alloc | apply pw_below_drewN | apply below_drew1) | exact HB.out)⟩⟩
      · rw [if_neg c2] at H
        have c2b0 : decide (x12_1 < 10) = false := decide_eq_false c2
        clear c2
        replace H := Option.bind_eq_some_iff.mp H
        obtain ⟨t296, A390, H⟩ := H
        replace H : (some t296) = some r := H
        have A39 := Aside0.mk A390
        clear A390
        obtain rfl := Option.some.inj H
        go_wp2_with (first | ((with_reducible refine gate_callee (f := 9) rfl ?_); refine goesL_ (some 78) rfl rfl Try.func9 (by kernel_rfl) rfl #[] rfl (by (try simp only [List.map_toArray, List.map_cons, List.map_nil]); first | done | rfl | (simp only [List.length_drop, List.length_take]; rfl)) ?_; (with_reducible refine (dossierlaw17_awake.calls k1  t296 _ A39.out).mono ?_); rintro e w40 ⟨rfl, hb⟩; refine ⟨_, rfl, ?_⟩; have n0_ := Aside0.mk (below_step (by repeat (first | (with_reducible first | exact HB.out | apply below_alloc | apply pw_below_drewN | apply below_drew1) | exact HB.out)) hb); clear HB; have HB := n0_; clear n0_; (try clear hb); (try clear hb2); (try clear hk); (try clear hi)))
        go_ret
        exact ⟨by first | rfl | (simp [errW_none, errW_some] <;> rfl) | (simp [*, errW_none, errW_some] <;> rfl), by repeat (first | (with_reducible first | exact HB.out | apply below_alloc | apply pw_below_drewN | apply below_drew1) | exact HB.out)⟩

/-- THE ONE PURE STATEMENT of dossierlaw17_StatesAll: yours. -/
def dossierlaw17_StatesAll.Pure : Prop := ∀ (a0 : Int), (Lit.int .i64 a0).wf = true → ∃ k, dossierlaw17_StatesAll.f k a0 = some true
theorem dossierlaw17_StatesAll.walk (P : dossierlaw17_StatesAll.Pure) (a0 : Int) (w : World) (w0 : (Lit.int .i64 a0).wf = true) :
    Calls Try.prog 5 #[.int .i64 a0] w fun e w' => e = .returned (.bool true) ∧ Below w.heap.size w w' := by
  obtain ⟨k, h⟩ := P a0 w0
  refine (dossierlaw17_StatesAll.calls k a0 true w h).mono ?_
  rintro e w' ⟨rfl, hd⟩
  exact ⟨rfl, hd⟩

end Go.Proofs.Ytifgpigicgaadaa.PStatesAll
