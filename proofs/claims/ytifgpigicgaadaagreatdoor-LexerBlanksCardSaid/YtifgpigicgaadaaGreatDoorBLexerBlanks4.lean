/- Several texts in one, in their order. -/
import Derived.Test.YtifgpigicgaadaaGreatDoorBLexerBlanks2
import Derived.Test.YtifgpigicgaadaaGreatDoorBLexerBlanks3
section
namespace Go.Proofs.YtifgpigicgaadaaGreatDoor.Q
open Go.RowKit Go.Proofs.YtifgpigicgaadaaGreatDoorH Go.Proofs.YtifgpigicgaadaaGreatDoorW.PrintWords Go.Proofs.YtifgpigicgaadaaGreatDoorW.PrintLast Go.Proofs.YtifgpigicgaadaaGreatDoorW.PrintMore
attribute [local go_sem] max2_int min2_int max_two min_two max_three min_three max_four min_four
set_option linter.unusedVariables false
set_option linter.unusedSimpArgs false
section
/-! ### chars_Number: function 61 -/
mutual
def chars_Number.j0 : Nat → ByteArray → Bool → Option (Int × Int)
 | 0,_,_ => none
 | k + 1,x0,x4 => if x4 = true then (if 1 ≤ (x0.size : Int) then (chars_Number.j1 k x0 x4 (x0.extract 1 x0.size)) else (none)) else (chars_Number.j1 k x0 x4 x0)
def chars_Number.j1 : Nat → ByteArray → Bool → ByteArray → Option (Int × Int)
 | 0,_,_,_ => none
 | k + 1,x0,x4,x5 => if x5.toList = ([] : List UInt8) then (chars_Number.j2 k x4 x5 true) else (if 0 < (x5.size : Int) then (if (bt x5 0) = 48 then (chars_Number.j2 k x4 x5 (decide ((x0.size : Int) > 1))) else (chars_Number.j2 k x4 x5 false)) else (none))
def chars_Number.j2 : Nat → Bool → ByteArray → Bool → Option (Int × Int)
 | 0,_,_,_ => none
 | k + 1,x4,x5,x34 => if x34 = true then (some (0,5)) else (if x5.size < 140737488355328 then (chars_Number.l0 k x4 0 (decide ((x5.size : Int) > 19)) x5 (x5.size : Int) 0) else none)
def chars_Number.l0 : Nat → Bool → Int → Bool → ByteArray → Int → Int → Option (Int × Int)
 | 0,_,_,_,_,_,_ => none
 | k + 1,x4,x6,x7,x39,x40,x41 => if x41 < x40 then (if 0 ≤ x41 then (if x41 < (x39.size : Int) then (if (bt x39 x41) < 48 then (chars_Number.j4 k x4 x6 x7 (bt x39 x41) x39 x40 x41 true) else (chars_Number.j4 k x4 x6 x7 (bt x39 x41) x39 x40 x41 (decide ((bt x39 x41) > 57)))) else (none)) else (none)) else (if x4 = true then (chars_Number.j5 k x4 x6 x7 9223372036854775808) else (chars_Number.j5 k x4 x6 x7 (9223372036854775808 - 1)))
def chars_Number.j4 : Nat → Bool → Int → Bool → Int → ByteArray → Int → Int → Bool → Option (Int × Int)
 | 0,_,_,_,_,_,_,_,_ => none
 | k + 1,x4,x6,x7,x9,x39,x40,x41,x50 => if x50 = true then (some (0,5)) else (if x7 = true then (chars_Number.l0 k x4 x6 x7 x39 x40 (wrap64 (x41 + 1))) else (chars_Number.l0 k x4 (IntKind.u64.wrap ((IntKind.u64.wrap (10 * x6)) + ((x9 - 48) % 256))) x7 x39 x40 (wrap64 (x41 + 1))))
def chars_Number.j5 : Nat → Bool → Int → Bool → Int → Option (Int × Int)
 | 0,_,_,_,_ => none
 | k + 1,x4,x6,x7,x10 => if x7 = true then (chars_Number.j6 k x4 x6 true) else (chars_Number.j6 k x4 x6 (decide (x6 > x10)))
def chars_Number.j6 : Nat → Bool → Int → Bool → Option (Int × Int)
 | 0,_,_,_ => none
 | k + 1,x4,x6,x64 => if x64 = true then (some (0,4)) else (if x4 = true then (some (wrap64 (-(wrap64 (x6))),0)) else (some (wrap64 (x6),0)))
end
def chars_Number.f (k : Nat) (a0 : ByteArray) : Option (Int × Int) := if (a0.size : Int) > 0 then (if 0 < (a0.size : Int) then (chars_Number.j0 k a0 ((bt a0 0) == 45)) else (none)) else (chars_Number.j0 k a0 false)
theorem chars_Number.mono_l : ∀ k,(∀ y0 y1,LeO (chars_Number.j0 k y0 y1) (chars_Number.j0 (k + 1) y0 y1)) ∧ (∀ y0 y1 y2,LeO (chars_Number.j1 k y0 y1 y2) (chars_Number.j1 (k + 1) y0 y1 y2)) ∧ (∀ y0 y1 y2,LeO (chars_Number.j2 k y0 y1 y2) (chars_Number.j2 (k + 1) y0 y1 y2)) ∧ (∀ y0 y1 y2 y3 y4 y5,LeO (chars_Number.l0 k y0 y1 y2 y3 y4 y5) (chars_Number.l0 (k + 1) y0 y1 y2 y3 y4 y5)) ∧ (∀ y0 y1 y2 y3 y4 y5 y6 y7,LeO (chars_Number.j4 k y0 y1 y2 y3 y4 y5 y6 y7) (chars_Number.j4 (k + 1) y0 y1 y2 y3 y4 y5 y6 y7)) ∧ (∀ y0 y1 y2 y3,LeO (chars_Number.j5 k y0 y1 y2 y3) (chars_Number.j5 (k + 1) y0 y1 y2 y3)) ∧ (∀ y0 y1 y2,LeO (chars_Number.j6 k y0 y1 y2) (chars_Number.j6 (k + 1) y0 y1 y2))
 | 0 => ⟨fun _ _ r h => by simp [chars_Number.j0] at h,fun _ _ _ r h => by simp [chars_Number.j1] at h,fun _ _ _ r h => by simp [chars_Number.j2] at h,fun _ _ _ _ _ _ r h => by simp [chars_Number.l0] at h,fun _ _ _ _ _ _ _ _ r h => by simp [chars_Number.j4] at h,fun _ _ _ _ r h => by simp [chars_Number.j5] at h,fun _ _ _ r h => by simp [chars_Number.j6] at h⟩
 | k + 1 => by
  obtain ⟨ih0,ih1,ih2,ih3,ih4,ih5,ih6⟩ := chars_Number.mono_l k
  refine ⟨?_,?_,?_,?_,?_,?_,?_⟩
  · intro y0 y1
    unfold chars_Number.j0
    repeat' first
    | (with_reducible exact ih0 _ _)
    | (with_reducible exact ih1 _ _ _)
    | (with_reducible exact ih2 _ _ _)
    | (with_reducible exact ih3 _ _ _ _ _ _)
    | (with_reducible exact ih4 _ _ _ _ _ _ _ _)
    | (with_reducible exact ih5 _ _ _ _)
    | (with_reducible exact ih6 _ _ _)
    | (with_reducible exact LeO.refl _)
    | (with_reducible exact LeO.none _)
    | (with_reducible refine LeO.ite ?_ ?_)
    | (with_reducible refine LeO.bind ?_ (fun _ => ?_))
    | exact ih0 _ _
    | exact ih1 _ _ _
    | exact ih2 _ _ _
    | exact ih3 _ _ _ _ _ _
    | exact ih4 _ _ _ _ _ _ _ _
    | exact ih5 _ _ _ _
    | exact ih6 _ _ _
    | exact LeO.none _
    | refine LeO.ite ?_ ?_
    | refine LeO.bind ?_ (fun _ => ?_)
  · intro y0 y1 y2
    unfold chars_Number.j1
    repeat' first
    | (with_reducible exact ih0 _ _)
    | (with_reducible exact ih1 _ _ _)
    | (with_reducible exact ih2 _ _ _)
    | (with_reducible exact ih3 _ _ _ _ _ _)
    | (with_reducible exact ih4 _ _ _ _ _ _ _ _)
    | (with_reducible exact ih5 _ _ _ _)
    | (with_reducible exact ih6 _ _ _)
    | (with_reducible exact LeO.refl _)
    | (with_reducible exact LeO.none _)
    | (with_reducible refine LeO.ite ?_ ?_)
    | (with_reducible refine LeO.bind ?_ (fun _ => ?_))
    | exact ih0 _ _
    | exact ih1 _ _ _
    | exact ih2 _ _ _
    | exact ih3 _ _ _ _ _ _
    | exact ih4 _ _ _ _ _ _ _ _
    | exact ih5 _ _ _ _
    | exact ih6 _ _ _
    | exact LeO.none _
    | refine LeO.ite ?_ ?_
    | refine LeO.bind ?_ (fun _ => ?_)
  · intro y0 y1 y2
    unfold chars_Number.j2
    repeat' first
    | (with_reducible exact ih0 _ _)
    | (with_reducible exact ih1 _ _ _)
    | (with_reducible exact ih2 _ _ _)
    | (with_reducible exact ih3 _ _ _ _ _ _)
    | (with_reducible exact ih4 _ _ _ _ _ _ _ _)
    | (with_reducible exact ih5 _ _ _ _)
    | (with_reducible exact ih6 _ _ _)
    | (with_reducible exact LeO.refl _)
    | (with_reducible exact LeO.none _)
    | (with_reducible refine LeO.ite ?_ ?_)
    | (with_reducible refine LeO.bind ?_ (fun _ => ?_))
    | exact ih0 _ _
    | exact ih1 _ _ _
    | exact ih2 _ _ _
    | exact ih3 _ _ _ _ _ _
    | exact ih4 _ _ _ _ _ _ _ _
    | exact ih5 _ _ _ _
    | exact ih6 _ _ _
    | exact LeO.none _
    | refine LeO.ite ?_ ?_
    | refine LeO.bind ?_ (fun _ => ?_)
  · intro y0 y1 y2 y3 y4 y5
    unfold chars_Number.l0
    repeat' first
    | (with_reducible exact ih0 _ _)
    | (with_reducible exact ih1 _ _ _)
    | (with_reducible exact ih2 _ _ _)
    | (with_reducible exact ih3 _ _ _ _ _ _)
    | (with_reducible exact ih4 _ _ _ _ _ _ _ _)
    | (with_reducible exact ih5 _ _ _ _)
    | (with_reducible exact ih6 _ _ _)
    | (with_reducible exact LeO.refl _)
    | (with_reducible exact LeO.none _)
    | (with_reducible refine LeO.ite ?_ ?_)
    | (with_reducible refine LeO.bind ?_ (fun _ => ?_))
    | exact ih0 _ _
    | exact ih1 _ _ _
    | exact ih2 _ _ _
    | exact ih3 _ _ _ _ _ _
    | exact ih4 _ _ _ _ _ _ _ _
    | exact ih5 _ _ _ _
    | exact ih6 _ _ _
    | exact LeO.none _
    | refine LeO.ite ?_ ?_
    | refine LeO.bind ?_ (fun _ => ?_)
  · intro y0 y1 y2 y3 y4 y5 y6 y7
    unfold chars_Number.j4
    repeat' first
    | (with_reducible exact ih0 _ _)
    | (with_reducible exact ih1 _ _ _)
    | (with_reducible exact ih2 _ _ _)
    | (with_reducible exact ih3 _ _ _ _ _ _)
    | (with_reducible exact ih4 _ _ _ _ _ _ _ _)
    | (with_reducible exact ih5 _ _ _ _)
    | (with_reducible exact ih6 _ _ _)
    | (with_reducible exact LeO.refl _)
    | (with_reducible exact LeO.none _)
    | (with_reducible refine LeO.ite ?_ ?_)
    | (with_reducible refine LeO.bind ?_ (fun _ => ?_))
    | exact ih0 _ _
    | exact ih1 _ _ _
    | exact ih2 _ _ _
    | exact ih3 _ _ _ _ _ _
    | exact ih4 _ _ _ _ _ _ _ _
    | exact ih5 _ _ _ _
    | exact ih6 _ _ _
    | exact LeO.none _
    | refine LeO.ite ?_ ?_
    | refine LeO.bind ?_ (fun _ => ?_)
  · intro y0 y1 y2 y3
    unfold chars_Number.j5
    repeat' first
    | (with_reducible exact ih0 _ _)
    | (with_reducible exact ih1 _ _ _)
    | (with_reducible exact ih2 _ _ _)
    | (with_reducible exact ih3 _ _ _ _ _ _)
    | (with_reducible exact ih4 _ _ _ _ _ _ _ _)
    | (with_reducible exact ih5 _ _ _ _)
    | (with_reducible exact ih6 _ _ _)
    | (with_reducible exact LeO.refl _)
    | (with_reducible exact LeO.none _)
    | (with_reducible refine LeO.ite ?_ ?_)
    | (with_reducible refine LeO.bind ?_ (fun _ => ?_))
    | exact ih0 _ _
    | exact ih1 _ _ _
    | exact ih2 _ _ _
    | exact ih3 _ _ _ _ _ _
    | exact ih4 _ _ _ _ _ _ _ _
    | exact ih5 _ _ _ _
    | exact ih6 _ _ _
    | exact LeO.none _
    | refine LeO.ite ?_ ?_
    | refine LeO.bind ?_ (fun _ => ?_)
  · intro y0 y1 y2
    unfold chars_Number.j6
    repeat' first
    | (with_reducible exact ih0 _ _)
    | (with_reducible exact ih1 _ _ _)
    | (with_reducible exact ih2 _ _ _)
    | (with_reducible exact ih3 _ _ _ _ _ _)
    | (with_reducible exact ih4 _ _ _ _ _ _ _ _)
    | (with_reducible exact ih5 _ _ _ _)
    | (with_reducible exact ih6 _ _ _)
    | (with_reducible exact LeO.refl _)
    | (with_reducible exact LeO.none _)
    | (with_reducible refine LeO.ite ?_ ?_)
    | (with_reducible refine LeO.bind ?_ (fun _ => ?_))
    | exact ih0 _ _
    | exact ih1 _ _ _
    | exact ih2 _ _ _
    | exact ih3 _ _ _ _ _ _
    | exact ih4 _ _ _ _ _ _ _ _
    | exact ih5 _ _ _ _
    | exact ih6 _ _ _
    | exact LeO.none _
    | refine LeO.ite ?_ ?_
    | refine LeO.bind ?_ (fun _ => ?_)
theorem chars_Number.mono : ∀ a0 k,LeO (chars_Number.f k a0) (chars_Number.f (k + 1) a0) := by
 intro a0 k
 obtain ⟨ih0,ih1,ih2,ih3,ih4,ih5,ih6⟩ := chars_Number.mono_l k
 unfold chars_Number.f
 repeat' first
  | (with_reducible exact ih0 _ _)
  | (with_reducible exact ih1 _ _ _)
  | (with_reducible exact ih2 _ _ _)
  | (with_reducible exact ih3 _ _ _ _ _ _)
  | (with_reducible exact ih4 _ _ _ _ _ _ _ _)
  | (with_reducible exact ih5 _ _ _ _)
  | (with_reducible exact ih6 _ _ _)
  | (with_reducible exact LeO.refl _)
  | (with_reducible exact LeO.none _)
  | (with_reducible refine LeO.ite ?_ ?_)
  | (with_reducible refine LeO.bind ?_ (fun _ => ?_))
  | exact ih0 _ _
  | exact ih1 _ _ _
  | exact ih2 _ _ _
  | exact ih3 _ _ _ _ _ _
  | exact ih4 _ _ _ _ _ _ _ _
  | exact ih5 _ _ _ _
  | exact ih6 _ _ _
  | exact LeO.none _
  | refine LeO.ite ?_ ?_
  | refine LeO.bind ?_ (fun _ => ?_)
set_option maxHeartbeats 8000000 in
set_option maxRecDepth 100000 in
theorem chars_Number.calls (k : Nat) (a0 : ByteArray) (r1 : Int) (r2 : Int) (w : World) (h : chars_Number.f k a0 = some (r1,r2)) :
 Calls Tryz.prog 61 #[.string a0] w fun e w' => e = .returned (.tuple #[.int .i64 r1,.int .i64 r2]) ∧ Below w.heap.size w w' := by
 have H : (if (a0.size : Int) > 0 then (if 0 < (a0.size : Int) then (chars_Number.j0 k a0 ((bt a0 0) == 45)) else (none)) else (chars_Number.j0 k a0 false)) = some (r1,r2) := h
 clear h
 have HC2 := Aside0.mk H
 clear H
 go_enter Tryz.func61,Tryz.ntmps61
 go_upto_region 1 with (fail)
 go_cut [4] (fun v4 wc => ∃ (kq : Nat) (x4_1 : Bool),v4 = .bool x4_1 ∧ Aside0 (chars_Number.j0 kq a0 x4_1 = some (r1,r2)) ∧ Aside0 (kq ≤ k) ∧ Drawn0 w wc)
 case first =>
  have H := HC2.out
  clear HC2
  by_cases c3 : (a0.size : Int) > 0
  · rw [if_pos c3] at H
    have c3b0 : decide (0 < (a0.size : Int)) = true := decide_eq_true c3
    have c3b1 : decide (0 < a0.size) = true := decide_eq_true (by omega)
    clear c3
    (first | rw [c3b0] | (simp only [i64_w,i32_w]; rw [c3b0]) | skip)
    by_cases c4 : 0 < (a0.size : Int)
    · rw [if_pos c4] at H
      have c4b0 : decide (0 < (a0.size : Int)) = true := decide_eq_true c4
      have c4b1 : decide (0 < a0.size) = true := decide_eq_true (by omega)
      clear c4
      have H' := Aside0.mk H
      clear H
      have p5 : 0 ≤ (0 : Int) := (by omega)
      have q5 : 0 < a0.size := (by have : (0 : Int) < (a0.size : Int) := of_decide_eq_true (by first | (with_reducible assumption) | assumption); omega)
      have hx5 : ∀ h : 0 < a0.size,((a0[0]'h).toNat : Int) = bt a0 0 := bt_at a0 0
      clear p5
      have qi5 : (0 < (a0.size : Int)) = True := eq_true (of_decide_eq_true (by first | (with_reducible assumption) | assumption))
      replace q5 := eq_true q5
      go_wp2
      go_meet
      case rel => exact ⟨_,(((bt a0 0) == 45)),(by first | rfl | (simp; done) | (simp [*]; done)),H',⟨by first | omega | exact Nat.le_refl _⟩,by repeat (first | exact Drawn0.refl _ | apply Drawn0.step)⟩
    · rw [if_neg c4] at H
      exact absurd H (by simp)
  · rw [if_neg c3] at H
    have c3b0 : decide (0 < (a0.size : Int)) = false := decide_eq_false c3
    have c3b1 : decide (0 < a0.size) = false := decide_eq_false (by omega)
    clear c3
    (first | rw [c3b0] | (simp only [i64_w,i32_w]; rw [c3b0]) | skip)
    have H' := Aside0.mk H
    clear H
    go_wp2
    go_meet
    case rel => exact ⟨_,(false),(by first | rfl | (simp; done) | (simp [*]; done)),H',⟨by first | omega | exact Nat.le_refl _⟩,by repeat (first | exact Drawn0.refl _ | apply Drawn0.step)⟩
 case rest =>
  clear HC2
  try clear p2
  try clear c3
  try clear c3b0
  try clear c3b1
  try clear c4
  try clear c4b0
  try clear c4b1
  try clear c5
  try clear p5
  try clear q5
  try clear hx5
  try clear qi5
  try clear p5
  try clear q5
  obtain ⟨kq,x4_1,rfl,HA,HJ1,⟨mc1,rfl⟩⟩ := hcut
  cases kq with
  | zero => exact absurd HA.out (by simp [chars_Number.j0])
  | succ kj1 =>
   have H := HA.out
   clear HA
   simp only [chars_Number.j0] at H
   have HC6 := Aside0.mk H
   clear H
   go_upto_if 20 with (fail)
   go_cut [5] (fun v5 wc => ∃ (kq : Nat) (x5_5 : ByteArray),v5 = .string x5_5 ∧ Aside0 (chars_Number.j1 kq a0 x4_1 x5_5 = some (r1,r2)) ∧ Aside0 (kq ≤ kj1) ∧ Drawn0 w wc)
   case first =>
    have H := HC6.out
    clear HC6
    by_cases c7 : x4_1 = true
    · subst c7
      have H1 : (if 1 ≤ (a0.size : Int) then (chars_Number.j1 kj1 a0 true (a0.extract 1 a0.size)) else (none)) = some (r1,r2) := by rw [if_pos rfl] at H; exact H
      clear H
      have H := H1
      clear H1
      by_cases c8 : 1 ≤ (a0.size : Int)
      · rw [if_pos c8] at H
        have c8b0 := eq_true c8
        have c8b1 : decide (1 ≤ (a0.size : Int)) = true := decide_eq_true c8
        clear c8
        have H' := Aside0.mk H
        clear H
        go_wp2
        go_meet
        case rel => exact ⟨_,(a0.extract 1 a0.size),(by first | rfl | (simp; done) | (simp [*]; done)),H',⟨by have := HJ1.out; first | omega | exact Nat.le_refl _⟩,by repeat (first | exact Drawn0.refl _ | apply Drawn0.step)⟩
      · rw [if_neg c8] at H
        exact absurd H (by simp)
    · replace c7 := Bool.eq_false_iff.mpr c7
      subst c7
      have H1 : (chars_Number.j1 kj1 a0 false a0) = some (r1,r2) := by rw [if_neg (show ¬ (false = true) by decide)] at H; exact H
      clear H
      have H := H1
      clear H1
      have H' := Aside0.mk H
      clear H
      go_wp2
      go_meet
      case rel => exact ⟨_,(a0),(by first | rfl | (simp; done) | (simp [*]; done)),H',⟨by have := HJ1.out; first | omega | exact Nat.le_refl _⟩,by repeat (first | exact Drawn0.refl _ | apply Drawn0.step)⟩
   case rest =>
    clear HC6
    try clear c1
    try clear p2
    try clear c3
    try clear c3b0
    try clear c3b1
    try clear c4
    try clear c4b0
    try clear c4b1
    try clear c5
    try clear p5
    try clear q5
    try clear hx5
    try clear qi5
    try clear c7
    try clear c8
    try clear c8b0
    try clear c8b1
    try clear p2
    try clear p5
    try clear q5
    obtain ⟨kq,x5_5,rfl,HA,HJ5,⟨mc5,rfl⟩⟩ := hcut
    cases kq with
    | zero => exact absurd HA.out (by simp [chars_Number.j1])
    | succ kj5 =>
     have H := HA.out
     clear HA
     simp only [chars_Number.j1] at H
     have HC9 := Aside0.mk H
     clear H
     go_upto_region 5 with (fail)
     go_cut [34] (fun v34 wc => ∃ (kq : Nat) (x34_8 : Bool),v34 = .bool x34_8 ∧ Aside0 (chars_Number.j2 kq x4_1 x5_5 x34_8 = some (r1,r2)) ∧ Aside0 (kq ≤ kj5) ∧ Drawn0 w wc)
     case first =>
      have H := HC9.out
      clear HC9
      by_cases c10 : x5_5.toList = ([] : List UInt8)
      · rw [if_pos c10] at H
        have c10b0 : (x5_5.toList == ([] : List UInt8)) = true := beq_iff_eq.mpr c10
        have c10b1 : (x5_5.toList != ([] : List UInt8)) = false := bne_eq_false_iff_eq.mpr c10
        clear c10
        (first | rw [c10b0] | (simp only [i64_w,i32_w]; rw [c10b0]) | skip)
        have H' := Aside0.mk H
        clear H
        go_wp2
        go_meet
        case rel => exact ⟨_,(true),(by first | rfl | (simp; done) | (simp [*]; done)),H',⟨by have := HJ1.out; have := HJ5.out; first | omega | exact Nat.le_refl _⟩,by repeat (first | exact Drawn0.refl _ | apply Drawn0.step)⟩
      · rw [if_neg c10] at H
        have c10b0 : (x5_5.toList == ([] : List UInt8)) = false := beq_eq_false_iff_ne.mpr c10
        have c10b1 : (x5_5.toList != ([] : List UInt8)) = true := bne_iff_ne.mpr c10
        (first | rw [c10b0] | (simp only [i64_w,i32_w]; rw [c10b0]) | skip)
        by_cases c11 : 0 < (x5_5.size : Int)
        · rw [if_pos c11] at H
          have c11b0 : decide (0 < (x5_5.size : Int)) = true := decide_eq_true c11
          have c11b1 : decide (0 < x5_5.size) = true := decide_eq_true (by omega)
          clear c11
          by_cases c13 : (bt x5_5 0) = 48
          · rw [if_pos c13] at H
            have c13b0 : ((bt x5_5 0) == 48) = true := beq_iff_eq.mpr c13
            have c13b1 : ((bt x5_5 0) != 48) = false := bne_eq_false_iff_eq.mpr c13
            clear c13
            have H' := Aside0.mk H
            clear H
            have p12 : 0 ≤ (0 : Int) := (by omega)
            have q12 : 0 < x5_5.size := (by have : (0 : Int) < (x5_5.size : Int) := of_decide_eq_true (by first | (with_reducible assumption) | assumption); omega)
            have hx12 : ∀ h : 0 < x5_5.size,((x5_5[0]'h).toNat : Int) = bt x5_5 0 := bt_at x5_5 0
            clear p12
            have qi12 : (0 < (x5_5.size : Int)) = True := eq_true (of_decide_eq_true (by first | (with_reducible assumption) | assumption))
            replace q12 := eq_true q12
            go_wp2
            go_meet
            case rel => exact ⟨_,(decide ((a0.size : Int) > 1)),(by first | rfl | (simp; done) | (simp [*]; done)),H',⟨by have := HJ1.out; have := HJ5.out; first | omega | exact Nat.le_refl _⟩,by repeat (first | exact Drawn0.refl _ | apply Drawn0.step)⟩
          · rw [if_neg c13] at H
            have c13b0 : ((bt x5_5 0) == 48) = false := beq_eq_false_iff_ne.mpr c13
            have c13b1 : ((bt x5_5 0) != 48) = true := bne_iff_ne.mpr c13
            have H' := Aside0.mk H
            clear H
            have p12 : 0 ≤ (0 : Int) := (by omega)
            have q12 : 0 < x5_5.size := (by have : (0 : Int) < (x5_5.size : Int) := of_decide_eq_true (by first | (with_reducible assumption) | assumption); omega)
            have hx12 : ∀ h : 0 < x5_5.size,((x5_5[0]'h).toNat : Int) = bt x5_5 0 := bt_at x5_5 0
            clear p12
            have qi12 : (0 < (x5_5.size : Int)) = True := eq_true (of_decide_eq_true (by first | (with_reducible assumption) | assumption))
            replace q12 := eq_true q12
            go_wp2
            go_meet
            case rel => exact ⟨_,(false),(by first | rfl | (simp; done) | (simp [*]; done)),H',⟨by have := HJ1.out; have := HJ5.out; first | omega | exact Nat.le_refl _⟩,by repeat (first | exact Drawn0.refl _ | apply Drawn0.step)⟩
        · rw [if_neg c11] at H
          exact absurd H (by simp)
     case rest =>
      clear HC9
      try clear c1
      try clear p1
      try clear q1
      try clear hx1
      try clear qi1
      try clear p2
      try clear c3
      try clear c3b0
      try clear c3b1
      try clear c4
      try clear c4b0
      try clear c4b1
      try clear c5
      try clear p5
      try clear q5
      try clear hx5
      try clear qi5
      try clear c7
      try clear c8
      try clear c8b0
      try clear c8b1
      try clear c10
      try clear c10b0
      try clear c10b1
      try clear c11
      try clear c11b0
      try clear c11b1
      try clear p12
      try clear q12
      try clear hx12
      try clear qi12
      try clear c13
      try clear c13b0
      try clear c13b1
      try clear p12
      try clear p2
      try clear p5
      try clear q12
      try clear q5
      obtain ⟨kq,x34_8,rfl,HA,HJ8,HD8⟩ := hcut
      obtain ⟨W0,rfl⟩ : ∃ W0 : World,W0 = wc := ⟨_,rfl⟩
      cases kq with
      | zero => exact absurd HA.out (by simp [chars_Number.j2])
      | succ kj8 =>
       have H := HA.out
       clear HA
       simp only [chars_Number.j2] at H
       by_cases c14 : x34_8 = true
       · subst c14
         have H1 : (some (0,5)) = some (r1,r2) := by rw [if_pos rfl] at H; exact H
         clear H
         have H := H1
         clear H1
         simp only [Option.some.injEq,Prod.mk.injEq] at H
         obtain ⟨rfl,rfl⟩ := H
         go_wp2
         go_ret2
         exact ⟨by first | rfl | (simp; done) | (simp [*]; done),Drawn0.below (by repeat (first | exact HD8 | exact Drawn0.refl _ | apply Drawn0.step))⟩
       · replace c14 := Bool.eq_false_iff.mpr c14
         subst c14
         have hlim : x5_5.size < 140737488355328 := by
          by_cases hl : x5_5.size < 140737488355328
          · exact hl
          · rw [if_neg (show ¬ (false = true) by decide),if_neg hl] at H; cases H
         have H1 : (chars_Number.l0 kj8 x4_1 0 (decide ((x5_5.size : Int) > 19)) x5_5 (x5_5.size : Int) 0) = some (r1,r2) := by rw [if_neg (show ¬ (false = true) by decide),if_pos hlim] at H; exact H
         clear H
         have H := H1
         clear H1
         have H' := Aside0.mk H
         clear H
         have kb := fun W => print_bytes (P := Tryz.prog) 9 24 5 Tryz.underlying9 Tryz.underlying24 Tryz.underlying5 x5_5 W
         have HWB : ∀ w',Drawn0 (Lib.bytesWorld W0 5 x5_5) w' → Below w.heap.size w w' := fun w' hd => by
          obtain ⟨m,rfl⟩ := hd
          exact pw_below_drewN (bytes_below HD8.below (below_size HD8.below) 5 x5_5) m
         have HCB := C_bytes_new W0 5 x5_5 _ rfl hlim
         go_wp2
         generalize hfar : decide ((x5_5.size : Int) > 19) = far at H' ⊢
         go_loopg [6,41] kj8 (fun kq v6 v41 w' => ∃ (x6_4 : Int) (x41_4 : Int),v6 = .int .u64 x6_4 ∧ v41 = .int .i64 x41_4 ∧ Aside0 (chars_Number.l0 kq x4_1 x6_4 far x5_5 (x5_5.size : Int) x41_4 = some (r1,r2)) ∧ Aside0 (kq ≤ kj8) ∧ Drawn0 (Lib.bytesWorld W0 5 x5_5) w')
         case atStart => exact ⟨(0),(0),(by first | rfl | (simp; done) | (simp [*]; done)),(by first | rfl | (simp; done) | (simp [*]; done)),H',⟨Nat.le_refl _⟩,by repeat (first | exact Drawn0.refl _ | apply Drawn0.step)⟩
         case round =>
          clear H'
          try clear c1
          try clear p1
          try clear q1
          try clear hx1
          try clear qi1
          try clear p2
          try clear c3
          try clear c3b0
          try clear c3b1
          try clear c4
          try clear c4b0
          try clear c4b1
          try clear c5
          try clear p5
          try clear q5
          try clear hx5
          try clear qi5
          try clear c7
          try clear c8
          try clear c8b0
          try clear c8b1
          try clear c10
          try clear c10b0
          try clear c10b1
          try clear c11
          try clear c11b0
          try clear c11b1
          try clear p12
          try clear q12
          try clear hx12
          try clear qi12
          try clear c13
          try clear c13b0
          try clear c13b1
          try clear c14
          try clear p1
          try clear p12
          try clear p2
          try clear p5
          try clear q1
          try clear q12
          try clear q5
          obtain ⟨x6_4,x41_4,rfl,rfl,HA,HK4,⟨m4,rfl⟩⟩ := hrel
          cases gk with
          | zero => exact absurd HA.out (by simp [chars_Number.l0])
          | succ k4 =>
           have H := HA.out
           clear HA
           simp only [chars_Number.l0] at H
           by_cases c15 : x41_4 < (x5_5.size : Int)
           · rw [if_pos c15] at H
             have c15b0 : decide (x41_4 < (x5_5.size : Int)) = true := decide_eq_true c15
             clear c15
             by_cases c16 : 0 ≤ x41_4
             · rw [if_pos c16] at H
               have c16b0 : decide (0 ≤ x41_4) = true := decide_eq_true c16
               clear c16
               by_cases c17 : x41_4 < (x5_5.size : Int)
               · rw [if_pos c17] at H
                 have c17b0 : decide (x41_4 < (x5_5.size : Int)) = true := decide_eq_true c17
                 clear c17
                 have HC19 := Aside0.mk H
                 clear H
                 have p18 : 0 ≤ (x41_4 : Int) := of_decide_eq_true (by first | (with_reducible assumption) | assumption)
                 have q18 : x41_4 < (x5_5.size : Int) := of_decide_eq_true (by first | (with_reducible assumption) | assumption)
                 obtain ⟨ad18,e18,hx18⟩ := Kd.at_int HCB x41_4 p18 (by omega)
                 cases e18
                 rw [rd_bytesOf] at hx18
                 replace hx18 := (((Drawn0.refl (Lib.bytesWorld W0 5 x5_5)).step m4).below.cell (World.block_lt_of_cell? _ _ hx18)).trans hx18
                 rw [show (⟨W0.heap.size,0,none⟩ : Addr).add x41_4.toNat = ⟨W0.heap.size,x41_4.toNat,none⟩ from add_plain _ _] at hx18
                 replace p18 := eq_true p18
                 replace q18 := eq_true q18
                 go_upto_region 12 with (fail)
                 go_cut [50] (fun v50 wc => ∃ (kq : Nat) (x50_18 : Bool),v50 = .bool x50_18 ∧ Aside0 (chars_Number.j4 kq x4_1 x6_4 far (bt x5_5 x41_4) x5_5 (x5_5.size : Int) x41_4 x50_18 = some (r1,r2)) ∧ Aside0 (kq ≤ k4) ∧ Drawn0 (Lib.bytesWorld W0 5 x5_5) wc)
                 case first =>
                  have H := HC19.out
                  clear HC19
                  by_cases c20 : (bt x5_5 x41_4) < 48
                  · rw [if_pos c20] at H
                    have c20b0 : decide ((bt x5_5 x41_4) < 48) = true := decide_eq_true c20
                    clear c20
                    (first | rw [c20b0] | (simp only [i64_w,i32_w]; rw [c20b0]) | skip)
                    have H' := Aside0.mk H
                    clear H
                    go_wp2
                    go_meet
                    case rel => exact ⟨_,(true),(by first | rfl | (simp; done) | (simp [*]; done)),H',⟨by have := HJ1.out; have := HJ5.out; have := HJ8.out; have := HK4.out; first | omega | exact Nat.le_refl _⟩,by repeat (first | exact Drawn0.refl _ | apply Drawn0.step)⟩
                  · rw [if_neg c20] at H
                    have c20b0 : decide ((bt x5_5 x41_4) < 48) = false := decide_eq_false c20
                    clear c20
                    (first | rw [c20b0] | (simp only [i64_w,i32_w]; rw [c20b0]) | skip)
                    have H' := Aside0.mk H
                    clear H
                    go_wp2
                    go_meet
                    case rel => exact ⟨_,(decide ((bt x5_5 x41_4) > 57)),(by first | rfl | (simp; done) | (simp [*]; done)),H',⟨by have := HJ1.out; have := HJ5.out; have := HJ8.out; have := HK4.out; first | omega | exact Nat.le_refl _⟩,by repeat (first | exact Drawn0.refl _ | apply Drawn0.step)⟩
                 case rest =>
                  clear HC19
                  try clear c1
                  try clear p1
                  try clear q1
                  try clear hx1
                  try clear qi1
                  try clear c2
                  try clear p2
                  try clear c3
                  try clear c3b0
                  try clear c3b1
                  try clear c4
                  try clear c4b0
                  try clear c4b1
                  try clear c5
                  try clear p5
                  try clear q5
                  try clear hx5
                  try clear qi5
                  try clear c7
                  try clear c8
                  try clear c8b0
                  try clear c8b1
                  try clear c10
                  try clear c10b0
                  try clear c10b1
                  try clear c11
                  try clear c11b0
                  try clear c11b1
                  try clear p12
                  try clear q12
                  try clear hx12
                  try clear qi12
                  try clear c13
                  try clear c13b0
                  try clear c13b1
                  try clear c14
                  try clear c15
                  try clear c15b0
                  try clear c16
                  try clear c16b0
                  try clear c17
                  try clear c17b0
                  try clear p18
                  try clear q18
                  try clear hx18
                  try clear c20
                  try clear c20b0
                  try clear p1
                  try clear p12
                  try clear p18
                  try clear p2
                  try clear p5
                  try clear q1
                  try clear q12
                  try clear q18
                  try clear q5
                  obtain ⟨kq,x50_18,rfl,HA,HJ18,⟨mc18,rfl⟩⟩ := hcut
                  cases kq with
                  | zero => exact absurd HA.out (by simp [chars_Number.j4])
                  | succ kj18 =>
                   have H := HA.out
                   clear HA
                   simp only [chars_Number.j4] at H
                   by_cases c21 : x50_18 = true
                   · subst c21
                     have H1 : (some (0,5)) = some (r1,r2) := by rw [if_pos rfl] at H; exact H
                     clear H
                     have H := H1
                     clear H1
                     simp only [Option.some.injEq,Prod.mk.injEq] at H
                     obtain ⟨rfl,rfl⟩ := H
                     go_wp2
                     go_ret2
                     exact ⟨by first | rfl | (simp; done) | (simp [*]; done),HWB _ (by repeat (first | exact Drawn0.refl _ | apply Drawn0.step))⟩
                   · replace c21 := Bool.eq_false_iff.mpr c21
                     subst c21
                     have H1 : (if far = true then (chars_Number.l0 kj18 x4_1 x6_4 far x5_5 (x5_5.size : Int) (wrap64 (x41_4 + 1))) else (chars_Number.l0 kj18 x4_1 (IntKind.u64.wrap ((IntKind.u64.wrap (10 * x6_4)) + (((bt x5_5 x41_4) - 48) % 256))) far x5_5 (x5_5.size : Int) (wrap64 (x41_4 + 1)))) = some (r1,r2) := by rw [if_neg (show ¬ (false = true) by decide)] at H; exact H
                     clear H
                     have H := H1
                     clear H1
                     by_cases c22 : far = true
                     · subst c22
                       rw [if_pos rfl] at H
                       have H' := Aside0.mk H
                       clear H
                       go_wp2
                       go_roundg kj18
                       case measure => have := HJ1.out; have := HJ5.out; have := HJ8.out; have := HK4.out; have := HJ18.out; omega
                       case rel => exact ⟨(x6_4),(wrap64 (x41_4 + 1)),(by first | rfl | (simp; done) | (simp [*]; done)),(by first | rfl | (simp; done) | (simp [*]; done)),H',⟨by have := HJ1.out; have := HJ5.out; have := HJ8.out; have := HK4.out; have := HJ18.out; omega⟩,by repeat (first | exact Drawn0.refl _ | apply Drawn0.step)⟩
                     · replace c22 := Bool.eq_false_iff.mpr c22
                       subst c22
                       rw [if_neg (show ¬ (false = true) by decide)] at H
                       have H' := Aside0.mk H
                       clear H
                       go_wp2
                       go_roundg kj18
                       case measure => have := HJ1.out; have := HJ5.out; have := HJ8.out; have := HK4.out; have := HJ18.out; omega
                       case rel => exact ⟨(IntKind.u64.wrap ((IntKind.u64.wrap (10 * x6_4)) + (((bt x5_5 x41_4) - 48) % 256))),(wrap64 (x41_4 + 1)),(by first | rfl | (simp; done) | (simp [*]; done)),(by first | rfl | (simp; done) | (simp [*]; done)),H',⟨by have := HJ1.out; have := HJ5.out; have := HJ8.out; have := HK4.out; have := HJ18.out; omega⟩,by repeat (first | exact Drawn0.refl _ | apply Drawn0.step)⟩
               · rw [if_neg c17] at H
                 exact absurd H (by simp)
             · rw [if_neg c16] at H
               exact absurd H (by simp)
           · rw [if_neg c15] at H
             have c15b0 : decide (x41_4 < (x5_5.size : Int)) = false := decide_eq_false c15
             clear c15
             have HC23 := Aside0.mk H
             clear H
             go_upto_if 61 with (fail)
             go_cut [10] (fun v10 wc => ∃ (kq : Nat) (x10_22 : Int),v10 = .int .u64 x10_22 ∧ Aside0 (chars_Number.j5 kq x4_1 x6_4 far x10_22 = some (r1,r2)) ∧ Aside0 (kq ≤ k4) ∧ Drawn0 (Lib.bytesWorld W0 5 x5_5) wc)
             case first =>
              have H := HC23.out
              clear HC23
              by_cases c24 : x4_1 = true
              · subst c24
                have H1 : (chars_Number.j5 k4 true x6_4 far 9223372036854775808) = some (r1,r2) := by rw [if_pos rfl] at H; exact H
                clear H
                have H := H1
                clear H1
                have H' := Aside0.mk H
                clear H
                go_wp2
                go_meet
                case rel => exact ⟨_,(9223372036854775808),(by first | rfl | (simp; done) | (simp [*]; done)),H',⟨by have := HJ1.out; have := HJ5.out; have := HJ8.out; have := HK4.out; first | omega | exact Nat.le_refl _⟩,by repeat (first | exact Drawn0.refl _ | apply Drawn0.step)⟩
              · replace c24 := Bool.eq_false_iff.mpr c24
                subst c24
                have H1 : (chars_Number.j5 k4 false x6_4 far (9223372036854775808 - 1)) = some (r1,r2) := by rw [if_neg (show ¬ (false = true) by decide)] at H; exact H
                clear H
                have H := H1
                clear H1
                have H' := Aside0.mk H
                clear H
                go_wp2
                go_meet
                case rel => exact ⟨_,(9223372036854775808 - 1),(by first | rfl | (simp; done) | (simp [*]; done)),H',⟨by have := HJ1.out; have := HJ5.out; have := HJ8.out; have := HK4.out; first | omega | exact Nat.le_refl _⟩,by repeat (first | exact Drawn0.refl _ | apply Drawn0.step)⟩
             case rest =>
              clear HC23
              try clear c1
              try clear p1
              try clear q1
              try clear hx1
              try clear qi1
              try clear c2
              try clear p2
              try clear c3
              try clear c3b0
              try clear c3b1
              try clear c4
              try clear c4b0
              try clear c4b1
              try clear c5
              try clear p5
              try clear q5
              try clear hx5
              try clear qi5
              try clear p6
              try clear c7
              try clear c8
              try clear c8b0
              try clear c8b1
              try clear c10
              try clear c10b0
              try clear c10b1
              try clear c11
              try clear c11b0
              try clear c11b1
              try clear p12
              try clear q12
              try clear hx12
              try clear qi12
              try clear c13
              try clear c13b0
              try clear c13b1
              try clear c14
              try clear c15
              try clear c15b0
              try clear c16
              try clear c16b0
              try clear c17
              try clear c17b0
              try clear c18
              try clear p18
              try clear q18
              try clear hx18
              try clear c20
              try clear c20b0
              try clear c21
              try clear c22
              try clear c22b0
              try clear c24
              try clear p1
              try clear p12
              try clear p18
              try clear p2
              try clear p5
              try clear q1
              try clear q12
              try clear q18
              try clear q5
              obtain ⟨kq,x10_22,rfl,HA,HJ22,⟨mc22,rfl⟩⟩ := hcut
              cases kq with
              | zero => exact absurd HA.out (by simp [chars_Number.j5])
              | succ kj22 =>
               have H := HA.out
               clear HA
               simp only [chars_Number.j5] at H
               have HC25 := Aside0.mk H
               clear H
               go_upto_region 20 with (fail)
               go_cut [64] (fun v64 wc => ∃ (kq : Nat) (x64_24 : Bool),v64 = .bool x64_24 ∧ Aside0 (chars_Number.j6 kq x4_1 x6_4 x64_24 = some (r1,r2)) ∧ Aside0 (kq ≤ kj22) ∧ Drawn0 (Lib.bytesWorld W0 5 x5_5) wc)
               case first =>
                have H := HC25.out
                clear HC25
                by_cases c26 : far = true
                · subst c26
                  rw [if_pos rfl] at H
                  have H' := Aside0.mk H
                  clear H
                  go_wp2
                  go_meet
                  case rel => exact ⟨_,(true),(by first | rfl | (simp; done) | (simp [*]; done)),H',⟨by have := HJ1.out; have := HJ5.out; have := HJ8.out; have := HK4.out; have := HJ22.out; first | omega | exact Nat.le_refl _⟩,by repeat (first | exact Drawn0.refl _ | apply Drawn0.step)⟩
                · replace c26 := Bool.eq_false_iff.mpr c26
                  subst c26
                  rw [if_neg (show ¬ (false = true) by decide)] at H
                  have H' := Aside0.mk H
                  clear H
                  go_wp2
                  go_meet
                  case rel => exact ⟨_,(decide (x6_4 > x10_22)),(by first | rfl | (simp; done) | (simp [*]; done)),H',⟨by have := HJ1.out; have := HJ5.out; have := HJ8.out; have := HK4.out; have := HJ22.out; first | omega | exact Nat.le_refl _⟩,by repeat (first | exact Drawn0.refl _ | apply Drawn0.step)⟩
               case rest =>
                clear HC25
                try clear c1
                try clear p1
                try clear q1
                try clear hx1
                try clear qi1
                try clear c2
                try clear p2
                try clear c3
                try clear c3b0
                try clear c3b1
                try clear c4
                try clear c4b0
                try clear c4b1
                try clear c5
                try clear p5
                try clear q5
                try clear hx5
                try clear qi5
                try clear p6
                try clear c7
                try clear c8
                try clear c8b0
                try clear c8b1
                try clear c10
                try clear c10b0
                try clear c10b1
                try clear c11
                try clear c11b0
                try clear c11b1
                try clear p12
                try clear q12
                try clear hx12
                try clear qi12
                try clear c13
                try clear c13b0
                try clear c13b1
                try clear c14
                try clear c15
                try clear c15b0
                try clear c16
                try clear c16b0
                try clear c17
                try clear c17b0
                try clear c18
                try clear p18
                try clear q18
                try clear hx18
                try clear c20
                try clear c20b0
                try clear c21
                try clear c22
                try clear c22b0
                try clear c24
                try clear c26
                try clear c26b0
                try clear p1
                try clear p12
                try clear p18
                try clear p2
                try clear p5
                try clear p6
                try clear q1
                try clear q12
                try clear q18
                try clear q5
                obtain ⟨kq,x64_24,rfl,HA,HJ24,⟨mc24,rfl⟩⟩ := hcut
                cases kq with
                | zero => exact absurd HA.out (by simp [chars_Number.j6])
                | succ kj24 =>
                 have H := HA.out
                 clear HA
                 simp only [chars_Number.j6] at H
                 by_cases c27 : x64_24 = true
                 · subst c27
                   have H1 : (some (0,4)) = some (r1,r2) := by rw [if_pos rfl] at H; exact H
                   clear H
                   have H := H1
                   clear H1
                   simp only [Option.some.injEq,Prod.mk.injEq] at H
                   obtain ⟨rfl,rfl⟩ := H
                   go_wp2
                   go_ret2
                   exact ⟨by first | rfl | (simp; done) | (simp [*]; done),HWB _ (by repeat (first | exact Drawn0.refl _ | apply Drawn0.step))⟩
                 · replace c27 := Bool.eq_false_iff.mpr c27
                   subst c27
                   have H1 : (if x4_1 = true then (some (wrap64 (-(wrap64 (x6_4))),0)) else (some (wrap64 (x6_4),0))) = some (r1,r2) := by rw [if_neg (show ¬ (false = true) by decide)] at H; exact H
                   clear H
                   have H := H1
                   clear H1
                   by_cases c28 : x4_1 = true
                   · subst c28
                     have H1 : (some (wrap64 (-(wrap64 (x6_4))),0)) = some (r1,r2) := by rw [if_pos rfl] at H; exact H
                     clear H
                     have H := H1
                     clear H1
                     simp only [Option.some.injEq,Prod.mk.injEq] at H
                     obtain ⟨rfl,rfl⟩ := H
                     go_wp2
                     go_ret2
                     exact ⟨by first | rfl | (simp; done) | (simp [*]; done),HWB _ (by repeat (first | exact Drawn0.refl _ | apply Drawn0.step))⟩
                   · replace c28 := Bool.eq_false_iff.mpr c28
                     subst c28
                     have H1 : (some (wrap64 (x6_4),0)) = some (r1,r2) := by rw [if_neg (show ¬ (false = true) by decide)] at H; exact H
                     clear H
                     have H := H1
                     clear H1
                     simp only [Option.some.injEq,Prod.mk.injEq] at H
                     obtain ⟨rfl,rfl⟩ := H
                     go_wp2
                     go_ret2
                     exact ⟨by first | rfl | (simp; done) | (simp [*]; done),HWB _ (by repeat (first | exact Drawn0.refl _ | apply Drawn0.step))⟩
end
end Go.Proofs.YtifgpigicgaadaaGreatDoor.Q
end
section
/- Numbers: a text of digits is the same number to the program and to the reference. -/
set_option linter.unusedSimpArgs false
set_option linter.unusedVariables false
namespace Go.Proofs.YtifgpigicgaadaaGreatDoor.Num
open Go.RowKit Go.Proofs.YtifgpigicgaadaaGreatDoor.Q Go.Proofs.YtifgpigicgaadaaGreatDoorW.PrintWords Go.Proofs.YtifgpigicgaadaaGreatDoorW.PrintLast Go.Proofs.YtifgpigicgaadaaGreatDoorH Go.Proofs.YtifgpigicgaadaaGreatDoor.Chars Go.Proofs.YtifgpigicgaadaaGreatDoor.Values Go.Proofs.YtifgpigicgaadaaGreatDoor.Bytes

def val (l : List Int) : Int := l.foldl (fun a x => 10 * a + (x - 48)) 0
def Digits (l : List Int) : Prop := ∀ x ∈ l, 48 ≤ x ∧ x ≤ 57
theorem val_snoc (l : List Int) (x : Int) : val (l ++ [x]) = 10 * val l + (x - 48) := by unfold val; rw [List.foldl_append]; rfl
theorem Digits.left {l m : List Int} (h : Digits (l ++ m)) : Digits l := fun x hx => h x (List.mem_append_left m hx)
theorem val_range : ∀ (n : Nat) (l : List Int), l.length = n → Digits l → 0 ≤ val l ∧ val l < 10 ^ n := by
  intro n
  induction n with
  | zero => intro l hl _; rw [List.length_eq_zero_iff.1 hl]; decide
  | succ n ih =>
    intro l hl hd
    rcases List.eq_nil_or_concat l with rfl | ⟨m, x, rfl⟩
    · simp at hl
    · rw [List.concat_eq_append] at *
      have hm := ih m (by simpa using hl) hd.left
      have hx := hd x (by simp)
      rw [val_snoc, Int.pow_succ]
      omega
theorem val_take_succ (l : List Int) (i : Nat) (h : i < l.length) : val (l.take (i + 1)) = 10 * val (l.take i) + (l[i] - 48) := by
  have e : l.take (i + 1) = l.take i ++ [l[i]] := by rw [List.take_add_one, List.getElem?_eq_getElem h]; rfl
  rw [e, val_snoc]
theorem val_19 (l : List Int) (h : l.length ≤ 19) (hd : Digits l) : 0 ≤ val l ∧ val l < 10000000000000000000 := by
  have := val_range l.length l rfl hd
  have h2 : (10 : Int) ^ l.length ≤ 10 ^ 19 := by exact_mod_cast Nat.pow_le_pow_right (n := 10) (by decide) h
  have h3 : (10 : Int) ^ 19 = 10000000000000000000 := by decide
  omega
theorem Digits.take {l : List Int} (h : Digits l) (n : Nat) : Digits (l.take n) := fun x hx => h x (List.mem_of_mem_take hx)

/-! ## The program's -/
def endV (V : Int) : Int × Int := if V > 9223372036854775807 then (0, 4) else (V, 0)
theorem j5_near (k : Nat) (V : Int) (h : 0 ≤ V) : chars_Number.j5 (k + 2) false V false 9223372036854775807 = some (endV V) := by
  rw [chars_Number.j5, if_neg (by decide), chars_Number.j6]
  unfold endV
  by_cases h2 : V > 9223372036854775807
  · rw [if_pos (by simpa using h2), if_pos h2]
  · rw [if_neg (by simpa using h2), if_neg h2, if_neg (by decide)]; congr 2; unfold wrap64; omega
theorem j5_far (k : Nat) (V : Int) : chars_Number.j5 (k + 2) false V true 9223372036854775807 = some (0, 4) := by
  rw [chars_Number.j5, if_pos rfl, chars_Number.j6, if_pos rfl]
theorem near_at (s : ByteArray) (hd : Digits (bytesOf s)) (hlen : (bytesOf s).length ≤ 19) : ∀ d i k : Nat, i + d = (bytesOf s).length →
    chars_Number.l0 (k + 2 * d + 3) false (val ((bytesOf s).take i)) false s ((bytesOf s).length : Int) (i : Int) = some (endV (val (bytesOf s))) := by
  intro d
  induction d with
  | zero =>
    intro i k hi
    rw [show k + 2 * 0 + 3 = (k + 2) + 1 from rfl, chars_Number.l0, if_neg (by omega), if_neg (by decide), List.take_of_length_le (by omega)]
    exact j5_near k _ (val_19 _ hlen hd).1
  | succ d ih =>
    intro i k hi
    have hlt : i < (bytesOf s).length := by omega
    have e2 : wrap64 ((i : Int) + 1) = ((i + 1 : Nat) : Int) := by rw [w64' _ (by omega) (by omega)]; omega
    have hx := hd _ (List.getElem_mem hlt)
    have hv := val_19 _ (show ((bytesOf s).take (i + 1)).length ≤ 19 by rw [List.length_take]; omega) (hd.take _)
    have hv0 := val_19 _ (show ((bytesOf s).take i).length ≤ 19 by rw [List.length_take]; omega) (hd.take _)
    have hs := val_take_succ (bytesOf s) i hlt
    rw [show k + 2 * (d + 1) + 3 = ((k + 2 * d + 3) + 1) + 1 from by omega, chars_Number.l0, if_pos (by omega), if_pos (by omega), if_pos (by rw [b_size]; omega), bt_at' hlt, if_neg (by omega), chars_Number.j4, if_neg (by simp; omega), if_neg (by decide), e2]
    have e : IntKind.u64.wrap (IntKind.u64.wrap (10 * val ((bytesOf s).take i)) + ((bytesOf s)[i] - 48) % 256) = val ((bytesOf s).take (i + 1)) := by
      rw [IntKind.wrap_u64, IntKind.wrap_u64]; omega
    rw [e]
    exact ih (i + 1) k (by omega)
theorem far_at (s : ByteArray) (hd : Digits (bytesOf s)) (hs : (bytesOf s).length ≤ 1000000) : ∀ (d i k : Nat) (V : Int), i + d = (bytesOf s).length →
    chars_Number.l0 (k + 2 * d + 3) false V true s ((bytesOf s).length : Int) (i : Int) = some (0, 4) := by
  intro d
  induction d with
  | zero =>
    intro i k V hi
    rw [show k + 2 * 0 + 3 = (k + 2) + 1 from rfl, chars_Number.l0, if_neg (by omega), if_neg (by decide)]
    exact j5_far k _
  | succ d ih =>
    intro i k V hi
    have hlt : i < (bytesOf s).length := by omega
    have e2 : wrap64 ((i : Int) + 1) = ((i + 1 : Nat) : Int) := by rw [w64' _ (by omega) (by omega)]; omega
    have hx := hd _ (List.getElem_mem hlt)
    rw [show k + 2 * (d + 1) + 3 = ((k + 2 * d + 3) + 1) + 1 from by omega, chars_Number.l0, if_pos (by omega), if_pos (by omega), if_pos (by rw [b_size]; omega), bt_at' hlt, if_neg (by omega), chars_Number.j4, if_neg (by simp; omega), if_pos rfl, e2]
    exact ih (i + 1) k V (by omega)
/-- What a text of digits is. -/
def numV (l : List Int) : Int × Int := if l.getD 0 0 = 48 ∧ 1 < l.length then (0, 5) else if 19 < l.length then (0, 4) else endV (val l)
theorem number_spec (s : ByteArray) (hd : Digits (bytesOf s)) (h0 : bytesOf s ≠ []) (hs : (bytesOf s).length ≤ 1000000) (k : Nat) (hk : 2 * (bytesOf s).length + 10 ≤ k) : chars_Number.f k s = some (numV (bytesOf s)) := by
  have hl : 0 < (bytesOf s).length := List.length_pos_iff.2 h0
  have hb : bt s 0 = (bytesOf s)[0] := bt_at' hl
  have hx := hd _ (List.getElem_mem hl)
  have hg : (bytesOf s).getD 0 0 = (bytesOf s)[0] := by rw [List.getD_eq_getElem?_getD, List.getElem?_eq_getElem hl]; rfl
  obtain ⟨k, rfl⟩ : ∃ m, k = m + 2 * (bytesOf s).length + 3 + 3 := ⟨k - 2 * (bytesOf s).length - 6, by omega⟩
  unfold chars_Number.f numV
  rw [b_size, hb, hg, if_pos (by omega), if_pos (by omega), show ((bytesOf s)[0] == 45) = false from by simp; omega]
  rw [chars_Number.j0, if_neg (by decide), chars_Number.j1]
  have hne : ¬ s.toList = [] := by rw [toList_iff]; simpa using h0
  rw [if_neg hne, b_size, if_pos (by omega), hb]
  by_cases h1 : (bytesOf s)[0] = 48
  · rw [if_pos h1]
    by_cases h2 : 1 < (bytesOf s).length
    · rw [if_pos ⟨h1, h2⟩, chars_Number.j2, if_pos (by simp; omega)]
    · rw [if_neg (fun x => h2 x.2), if_neg (by omega), chars_Number.j2, if_neg (by simp; omega), b_size, if_pos (by omega), show (decide (((bytesOf s).length : Int) > 19)) = false from by simp; omega]
      have := near_at s hd (by omega) _ 0 k (Nat.zero_add _)
      exact this
  · rw [if_neg h1, if_neg (fun x => h1 x.1), chars_Number.j2, if_neg (by decide), b_size, if_pos (by omega)]
    by_cases h3 : 19 < (bytesOf s).length
    · rw [if_pos h3, show (decide (((bytesOf s).length : Int) > 19)) = true from by simp; omega]
      exact far_at s hd hs _ 0 k 0 (Nat.zero_add _)
    · rw [if_neg h3, show (decide (((bytesOf s).length : Int) > 19)) = false from by simp; omega]
      exact near_at s hd (by omega) _ 0 k (Nat.zero_add _)

/-! ## The reference's -/
/-- A number has a text, and not a long one. -/
theorem text_total : ∀ (n : Nat) (x : Int), n ≤ 100 → -(10 ^ n : Int) < x → x < 10 ^ n → -9223372036854775808 ≤ x → x ≤ 9223372036854775807 → ∀ k, n + 3 ≤ k → ∃ t, dossierref01_Text.f k x = some t ∧ t.size ≤ n + 2 := by
  intro n
  induction n with
  | zero =>
    intro x _ h1 h2 _ _ k hk
    obtain ⟨k, rfl⟩ : ∃ m, k = m + 1 := ⟨k - 1, by omega⟩
    have : x = 0 := by simp at h1 h2; omega
    subst this
    refine ⟨⟨#[48]⟩, ?_, by decide⟩
    rw [dossierref01_Text.f, if_neg (by decide), if_pos (by decide), if_pos (by decide), w64' _ (by decide) (by decide), if_pos (by decide), if_pos (by decide)]
    rfl
  | succ n ih =>
    intro x hn9 h1 h2 h3 h4 k hk
    obtain ⟨k, rfl⟩ : ∃ m, k = m + 1 := ⟨k - 1, by omega⟩
    rw [Int.pow_succ] at h1 h2
    have small : ∀ y : Int, 0 ≤ y → y < 10 → ∀ k, 1 ≤ k → ∃ t, dossierref01_Text.f k y = some t ∧ t.size = 1 := by
      intro y g1 g2 k hk
      obtain ⟨k, rfl⟩ : ∃ m, k = m + 1 := ⟨k - 1, by omega⟩
      refine ⟨(⟨#[48, 49, 50, 51, 52, 53, 54, 55, 56, 57]⟩ : ByteArray).extract y.toNat (y + 1).toNat, ?_, ?_⟩
      · rw [dossierref01_Text.f, if_neg (by omega), if_pos (by omega), if_pos (by omega), w64' _ (by omega) (by omega), if_pos (by omega), if_pos (by omega)]
      · rw [b_size, b_extract, List.length_take, List.length_drop]
        have : (bytesOf (⟨#[48, 49, 50, 51, 52, 53, 54, 55, 56, 57]⟩ : ByteArray)).length = 10 := by kernel_rfl
        omega
    rw [dossierref01_Text.f]
    by_cases c1 : x < 0
    · rw [if_pos c1]
      by_cases c2 : x > -10
      · obtain ⟨t, ht, hs⟩ := small (-x) (by omega) (by omega) k (by omega)
        refine ⟨_, by rw [if_pos c2, w64' _ (by omega) (by omega), ht, Option.bind_some, if_pos (by omega)], ?_⟩
        rw [ByteArray.size_append, hs]; show 1 + 1 ≤ _; omega
      · have hq : Int.tdiv x 10 = -((-x) / 10) := by rw [show x = -(-x) from by omega, Int.neg_tdiv, Int.tdiv_eq_ediv_of_nonneg (by omega)]; simp
        have hr : Int.tmod x 10 = -((-x) % 10) := by rw [show x = -(-x) from by omega, Int.neg_tmod, Int.tmod_eq_emod_of_nonneg (by omega)]; simp
        obtain ⟨t, ht, hs⟩ := ih (Int.tdiv x 10) (by omega) (by omega) (by omega) (by omega) (by omega) k (by omega)
        obtain ⟨u, hu, hs2⟩ := small (-(Int.tmod x 10)) (by omega) (by omega) k (by omega)
        have e1 : wrap64 (Int.tdiv x 10) = Int.tdiv x 10 := by unfold wrap64; omega
        have e2 : wrap64 (-(Int.tmod x 10)) = -(Int.tmod x 10) := by unfold wrap64; omega
        refine ⟨t ++ u, by rw [if_neg c2, e1, e2, ht, hu, Option.bind_some, Option.bind_some, if_pos (by omega)], ?_⟩
        rw [ByteArray.size_append]; omega
    · rw [if_neg c1]
      by_cases c2 : x < 10
      · obtain ⟨t, ht, hs⟩ := small x (by omega) c2 1 (by omega)
        rw [dossierref01_Text.f, if_neg c1, if_pos c2] at ht
        exact ⟨t, by rw [if_pos c2]; exact ht, by omega⟩
      · have hq : Int.tdiv x 10 = x / 10 := Int.tdiv_eq_ediv_of_nonneg (by omega)
        have hr : Int.tmod x 10 = x % 10 := Int.tmod_eq_emod_of_nonneg (by omega)
        obtain ⟨t, ht, hs⟩ := ih (Int.tdiv x 10) (by omega) (by omega) (by omega) (by omega) (by omega) k (by omega)
        obtain ⟨u, hu, hs2⟩ := small (Int.tmod x 10) (by omega) (by omega) k (by omega)
        have e1 : wrap64 (Int.tdiv x 10) = Int.tdiv x 10 := by unfold wrap64; omega
        refine ⟨t ++ u, by rw [if_neg c2, e1, ht, hu, Option.bind_some, Option.bind_some, if_pos (by omega)], ?_⟩
        rw [ByteArray.size_append]; omega

theorem text_neg : ∀ (k : Nat) (x : Int) (t : ByteArray), x < 0 → -9223372036854775808 ≤ x → dossierref01_Text.f k x = some t → ∃ u, bytesOf t = 45 :: u := by
  intro k
  induction k with
  | zero => intro x t _ _ h; simp [dossierref01_Text.f] at h
  | succ k ih =>
    intro x t h1 h3 h
    rw [dossierref01_Text.f, if_pos h1] at h
    by_cases c2 : x > -10
    · rw [if_pos c2] at h
      obtain ⟨u, _, h⟩ := Option.bind_eq_some_iff.1 h
      split at h
      · obtain rfl := Option.some.inj h
        exact ⟨bytesOf u, by rw [b_append]; rfl⟩
      · cases h
    · rw [if_neg c2] at h
      obtain ⟨u, hu, h⟩ := Option.bind_eq_some_iff.1 h
      obtain ⟨v, _, h⟩ := Option.bind_eq_some_iff.1 h
      have hq : Int.tdiv x 10 = -((-x) / 10) := by rw [show x = -(-x) from by omega, Int.neg_tdiv, Int.tdiv_eq_ediv_of_nonneg (by omega)]; simp
      have e1 : wrap64 (Int.tdiv x 10) = Int.tdiv x 10 := by unfold wrap64; omega
      rw [e1] at hu
      obtain ⟨u', hu'⟩ := ih _ u (by omega) (by omega) hu
      split at h
      · obtain rfl := Option.some.inj h
        exact ⟨u' ++ bytesOf v, by rw [b_append, hu']; rfl⟩
      · cases h
/-- The text of a number of digits, without a zero ahead, is the digits. -/
theorem text_val : ∀ (n : Nat) (l : List Int), l.length = n → l ≠ [] → Digits l → (l.getD 0 0 = 48 → n = 1) → n ≤ 100 → val l ≤ 9223372036854775807 → ∀ k, n + 1 ≤ k → ∃ t, dossierref01_Text.f k (val l) = some t ∧ bytesOf t = l := by
  intro n
  induction n with
  | zero => intro l hl h0; exact absurd (List.length_eq_zero_iff.1 hl) h0
  | succ n ih =>
    intro l hl h0 hd hz hn hv k hk
    obtain ⟨k, rfl⟩ : ∃ m, k = m + 1 := ⟨k - 1, by omega⟩
    have one : ∀ y : Int, 0 ≤ y → y < 10 → ∀ k, 1 ≤ k → ∃ t, dossierref01_Text.f k y = some t ∧ bytesOf t = [y + 48] := by
      intro y g1 g2 k hk
      obtain ⟨k, rfl⟩ : ∃ m, k = m + 1 := ⟨k - 1, by omega⟩
      refine ⟨(⟨#[48, 49, 50, 51, 52, 53, 54, 55, 56, 57]⟩ : ByteArray).extract y.toNat (y + 1).toNat, ?_, ?_⟩
      · rw [dossierref01_Text.f, if_neg (by omega), if_pos (by omega), if_pos (by omega), w64' _ (by omega) (by omega), if_pos (by omega), if_pos (by omega)]
      · rw [b_extract, show bytesOf (⟨#[48, 49, 50, 51, 52, 53, 54, 55, 56, 57]⟩ : ByteArray) = [48, 49, 50, 51, 52, 53, 54, 55, 56, 57] from rfl]
        have hy : y = 0 ∨ y = 1 ∨ y = 2 ∨ y = 3 ∨ y = 4 ∨ y = 5 ∨ y = 6 ∨ y = 7 ∨ y = 8 ∨ y = 9 := by omega
        rcases hy with rfl | rfl | rfl | rfl | rfl | rfl | rfl | rfl | rfl | rfl <;> rfl
    rcases List.eq_nil_or_concat l with rfl | ⟨m, x, rfl⟩
    · exact absurd rfl h0
    · rw [List.concat_eq_append] at *
      have hx := hd x (by simp)
      have hlm : m.length = n := by simpa using hl
      cases hm : m with
      | nil =>
        rw [List.nil_append]
        obtain ⟨t, ht, hb⟩ := one (x - 48) (by omega) (by omega) (k + 1) (by omega)
        have : val [x] = x - 48 := by unfold val; simp
        exact ⟨t, by rw [this]; exact ht, by rw [hb]; congr 1; omega⟩
      | cons y m' =>
        have hm0 : m ≠ [] := by rw [hm]; simp
        have hy : (m ++ [x]).getD 0 0 = y := by rw [hm]; rfl
        have hyd := hd y (by rw [hm]; simp)
        have hn2 : 1 ≤ n := by rw [← hlm, hm]; simp
        have hy48 : y ≠ 48 := fun h => by have := hz (hy.trans h); omega
        have hvm := val_range n m hlm hd.left
        have hpos : 1 ≤ val m := by
          have : ∀ (l : List Int) (a : Int), Digits l → 1 ≤ a → 1 ≤ l.foldl (fun a x => 10 * a + (x - 48)) a := by
            intro l
            induction l with
            | nil => intro a _ h; exact h
            | cons z l ih => intro a hd h; rw [List.foldl_cons]; have := hd z (by simp); exact ih _ (fun w hw => hd w (by simp [hw])) (by omega)
          rw [hm]; unfold val; rw [List.foldl_cons]
          exact this m' _ (fun w hw => hd w (by rw [hm]; simp [hw])) (by omega)
        rw [← hm]
        rw [val_snoc] at hv ⊢
        obtain ⟨t, ht, hb⟩ := ih m hlm hm0 hd.left (fun h => by rw [hm] at h; exact absurd h hy48) (by omega) (by omega) k (by omega)
        obtain ⟨u, hu, hb2⟩ := one (x - 48) (by omega) (by omega) k (by omega)
        have hq : Int.tdiv (10 * val m + (x - 48)) 10 = val m := by rw [Int.tdiv_eq_ediv_of_nonneg (by omega)]; omega
        have hr : Int.tmod (10 * val m + (x - 48)) 10 = x - 48 := by rw [Int.tmod_eq_emod_of_nonneg (by omega)]; omega
        have e1 : wrap64 (val m) = val m := by unfold wrap64; omega
        have s1 : t.size = n := by rw [b_size, hb, hlm]
        have s2 : u.size = 1 := by rw [b_size, hb2]; rfl
        refine ⟨t ++ u, ?_, ?_⟩
        · rw [dossierref01_Text.f, if_neg (by omega), if_neg (by omega), hq, hr, e1, ht, hu, Option.bind_some, Option.bind_some, if_pos (by omega)]
        · rw [b_append, hb, hb2]; congr 2; omega

/-- The reference's last step: the number's text held against the digits. -/
theorem last_step (s : ByteArray) (hd : Digits (bytesOf s)) (h0 : bytesOf s ≠ []) (hz : (bytesOf s).getD 0 0 = 48 → (bytesOf s).length = 1) (hlen : (bytesOf s).length ≤ 19) (k : Nat) (hk : 30 ≤ k) (x : Int) (hx : x = wrap64 (val (bytesOf s))) :
    ((dossierref01_Text.f k x).bind fun t => (if t.toList = s.toList then (some (x, (0 : Int))) else (some (0, 4)))) = some (endV (val (bytesOf s))) := by
  have hv := val_19 _ hlen hd
  unfold endV
  by_cases h : val (bytesOf s) > 9223372036854775807
  · rw [if_pos h]
    have e : x = val (bytesOf s) - 18446744073709551616 := by rw [hx]; unfold wrap64; omega
    obtain ⟨t, ht, _⟩ := text_total 19 x (by omega) (by have : (10 : Int) ^ 19 = 10000000000000000000 := by decide
                                                        omega) (by have : (10 : Int) ^ 19 = 10000000000000000000 := by decide
                                                                   omega) (by omega) (by omega) k (by omega)
    obtain ⟨u, hu⟩ := text_neg k x t (by omega) (by omega) ht
    rw [ht, Option.bind_some, if_neg]
    rw [toList_iff2, hu]
    intro hc
    have := hd 45 (by rw [← hc]; simp)
    omega
  · rw [if_neg h]
    have e : x = val (bytesOf s) := by rw [hx]; unfold wrap64; omega
    obtain ⟨t, ht, hb⟩ := text_val _ _ rfl h0 hd hz (by omega) (by omega) k (by omega)
    rw [e, ht, Option.bind_some, if_pos ((toList_iff2 _ _).2 hb)]
theorem ref_l1 (s : ByteArray) (hd : Digits (bytesOf s)) (h0 : bytesOf s ≠ []) (hz : (bytesOf s).getD 0 0 = 48 → (bytesOf s).length = 1) (hlen : (bytesOf s).length ≤ 19) : ∀ d i k : Nat, i + d = (bytesOf s).length →
    dossierref01_Number.l1 (k + d + 31) s s (wrap64 (-(val ((bytesOf s).take i)))) ((bytesOf s).length : Int) (i : Int) = some (endV (val (bytesOf s))) := by
  intro d
  induction d with
  | zero =>
    intro i k hi
    rw [show k + 0 + 31 = (k + 30) + 1 from rfl, dossierref01_Number.l1, if_neg (by omega), if_pos rfl, List.take_of_length_le (by omega)]
    exact last_step s hd h0 hz hlen (k + 30) (by omega) _ (by unfold wrap64; omega)
  | succ d ih =>
    intro i k hi
    have hlt : i < (bytesOf s).length := by omega
    have e2 : wrap64 ((i : Int) + 1) = ((i + 1 : Nat) : Int) := by rw [w64' _ (by omega) (by omega)]; omega
    have hx := hd _ (List.getElem_mem hlt)
    have hs := val_take_succ (bytesOf s) i hlt
    rw [show k + (d + 1) + 31 = (k + d + 31) + 1 from by omega, dossierref01_Number.l1, if_pos (by omega), if_pos (by omega), if_pos (by rw [b_size]; omega), bt_at' hlt, e2]
    have e : wrap64 (wrap64 (10 * wrap64 (-(val ((bytesOf s).take i)))) - ((bytesOf s)[i] - 48) % 256) = wrap64 (-(val ((bytesOf s).take (i + 1)))) := by
      rw [hs]; unfold wrap64; omega
    rw [e]
    exact ih (i + 1) k (by omega)
theorem ref_l0 (s : ByteArray) (hd : Digits (bytesOf s)) (h0 : bytesOf s ≠ []) (hz : (bytesOf s).getD 0 0 = 48 → (bytesOf s).length = 1) (hs : (bytesOf s).length ≤ 1000000) : ∀ d i k : Nat, i + d = (bytesOf s).length →
    dossierref01_Number.l0 (k + d + 60) s s ((bytesOf s).length : Int) (i : Int) = some (if 19 < (bytesOf s).length then (0, 4) else endV (val (bytesOf s))) := by
  intro d
  induction d with
  | zero =>
    intro i k hi
    rw [show k + 0 + 60 = (k + 59) + 1 from rfl, dossierref01_Number.l0, if_neg (by omega), b_size]
    by_cases h : 19 < (bytesOf s).length
    · rw [if_pos (by omega), if_pos h]
    · rw [if_neg (by omega), if_neg h]
      have := ref_l1 s hd h0 hz (by omega) _ 0 (k + 28 - (bytesOf s).length) (Nat.zero_add _)
      rw [show k + 28 - (bytesOf s).length + (bytesOf s).length + 31 = k + 59 from by omega] at this
      have e : wrap64 (-(val ((bytesOf s).take 0))) = 0 := by unfold val wrap64; simp
      rw [e] at this
      exact this
  | succ d ih =>
    intro i k hi
    have hlt : i < (bytesOf s).length := by omega
    have e2 : wrap64 ((i : Int) + 1) = ((i + 1 : Nat) : Int) := by rw [w64' _ (by omega) (by omega)]; omega
    have hx := hd _ (List.getElem_mem hlt)
    rw [show k + (d + 1) + 60 = (k + d + 60) + 1 from by omega, dossierref01_Number.l0, if_pos (by omega), if_pos (by omega), if_pos (by rw [b_size]; omega), bt_at' hlt, if_neg (by omega), if_neg (by omega), e2]
    exact ih (i + 1) k (by omega)
theorem ref_number_spec (s : ByteArray) (hd : Digits (bytesOf s)) (h0 : bytesOf s ≠ []) (hs : (bytesOf s).length ≤ 1000000) (k : Nat) (hk : (bytesOf s).length + 70 ≤ k) : dossierref01_Number.f k s = some (numV (bytesOf s)) := by
  have hl : 0 < (bytesOf s).length := List.length_pos_iff.2 h0
  have hb : bt s 0 = (bytesOf s)[0] := bt_at' hl
  have hx := hd _ (List.getElem_mem hl)
  have hg : (bytesOf s).getD 0 0 = (bytesOf s)[0] := by rw [List.getD_eq_getElem?_getD, List.getElem?_eq_getElem hl]; rfl
  obtain ⟨k, rfl⟩ : ∃ m, k = m + (bytesOf s).length + 60 + 3 := ⟨k - (bytesOf s).length - 63, by omega⟩
  unfold dossierref01_Number.f numV
  rw [b_size, hb, hg, if_pos (by omega), if_pos (by omega), show ((bytesOf s)[0] == 45) = false from by simp; omega]
  rw [dossierref01_Number.j0, if_neg (by decide), dossierref01_Number.j1]
  rw [b_size, if_neg (by omega), if_pos (by omega), hb]
  by_cases h1 : (bytesOf s)[0] = 48
  · rw [if_pos h1]
    by_cases h2 : 1 < (bytesOf s).length
    · rw [if_pos ⟨h1, h2⟩, dossierref01_Number.j2, if_pos (by simp; omega)]
    · rw [if_neg (fun x => h2 x.2), dossierref01_Number.j2, if_neg (by simp; omega), b_size]
      exact ref_l0 s hd h0 (fun _ => by omega) hs _ 0 k (Nat.zero_add _)
  · rw [if_neg h1, if_neg (fun x => h1 x.1), dossierref01_Number.j2, if_neg (by decide), b_size]
    exact ref_l0 s hd h0 (fun h => absurd (hg.symm.trans h) h1) hs _ 0 k (Nat.zero_add _)
end Go.Proofs.YtifgpigicgaadaaGreatDoor.Num
end
section
/- Words of texts: what the program and the reference read at the head of a text. -/
set_option linter.unusedSimpArgs false
set_option linter.unusedVariables false
namespace Go.Proofs.YtifgpigicgaadaaGreatDoor.Lex
open Go.RowKit Go.Proofs.YtifgpigicgaadaaGreatDoor.Q Go.Proofs.YtifgpigicgaadaaGreatDoorW.PrintWords Go.Proofs.YtifgpigicgaadaaGreatDoorW.PrintLast Go.Proofs.YtifgpigicgaadaaGreatDoorH Go.Proofs.YtifgpigicgaadaaGreatDoor.Chars Go.Proofs.YtifgpigicgaadaaGreatDoor.Values Go.Proofs.YtifgpigicgaadaaGreatDoor.Bytes Go.Proofs.YtifgpigicgaadaaGreatDoor.Num

/-! ## Good characters -/
inductive Good : List Int → Prop
  | nil : Good []
  | step (l : List Int) : l ≠ [] → (dec l).2 ≠ 0 → xmlC (dec l).1 = true → Good (l.drop (dec l).2.toNat) → Good l
theorem good_iff {l : List Int} (h : l ≠ []) : Good l ↔ (dec l).2 ≠ 0 ∧ xmlC (dec l).1 = true ∧ Good (l.drop (dec l).2.toNat) := by
  constructor
  · intro g
    cases g with
    | nil => exact absurd rfl h
    | step _ _ h1 h2 h3 => exact ⟨h1, h2, h3⟩
  · rintro ⟨h1, h2, h3⟩; exact .step l h h1 h2 h3
theorem good_from (l : List Int) (hl : Bytes l) (hlen : l.length ≤ 1000000000000000000) : ∀ (d : Nat) (at_ : Int), 0 ≤ at_ → at_ ≤ l.length → (l.length : Int) - at_ ≤ d →
    ∃ v : Int, (v < 0 ↔ Good (l.drop at_.toNat)) ∧ ∀ k, d + 30 ≤ k → chars_Wrong.l0 k l at_ = some v := by
  intro d
  induction d with
  | zero =>
    intro at_ h0 h1 hd
    refine ⟨-1, ?_, fun k hk => ?_⟩
    · rw [List.drop_of_length_le (by omega)]; exact ⟨fun _ => .nil, fun _ => by decide⟩
    · obtain ⟨k, rfl⟩ : ∃ m, k = m + 1 := ⟨k - 1, by omega⟩
      rw [chars_Wrong.l0, if_neg (by omega)]
  | succ d ih =>
    intro at_ h0 h1 hd
    by_cases hlt : at_ < (l.length : Int)
    · have hD := dec_two (hl.drop at_.toNat)
      have hdl : ((l.drop at_.toNat).length : Int) = l.length - at_ := by rw [List.length_drop]; omega
      have hne : l.drop at_.toNat ≠ [] := fun h => by rw [h] at hdl; simp at hdl; omega
      rw [good_iff hne]
      by_cases hz : (dec (l.drop at_.toNat)).2 = 0
      · refine ⟨at_, ⟨fun h => by omega, fun h => absurd hz h.1⟩, fun k hk => ?_⟩
        obtain ⟨k, rfl⟩ : ∃ m, k = m + 20 + 1 := ⟨k - 21, by omega⟩
        rw [chars_Wrong.l0]
        simp only [if_pos hlt, if_pos h0, if_pos h1, chars_Decode_spec _ (hl.drop _), Option.bind_some, if_pos hz]
      · by_cases hx : xmlC (dec (l.drop at_.toNat)).1 = true
        · have hw : wrap64 (at_ + (dec (l.drop at_.toNat)).2) = at_ + (dec (l.drop at_.toNat)).2 := by unfold wrap64; omega
          obtain ⟨v, hv, hk⟩ := ih (at_ + (dec (l.drop at_.toNat)).2) (by omega) (by omega) (by omega)
          refine ⟨v, ?_, fun k hk' => ?_⟩
          · rw [hv, List.drop_drop, show at_.toNat + (dec (l.drop at_.toNat)).2.toNat = (at_ + (dec (l.drop at_.toNat)).2).toNat from by omega]
            exact ⟨fun h => ⟨hz, hx, h⟩, fun h => h.2.2⟩
          · obtain ⟨k, rfl⟩ : ∃ m, k = m + 20 + 1 := ⟨k - 21, by omega⟩
            have hk2 := hk (k + 20) (by omega)
            rw [chars_Wrong.l0]
            simp only [if_pos hlt, if_pos h0, if_pos h1, chars_Decode_spec _ (hl.drop _), Option.bind_some, if_neg hz, chars_ofXML_spec (k + 10), if_pos hx, hw]
            exact hk2
        · refine ⟨at_, ⟨fun h => by omega, fun h => absurd h.2.1 hx⟩, fun k hk => ?_⟩
          obtain ⟨k, rfl⟩ : ∃ m, k = m + 20 + 1 := ⟨k - 21, by omega⟩
          rw [chars_Wrong.l0]
          simp only [if_pos hlt, if_pos h0, if_pos h1, chars_Decode_spec _ (hl.drop _), Option.bind_some, if_neg hz, chars_ofXML_spec (k + 10), if_neg hx]
    · have : at_ = l.length := by omega
      refine ⟨-1, ?_, fun k hk => ?_⟩
      · rw [List.drop_of_length_le (by omega)]; exact ⟨fun _ => .nil, fun _ => by decide⟩
      · obtain ⟨k, rfl⟩ : ∃ m, k = m + 1 := ⟨k - 1, by omega⟩
        rw [chars_Wrong.l0, if_neg hlt]
theorem wrong_good (l : List Int) (hl : Bytes l) (hlen : l.length ≤ 1000000) : wrong l < 0 ↔ Good l := by
  obtain ⟨v, hv, h⟩ := good_from l hl (by omega) l.length 0 (by omega) (by omega) (by omega)
  have e := (wrong_spec l hl (by omega) (l.length + 30) (by omega)).1
  unfold chars_Wrong.f at e
  rw [h _ (by omega)] at e
  rw [← Option.some.inj e]
  exact hv

/-! ## A character hangs on its own bytes alone -/
theorem decN_stable (n1 n2 : Nat) (a0 a1 a2 a3 b1 b2 b3 : Int) (c : Int) (h : (decN n1 a0 a1 a2 a3).2 = c) (h0 : c ≠ 0) (e1 : 2 ≤ c → a1 = b1) (e2 : 3 ≤ c → a2 = b2) (e3 : 4 ≤ c → a3 = b3) (hn : c ≤ n2) : decN n2 a0 b1 b2 b3 = decN n1 a0 a1 a2 a3 := by
  subst h
  unfold decN at h0 e1 e2 e3 hn ⊢
  by_cases c1 : a0 < 128
  · simp only [c1, if_true]
  · simp only [c1, if_false] at h0 e1 e2 e3 hn ⊢
    by_cases c2 : 192 ≤ a0 ∧ a0 < 224 ∧ 2 ≤ n1 ∧ 128 ≤ a1 ∧ a1 < 192
    · rw [if_pos c2] at h0 e1 e2 e3 hn ⊢
      by_cases d2 : (a0 - 192) * 64 + (a1 - 128) ≥ 128
      · rw [if_pos d2] at h0 e1 e2 e3 hn ⊢
        have := e1 (by simp)
        subst this
        rw [if_pos ⟨c2.1, c2.2.1, by simp at hn; omega, c2.2.2.2⟩, if_pos d2]
      · rw [if_neg d2] at h0; exact absurd rfl h0
    · rw [if_neg c2] at h0 e1 e2 e3 hn ⊢
      by_cases c3 : 224 ≤ a0 ∧ a0 < 240 ∧ 3 ≤ n1 ∧ (128 ≤ a1 ∧ a1 < 192) ∧ 128 ≤ a2 ∧ a2 < 192
      · rw [if_pos c3] at h0 e1 e2 e3 hn ⊢
        by_cases d3 : 2048 ≤ (a0 - 224) * 4096 + (a1 - 128) * 64 + (a2 - 128) ∧ ((a0 - 224) * 4096 + (a1 - 128) * 64 + (a2 - 128) < 55296 ∨ 57344 ≤ (a0 - 224) * 4096 + (a1 - 128) * 64 + (a2 - 128))
        · rw [if_pos d3] at h0 e1 e2 e3 hn ⊢
          have h1 := e1 (by simp)
          have h2 := e2 (by simp)
          subst h1 h2
          rw [if_neg (fun x => by omega), if_pos ⟨c3.1, c3.2.1, by simp at hn; omega, c3.2.2.2⟩, if_pos d3]
        · rw [if_neg d3] at h0; exact absurd rfl h0
      · rw [if_neg c3] at h0 e1 e2 e3 hn ⊢
        by_cases c4 : 240 ≤ a0 ∧ a0 < 248 ∧ 4 ≤ n1 ∧ (128 ≤ a1 ∧ a1 < 192) ∧ (128 ≤ a2 ∧ a2 < 192) ∧ 128 ≤ a3 ∧ a3 < 192
        · rw [if_pos c4] at h0 e1 e2 e3 hn ⊢
          by_cases d4 : 65536 ≤ (a0 - 240) * 262144 + (a1 - 128) * 4096 + (a2 - 128) * 64 + (a3 - 128) ∧ (a0 - 240) * 262144 + (a1 - 128) * 4096 + (a2 - 128) * 64 + (a3 - 128) ≤ 1114111
          · rw [if_pos d4] at h0 e1 e2 e3 hn ⊢
            have h1 := e1 (by simp)
            have h2 := e2 (by simp)
            have h3 := e3 (by simp)
            subst h1 h2 h3
            rw [if_neg (fun x => by omega), if_neg (fun x => by omega), if_pos ⟨c4.1, c4.2.1, by simp at hn; omega, c4.2.2.2⟩, if_pos d4]
          · rw [if_neg d4] at h0; exact absurd rfl h0
        · rw [if_neg c4] at h0; exact absurd rfl h0
theorem decN_cont (n : Nat) (a0 a1 a2 a3 : Int) : (2 ≤ (decN n a0 a1 a2 a3).2 → 192 ≤ a0 ∧ 128 ≤ a1) ∧ (3 ≤ (decN n a0 a1 a2 a3).2 → 128 ≤ a2) ∧ (4 ≤ (decN n a0 a1 a2 a3).2 → 128 ≤ a3) := by
  unfold decN
  repeat' split
  all_goals (simp only; refine ⟨fun h => ?_, fun h => ?_, fun h => ?_⟩ <;> omega)
theorem getD_take (l m : List Int) (n j : Nat) (h : l.take n = m.take n) (hj : j < n) : l.getD j 0 = m.getD j 0 := by
  have e := congrArg (fun x => x.getD j 0) h
  simp only [List.getD_eq_getElem?_getD, List.getElem?_take, if_pos hj] at e
  simpa [List.getD_eq_getElem?_getD] using e
theorem dec_prefix (l m : List Int) (hm : Bytes m) (h : (dec m).2 ≠ 0) (ht : l.take (dec m).2.toNat = m.take (dec m).2.toNat) : dec l = dec m := by
  have hD := dec_two hm
  have hm0 : m ≠ [] := fun x => h (by rw [x]; rfl)
  have hlen := congrArg List.length ht
  rw [List.length_take, List.length_take] at hlen
  have hl0 : l ≠ [] := fun x => by rw [x] at hlen; simp at hlen; omega
  have e := decN_stable m.length l.length (m.getD 0 0) (m.getD 1 0) (m.getD 2 0) (m.getD 3 0) (l.getD 1 0) (l.getD 2 0) (l.getD 3 0) (dec m).2
    (by unfold dec; rw [if_neg hm0]) h (fun h => (getD_take l m _ 1 ht (by omega)).symm) (fun h => (getD_take l m _ 2 ht (by omega)).symm) (fun h => (getD_take l m _ 3 ht (by omega)).symm) (by omega)
  have e0 := getD_take l m _ 0 ht (by omega)
  unfold dec
  rw [if_neg hl0, if_neg hm0, e0]
  exact e
theorem dec_cont (m : List Int) (hm : Bytes m) (j : Nat) (h1 : 1 ≤ j) (h2 : (j : Int) < (dec m).2) : 128 ≤ m.getD j 0 := by
  have hm0 : m ≠ [] := fun x => by rw [x] at h2; simp [dec] at h2; omega
  have hD := dec_two hm
  unfold dec at h2 hD
  rw [if_neg hm0] at h2 hD
  have := decN_cont m.length (m.getD 0 0) (m.getD 1 0) (m.getD 2 0) (m.getD 3 0)
  have hj : j = 1 ∨ j = 2 ∨ j = 3 := by omega
  rcases hj with rfl | rfl | rfl
  · exact (this.1 (by omega)).2
  · exact this.2.1 (by omega)
  · exact this.2.2 (by omega)
theorem dec_ascii (x : Int) (t : List Int) (h : x < 128) : dec (x :: t) = (x, 1) := by
  unfold dec decN
  rw [if_neg (by simp)]
  simp [h]
end Go.Proofs.YtifgpigicgaadaaGreatDoor.Lex
end
section
namespace Go.Proofs.YtifgpigicgaadaaGreatDoor.Q
open Go.RowKit Go.Proofs.YtifgpigicgaadaaGreatDoorH Go.Proofs.YtifgpigicgaadaaGreatDoorW.PrintWords Go.Proofs.YtifgpigicgaadaaGreatDoorW.PrintLast Go.Proofs.YtifgpigicgaadaaGreatDoorW.PrintMore
attribute [local go_sem] max2_int min2_int max_two min_two max_three min_three max_four min_four
set_option linter.unusedVariables false
set_option linter.unusedSimpArgs false
section
/-! ### lexer_quoted: function 62 -/
mutual
def lexer_quoted.l0 : Nat → ByteArray → List Int → Int → Option (ByteArray × Int)
 | 0,_,_,_ => none
 | k + 1,x0,x4,x5 => if x5 < (x0.size : Int) then (if 0 ≤ x5 then (if (bt x0 x5) = 34 then (if (x4.length : Int) > 256 then (lexer_quoted.j1 k x4 x5 true) else ((chars_Wrong.f k x4).bind fun t363 => (lexer_quoted.j1 k x4 x5 (decide (t363 ≥ 0))))) else (if (bt x0 x5) = 92 then (if (wrap64 (x5 + 1)) = (x0.size : Int) then (some ((⟨#[]⟩ : ByteArray),0)) else (if 0 ≤ (wrap64 (x5 + 1)) then (if (wrap64 (x5 + 1)) < (x0.size : Int) then ((lexer_is.f (bt x0 (wrap64 (x5 + 1))) (⟨#[34,92]⟩ : ByteArray)).bind fun t356 => (if t356 = true then (if x4.length < 140737488355328 then (lexer_quoted.l0 k x0 (x4 ++ [bt x0 (wrap64 (x5 + 1))]) (wrap64 ((wrap64 (x5 + 1)) + 1))) else (none)) else (some ((⟨#[]⟩ : ByteArray),0)))) else (none)) else (none))) else (if x4.length < 140737488355328 then (lexer_quoted.l0 k x0 (x4 ++ [bt x0 x5]) (wrap64 (x5 + 1))) else (none)))) else (none)) else (some ((⟨#[]⟩ : ByteArray),0))
def lexer_quoted.j1 : Nat → List Int → Int → Bool → Option (ByteArray × Int)
 | 0,_,_,_ => none
 | k + 1,x4,x5,x29 => if x29 = true then (some ((⟨#[]⟩ : ByteArray),0)) else (some (strOfNums x4,wrap64 (x5 + 1)))
end
def lexer_quoted.f (k : Nat) (a0 : ByteArray) : Option (ByteArray × Int) := lexer_quoted.l0 k a0 ([] : List Int) 1
theorem lexer_quoted.mono_l : ∀ k,(∀ y0 y1 y2,LeO (lexer_quoted.l0 k y0 y1 y2) (lexer_quoted.l0 (k + 1) y0 y1 y2)) ∧ (∀ y0 y1 y2,LeO (lexer_quoted.j1 k y0 y1 y2) (lexer_quoted.j1 (k + 1) y0 y1 y2))
 | 0 => ⟨fun _ _ _ r h => by simp [lexer_quoted.l0] at h,fun _ _ _ r h => by simp [lexer_quoted.j1] at h⟩
 | k + 1 => by
  obtain ⟨ih0,ih1⟩ := lexer_quoted.mono_l k
  refine ⟨?_,?_⟩
  · intro y0 y1 y2
    unfold lexer_quoted.l0
    repeat' first
    | (with_reducible exact ih0 _ _ _)
    | (with_reducible exact ih1 _ _ _)
    | (with_reducible exact chars_Wrong.mono _ _)
    | (with_reducible exact LeO.refl _)
    | (with_reducible exact LeO.none _)
    | (with_reducible refine LeO.ite ?_ ?_)
    | (with_reducible refine LeO.bind ?_ (fun _ => ?_))
    | exact ih0 _ _ _
    | exact ih1 _ _ _
    | exact chars_Wrong.mono _ _
    | exact LeO.none _
    | refine LeO.ite ?_ ?_
    | refine LeO.bind ?_ (fun _ => ?_)
  · intro y0 y1 y2
    unfold lexer_quoted.j1
    repeat' first
    | (with_reducible exact ih0 _ _ _)
    | (with_reducible exact ih1 _ _ _)
    | (with_reducible exact chars_Wrong.mono _ _)
    | (with_reducible exact LeO.refl _)
    | (with_reducible exact LeO.none _)
    | (with_reducible refine LeO.ite ?_ ?_)
    | (with_reducible refine LeO.bind ?_ (fun _ => ?_))
    | exact ih0 _ _ _
    | exact ih1 _ _ _
    | exact chars_Wrong.mono _ _
    | exact LeO.none _
    | refine LeO.ite ?_ ?_
    | refine LeO.bind ?_ (fun _ => ?_)
theorem lexer_quoted.mono : ∀ a0 k,LeO (lexer_quoted.f k a0) (lexer_quoted.f (k + 1) a0) := by
 intro a0 k
 obtain ⟨ih0,ih1⟩ := lexer_quoted.mono_l k
 unfold lexer_quoted.f
 repeat' first
  | (with_reducible exact ih0 _ _ _)
  | (with_reducible exact ih1 _ _ _)
  | (with_reducible exact chars_Wrong.mono _ _)
  | (with_reducible exact LeO.refl _)
  | (with_reducible exact LeO.none _)
  | (with_reducible refine LeO.ite ?_ ?_)
  | (with_reducible refine LeO.bind ?_ (fun _ => ?_))
  | exact ih0 _ _ _
  | exact ih1 _ _ _
  | exact chars_Wrong.mono _ _
  | exact LeO.none _
  | refine LeO.ite ?_ ?_
  | refine LeO.bind ?_ (fun _ => ?_)
set_option maxHeartbeats 8000000 in
set_option maxRecDepth 100000 in
theorem lexer_quoted.calls (k : Nat) (a0 : ByteArray) (r1 : ByteArray) (r2 : Int) (w : World) (hL_ : Laid w) (h : lexer_quoted.f k a0 = some (r1,r2)) :
 Calls Tryz.prog 62 #[.string a0] w fun e w' => e = .returned (.tuple #[.string r1,.int .i64 r2]) ∧ Below w.heap.size w w' := by
 have HB := Aside0.mk (Below.refl w.heap.size w)
 have HLd := Aside0.mk hL_
 clear hL_
 have H : (lexer_quoted.l0 k a0 ([] : List Int) 1) = some (r1,r2) := h
 clear h
 have H' := Aside0.mk H
 clear H
 go_enter Tryz.func62,Tryz.ntmps62
 go_wp2
 go_loopg [4,5] k (fun kq v4 v5 w' => ∃ (x4_1 : List Int) (x5_1 : Int),v5 = .int .i64 x5_1 ∧ Aside0 (lexer_quoted.l0 kq a0 x4_1 x5_1 = some (r1,r2)) ∧ Aside0 (kq ≤ k) ∧ Aside0 (Kd.R (Kd.int .u8) 5 w' w.heap.size (fun _ => True) v4 x4_1) ∧ Aside0 (Below w.heap.size w w'))
 case atStart => exact ⟨(([] : List Int)),(1),(by first | rfl | (simp; done) | (simp [*]; done)),H',⟨Nat.le_refl _⟩,⟨by first | exact Kd.R_nil _ _ _ _ _ | exact Kd.N_nil _ _ _ _ _ | exact Kd.V_nil _ _ _ _ _ | exact Kd.Q_nil _ _ _ _ _ | exact Kd.S_nil _ _ _ _ _⟩,⟨by repeat (first | (with_reducible first | exact HB.out | apply below_alloc | apply pw_below_drewN | apply below_drew1 | apply bytes_below1) | exact HB.out)⟩⟩
 case round =>
  clear H'
  obtain ⟨x4_1,x5_1,rfl,HA,HK1,HO_4,HB⟩ := hrel
  cases gk with
  | zero => exact absurd HA.out (by simp [lexer_quoted.l0])
  | succ k1 =>
   have H := HA.out
   clear HA
   simp only [lexer_quoted.l0] at H
   by_cases c2 : x5_1 < (a0.size : Int)
   · rw [if_pos c2] at H
     have c2b0 : decide (x5_1 < (a0.size : Int)) = true := decide_eq_true c2
     clear c2
     by_cases c3 : 0 ≤ x5_1
     · rw [if_pos c3] at H
       have c3b0 : decide (0 ≤ x5_1) = true := decide_eq_true c3
       clear c3
       by_cases c5 : (bt a0 x5_1) = 34
       · rw [if_pos c5] at H
         have c5b0 : ((bt a0 x5_1) == 34) = true := beq_iff_eq.mpr c5
         have c5b1 : ((bt a0 x5_1) != 34) = false := bne_eq_false_iff_eq.mpr c5
         clear c5
         have HC6 := Aside0.mk H
         clear H
         have p4 : 0 ≤ (x5_1 : Int) := of_decide_eq_true (by first | (with_reducible assumption) | assumption)
         have q4 : x5_1 < (a0.size : Int) := of_decide_eq_true (by first | (with_reducible assumption) | assumption)
         have hx4 := bt_at a0 x5_1
         replace p4 := eq_true p4
         replace q4 := eq_true q4
         go_upto_region 8 with (fail)
         go_cut [29] (fun v29 wc => ∃ (kq : Nat) (x29_5 : Bool),v29 = .bool x29_5 ∧ Aside0 (lexer_quoted.j1 kq x4_1 x5_1 x29_5 = some (r1,r2)) ∧ Aside0 (kq ≤ k1) ∧ Aside0 (Kd.R (Kd.int .u8) 5 wc w.heap.size (fun _ => True) u4 x4_1) ∧ Aside0 (Below w.heap.size w wc))
         case first =>
          have H := HC6.out
          clear HC6
          by_cases c7 : (x4_1.length : Int) > 256
          · rw [if_pos c7] at H
            have c7b0 : decide (256 < (x4_1.length : Int)) = true := decide_eq_true c7
            have c7b1 : decide (256 < x4_1.length) = true := decide_eq_true (by omega)
            clear c7
            (first | rw [c7b0] | (simp only [i64_w,i32_w]; rw [c7b0]) | skip)
            have H' := Aside0.mk H
            clear H
            obtain ⟨Ao8,co8,eo8⟩ := Kd.R_slice HO_4.out
            subst eo8
            go_wp2
            go_meet
            case rel => exact ⟨_,(true),(by first | rfl | (simp; done) | (simp [*]; done)),H',⟨by have := HK1.out; first | omega | exact Nat.le_refl _⟩,⟨by (with_reducible repeat (first | apply Kd.R_alloc | apply R_bytes | apply Kd.R_drewN | apply Kd.R_drew)); exact HO_4.out⟩,⟨by repeat (first | (with_reducible first | exact HB.out | apply below_alloc | apply pw_below_drewN | apply below_drew1 | apply bytes_below1) | exact HB.out)⟩⟩
          · rw [if_neg c7] at H
            have c7b0 : decide (256 < (x4_1.length : Int)) = false := decide_eq_false c7
            have c7b1 : decide (256 < x4_1.length) = false := decide_eq_false (by omega)
            clear c7
            (first | rw [c7b0] | (simp only [i64_w,i32_w]; rw [c7b0]) | skip)
            replace H := Option.bind_eq_some_iff.mp H
            obtain ⟨t363,A90,H⟩ := H
            replace H : (lexer_quoted.j1 k1 x4_1 x5_1 (decide (t363 ≥ 0))) = some (r1,r2) := H
            have A9 := Aside0.mk A90
            clear A90
            have H' := Aside0.mk H
            clear H
            obtain ⟨Ao10,co10,eo10⟩ := Kd.R_slice HO_4.out
            subst eo10
            go_wp2_with (first | (go_at_call 26; (with_reducible refine (chars_Wrong.calls k1 _ _ x4_1 t363 _ ?side1 ?side2 ?side3 A9.out).mono ?_); (case side1 => repeat (first | exact (Kd.R_reads' HO_4.out).2.2 | (with_reducible refine Kd.C_alloc ?_ _) | (with_reducible refine C_bytes ?_ _ _) | (with_reducible refine Kd.C_drewN ?_ _) | (with_reducible refine Kd.C_drew ?_))); (case side2 => exact (Kd.R_reads' HO_4.out).2.1); (case side3 => exact Laid_below HLd.out (by repeat (first | (with_reducible first | exact HB.out | apply below_alloc | apply pw_below_drewN | apply below_drew1 | apply bytes_below1) | exact HB.out))); rintro e w11 ⟨rfl,hb⟩; have n0_ := Aside0.mk (Kd.R_below (by (with_reducible repeat (first | apply Kd.R_alloc | apply R_bytes | apply Kd.R_drewN | apply Kd.R_drew)); exact HO_4.out) hb); have n1_ := Aside0.mk (below_step (by repeat (first | (with_reducible first | exact HB.out | apply below_alloc | apply pw_below_drewN | apply below_drew1 | apply bytes_below1) | exact HB.out)) hb); clear HO_4; clear HB; have HO_4 := n0_; have HB := n1_; clear n0_ n1_; (try clear hb); (try clear hb2); (try clear hk); (try clear hi)))
            go_meet
            case rel => exact ⟨_,(decide (t363 ≥ 0)),(by first | rfl | (simp; done) | (simp [*]; done)),H',⟨by have := HK1.out; first | omega | exact Nat.le_refl _⟩,⟨by (with_reducible repeat (first | apply Kd.R_alloc | apply R_bytes | apply Kd.R_drewN | apply Kd.R_drew)); exact HO_4.out⟩,⟨by repeat (first | (with_reducible first | exact HB.out | apply below_alloc | apply pw_below_drewN | apply below_drew1 | apply bytes_below1) | exact HB.out)⟩⟩
         case rest =>
          clear HC6
          try clear c2
          try clear c2b0
          try clear p2
          try clear c3
          try clear c3b0
          try clear p4
          try clear q4
          try clear hx4
          try clear c5
          try clear c5b0
          try clear c5b1
          try clear c6
          try clear c7
          try clear c7b0
          try clear c7b1
          try clear p4
          try clear q4
          obtain ⟨kq,x29_5,rfl,HA,HJ5,HO_4,HB⟩ := hcut
          cases kq with
          | zero => exact absurd HA.out (by simp [lexer_quoted.j1])
          | succ kj5 =>
           have H := HA.out
           clear HA
           simp only [lexer_quoted.j1] at H
           by_cases c12 : x29_5 = true
           · subst c12
             have H1 : (some ((⟨#[]⟩ : ByteArray),0)) = some (r1,r2) := by rw [if_pos rfl] at H; exact H
             clear H
             have H := H1
             clear H1
             simp only [Option.some.injEq,Prod.mk.injEq] at H
             obtain ⟨rfl,rfl⟩ := H
             go_wp2
             go_ret2
             exact ⟨by first | rfl | (simp [errW_none,errW_some] <;> rfl) | (simp [*,errW_none,errW_some] <;> rfl),by repeat (first | (with_reducible first | exact HB.out | apply below_alloc | apply pw_below_drewN | apply below_drew1 | apply bytes_below1) | exact HB.out)⟩
           · replace c12 := Bool.eq_false_iff.mpr c12
             subst c12
             have H1 : (some (strOfNums x4_1,wrap64 (x5_1 + 1))) = some (r1,r2) := by rw [if_neg (show ¬ (false = true) by decide)] at H; exact H
             clear H
             have H := H1
             clear H1
             simp only [Option.some.injEq,Prod.mk.injEq] at H
             obtain ⟨rfl,rfl⟩ := H
             have hcv13 := own_string (P := Tryz.prog) Tryz.underlying24 Tryz.underlying5 Tryz.underlying9 (Kd.own_of_R HO_4.out)
             go_wp2
             go_ret2
             exact ⟨by first | rfl | (simp [errW_none,errW_some] <;> rfl) | (simp [*,errW_none,errW_some] <;> rfl),by repeat (first | (with_reducible first | exact HB.out | apply below_alloc | apply pw_below_drewN | apply below_drew1 | apply bytes_below1) | exact HB.out)⟩
       · rw [if_neg c5] at H
         have c5b0 : ((bt a0 x5_1) == 34) = false := beq_eq_false_iff_ne.mpr c5
         have c5b1 : ((bt a0 x5_1) != 34) = true := bne_iff_ne.mpr c5
         by_cases c14 : (bt a0 x5_1) = 92
         · rw [if_pos c14] at H
           have c14b0 : ((bt a0 x5_1) == 92) = true := beq_iff_eq.mpr c14
           have c14b1 : ((bt a0 x5_1) != 92) = false := bne_eq_false_iff_eq.mpr c14
           clear c14
           by_cases c15 : (wrap64 (x5_1 + 1)) = (a0.size : Int)
           · rw [if_pos c15] at H
             have c15b0 : ((wrap64 (x5_1 + 1)) == (a0.size : Int)) = true := beq_iff_eq.mpr c15
             have c15b1 : ((wrap64 (x5_1 + 1)) != (a0.size : Int)) = false := bne_eq_false_iff_eq.mpr c15
             clear c15
             simp only [Option.some.injEq,Prod.mk.injEq] at H
             obtain ⟨rfl,rfl⟩ := H
             have p4 : 0 ≤ (x5_1 : Int) := of_decide_eq_true (by first | (with_reducible assumption) | assumption)
             have q4 : x5_1 < (a0.size : Int) := of_decide_eq_true (by first | (with_reducible assumption) | assumption)
             have hx4 := bt_at a0 x5_1
             replace p4 := eq_true p4
             replace q4 := eq_true q4
             go_wp2
             go_ret2
             exact ⟨by first | rfl | (simp [errW_none,errW_some] <;> rfl) | (simp [*,errW_none,errW_some] <;> rfl),by repeat (first | (with_reducible first | exact HB.out | apply below_alloc | apply pw_below_drewN | apply below_drew1 | apply bytes_below1) | exact HB.out)⟩
           · rw [if_neg c15] at H
             have c15b0 : ((wrap64 (x5_1 + 1)) == (a0.size : Int)) = false := beq_eq_false_iff_ne.mpr c15
             have c15b1 : ((wrap64 (x5_1 + 1)) != (a0.size : Int)) = true := bne_iff_ne.mpr c15
             obtain ⟨ji16,hji16⟩ : ∃ j_ : Int,(wrap64 (x5_1 + 1)) = j_ := ⟨_,rfl⟩
             replace H : (if 0 ≤ (ji16) then (if (ji16) < (a0.size : Int) then ((lexer_is.f (bt a0 (ji16)) (⟨#[34,92]⟩ : ByteArray)).bind fun t356 => (if t356 = true then (if x4_1.length < 140737488355328 then (lexer_quoted.l0 k1 a0 (x4_1 ++ [bt a0 (ji16)]) (wrap64 ((ji16) + 1))) else (none)) else (some ((⟨#[]⟩ : ByteArray),0)))) else (none)) else (none)) = some (r1,r2) := by first | (rw [hji16] at H; exact H) | (simp only [hji16] at H ⊢; exact H)
             (try rw [hji16] at c15b0)
             (try rw [hji16] at c15b1)
             have hji16w : (IntKind.i64.wrap (x5_1 + 1)) = ji16 := (i64_w _).trans hji16
             by_cases c17 : 0 ≤ (ji16)
             · rw [if_pos c17] at H
               have c17b0 : decide (0 ≤ (ji16)) = true := decide_eq_true c17
               clear c17
               by_cases c18 : (ji16) < (a0.size : Int)
               · rw [if_pos c18] at H
                 have c18b0 : decide ((ji16) < (a0.size : Int)) = true := decide_eq_true c18
                 clear c18
                 replace H := Option.bind_eq_some_iff.mp H
                 obtain ⟨t356,A200,H⟩ := H
                 replace H : (if t356 = true then (if x4_1.length < 140737488355328 then (lexer_quoted.l0 k1 a0 (x4_1 ++ [bt a0 (ji16)]) (wrap64 ((ji16) + 1))) else (none)) else (some ((⟨#[]⟩ : ByteArray),0))) = some (r1,r2) := H
                 have A20 := Aside0.mk A200
                 clear A200
                 by_cases c21 : t356 = true
                 · subst c21
                   have H1 : (if x4_1.length < 140737488355328 then (lexer_quoted.l0 k1 a0 (x4_1 ++ [bt a0 (ji16)]) (wrap64 ((ji16) + 1))) else (none)) = some (r1,r2) := by rw [if_pos rfl] at H; exact H
                   clear H
                   have H := H1
                   clear H1
                   by_cases c23 : x4_1.length < 140737488355328
                   · rw [if_pos c23] at H
                     have LMc23 := Aside0.mk c23
                     clear c23
                     obtain ⟨y357,hy357⟩ : ∃ y_ : List Int,y_ = (x4_1 ++ [bt a0 (ji16)]) := ⟨_,rfl⟩
                     replace H : (lexer_quoted.l0 k1 a0 y357 (wrap64 ((ji16) + 1))) = some (r1,r2) := by first | (rw [hy357]; with_reducible exact H) | (have H2_ := (Option.bind_some _ _).symm.trans H; rw [hy357]; with_reducible exact H2_) | (have H2_ := (Option.bind_some _ _).symm.trans H; with_reducible exact H2_) | with_reducible exact H | (rw [hy357]; exact H) | exact H
                     have Ny357 := Aside0.mk hy357
                     clear hy357
                     have H' := Aside0.mk H
                     clear H
                     have p4 : 0 ≤ (x5_1 : Int) := of_decide_eq_true (by first | (with_reducible assumption) | assumption)
                     have q4 : x5_1 < (a0.size : Int) := of_decide_eq_true (by first | (with_reducible assumption) | assumption)
                     have hx4 := bt_at a0 x5_1
                     replace p4 := eq_true p4
                     replace q4 := eq_true q4
                     have p19 : 0 ≤ ((ji16) : Int) := of_decide_eq_true (by first | (with_reducible assumption) | assumption)
                     have q19 : (ji16) < (a0.size : Int) := of_decide_eq_true (by first | (with_reducible assumption) | assumption)
                     have hx19 := bt_at a0 (ji16)
                     replace p19 := eq_true p19
                     replace q19 := eq_true q19
                     go_wp2_with (first | (go_at_call 59; (with_reducible refine (lexer_is.calls (bt a0 (ji16)) (⟨#[34,92]⟩ : ByteArray) true _ A20.out).mono ?_); rintro e w' ⟨rfl,⟨nd,rfl⟩⟩; have p22 : 0 ≤ ((ji16) : Int) := of_decide_eq_true (by first | (with_reducible assumption) | assumption); have q22 : (ji16) < (a0.size : Int) := of_decide_eq_true (by first | (with_reducible assumption) | assumption); have hx22 := bt_at a0 (ji16); replace p22 := eq_true p22; replace q22 := eq_true q22) | ((with_reducible refine gate_builtin (b := .append) (xs := #[.tmp 47,.tmp 51]) rfl ?_); at_builtin; refine Kd.R_append (Kd.int .u8) (w0 := w) w.heap.size rfl (.tmp 47) (.tmp 51) 24 5 (.int .u8 0) 1 rfl Tryz.underlying24 info5 rfl (by decide) (by omega) u4 x4_1 (bt a0 (ji16)) [.int .u8 (bt a0 (ji16))] (fun _ => True) (fun _ => False) rfl rfl ?aP (fun _ hk => hk.elim) ?aF ?aO ?aB ?aS ?aL ?_; (case aP => exact rfl); (case aB => exact (by repeat (first | (with_reducible first | exact HB.out | apply below_alloc | apply pw_below_drewN | apply below_drew1 | apply bytes_below1) | exact HB.out))); (case aF => exact (fun _ _ => trivial)); (case aO => exact (by (with_reducible repeat (first | apply Kd.R_alloc | apply R_bytes | apply Kd.R_drewN | apply Kd.R_drew)); exact HO_4.out)); (case aS => exact (below_size (by repeat (first | (with_reducible first | exact HB.out | apply below_alloc | apply pw_below_drewN | apply below_drew1 | apply bytes_below1) | exact HB.out)))); (case aL => have := LMc23.out; omega); intro v358 w24 ho hb hg hat; rw [← Ny357.out] at ho; have n0_ := Aside0.mk (hb); have n1_ := Aside0.mk (ho); clear HB; clear HO_4; have HB := n0_; have HO359 := n1_; clear n0_ n1_; clear ho hb hg hat))
                     go_roundg k1
                     case measure => have := HK1.out; omega
                     case rel => exact ⟨(y357),(wrap64 ((ji16) + 1)),(by first | rfl | (simp; done) | (simp only [← hji16] <;> (first | rfl | simp)) | (simp [*]; done)),H',⟨by have := HK1.out; omega⟩,⟨by (with_reducible repeat (first | apply Kd.R_alloc | apply R_bytes | apply Kd.R_drewN | apply Kd.R_drew)); exact HO359.out⟩,⟨by repeat (first | (with_reducible first | exact HB.out | apply below_alloc | apply pw_below_drewN | apply below_drew1 | apply bytes_below1) | exact HB.out)⟩⟩
                   · rw [if_neg c23] at H
                     exact absurd H (by simp)
                 · replace c21 := Bool.eq_false_iff.mpr c21
                   subst c21
                   have H1 : (some ((⟨#[]⟩ : ByteArray),0)) = some (r1,r2) := by rw [if_neg (show ¬ (false = true) by decide)] at H; exact H
                   clear H
                   have H := H1
                   clear H1
                   simp only [Option.some.injEq,Prod.mk.injEq] at H
                   obtain ⟨rfl,rfl⟩ := H
                   have p4 : 0 ≤ (x5_1 : Int) := of_decide_eq_true (by first | (with_reducible assumption) | assumption)
                   have q4 : x5_1 < (a0.size : Int) := of_decide_eq_true (by first | (with_reducible assumption) | assumption)
                   have hx4 := bt_at a0 x5_1
                   replace p4 := eq_true p4
                   replace q4 := eq_true q4
                   have p19 : 0 ≤ ((ji16) : Int) := of_decide_eq_true (by first | (with_reducible assumption) | assumption)
                   have q19 : (ji16) < (a0.size : Int) := of_decide_eq_true (by first | (with_reducible assumption) | assumption)
                   have hx19 := bt_at a0 (ji16)
                   replace p19 := eq_true p19
                   replace q19 := eq_true q19
                   go_wp2_with (first | (go_at_call 59; (with_reducible refine (lexer_is.calls (bt a0 (ji16)) (⟨#[34,92]⟩ : ByteArray) false _ A20.out).mono ?_); rintro e w' ⟨rfl,⟨nd,rfl⟩⟩))
                   go_ret2
                   exact ⟨by first | rfl | (simp [errW_none,errW_some] <;> rfl) | (simp only [← hji16]; first | rfl | (simp [errW_none,errW_some] <;> rfl)) | (simp [*,errW_none,errW_some] <;> rfl),by repeat (first | (with_reducible first | exact HB.out | apply below_alloc | apply pw_below_drewN | apply below_drew1 | apply bytes_below1) | exact HB.out)⟩
               · rw [if_neg c18] at H
                 exact absurd H (by simp)
             · rw [if_neg c17] at H
               exact absurd H (by simp)
         · rw [if_neg c14] at H
           have c14b0 : ((bt a0 x5_1) == 92) = false := beq_eq_false_iff_ne.mpr c14
           have c14b1 : ((bt a0 x5_1) != 92) = true := bne_iff_ne.mpr c14
           by_cases c26 : x4_1.length < 140737488355328
           · rw [if_pos c26] at H
             have LMc26 := Aside0.mk c26
             clear c26
             obtain ⟨y360,hy360⟩ : ∃ y_ : List Int,y_ = (x4_1 ++ [bt a0 x5_1]) := ⟨_,rfl⟩
             replace H : (lexer_quoted.l0 k1 a0 y360 (wrap64 (x5_1 + 1))) = some (r1,r2) := by first | (rw [hy360]; with_reducible exact H) | (have H2_ := (Option.bind_some _ _).symm.trans H; rw [hy360]; with_reducible exact H2_) | (have H2_ := (Option.bind_some _ _).symm.trans H; with_reducible exact H2_) | with_reducible exact H | (rw [hy360]; exact H) | exact H
             have Ny360 := Aside0.mk hy360
             clear hy360
             have H' := Aside0.mk H
             clear H
             have p4 : 0 ≤ (x5_1 : Int) := of_decide_eq_true (by first | (with_reducible assumption) | assumption)
             have q4 : x5_1 < (a0.size : Int) := of_decide_eq_true (by first | (with_reducible assumption) | assumption)
             have hx4 := bt_at a0 x5_1
             replace p4 := eq_true p4
             replace q4 := eq_true q4
             have p25 : 0 ≤ (x5_1 : Int) := of_decide_eq_true (by first | (with_reducible assumption) | assumption)
             have q25 : x5_1 < (a0.size : Int) := of_decide_eq_true (by first | (with_reducible assumption) | assumption)
             have hx25 := bt_at a0 x5_1
             replace p25 := eq_true p25
             replace q25 := eq_true q25
             go_wp2_with (first | ((with_reducible refine gate_builtin (b := .append) (xs := #[.tmp 47,.tmp 51]) rfl ?_); at_builtin; refine Kd.R_append (Kd.int .u8) (w0 := w) w.heap.size rfl (.tmp 47) (.tmp 51) 24 5 (.int .u8 0) 1 rfl Tryz.underlying24 info5 rfl (by decide) (by omega) u4 x4_1 (bt a0 x5_1) [.int .u8 (bt a0 x5_1)] (fun _ => True) (fun _ => False) rfl rfl ?aP (fun _ hk => hk.elim) ?aF ?aO ?aB ?aS ?aL ?_; (case aP => exact rfl); (case aB => exact (by repeat (first | (with_reducible first | exact HB.out | apply below_alloc | apply pw_below_drewN | apply below_drew1 | apply bytes_below1) | exact HB.out))); (case aF => exact (fun _ _ => trivial)); (case aO => exact (by (with_reducible repeat (first | apply Kd.R_alloc | apply R_bytes | apply Kd.R_drewN | apply Kd.R_drew)); exact HO_4.out)); (case aS => exact (below_size (by repeat (first | (with_reducible first | exact HB.out | apply below_alloc | apply pw_below_drewN | apply below_drew1 | apply bytes_below1) | exact HB.out)))); (case aL => have := LMc26.out; omega); intro v361 w27 ho hb hg hat; rw [← Ny360.out] at ho; have n0_ := Aside0.mk (hb); have n1_ := Aside0.mk (ho); clear HB; clear HO_4; have HB := n0_; have HO362 := n1_; clear n0_ n1_; clear ho hb hg hat))
             go_roundg k1
             case measure => have := HK1.out; omega
             case rel => exact ⟨(y360),(wrap64 (x5_1 + 1)),(by first | rfl | (simp; done) | (simp [*]; done)),H',⟨by have := HK1.out; omega⟩,⟨by (with_reducible repeat (first | apply Kd.R_alloc | apply R_bytes | apply Kd.R_drewN | apply Kd.R_drew)); exact HO362.out⟩,⟨by repeat (first | (with_reducible first | exact HB.out | apply below_alloc | apply pw_below_drewN | apply below_drew1 | apply bytes_below1) | exact HB.out)⟩⟩
           · rw [if_neg c26] at H
             exact absurd H (by simp)
     · rw [if_neg c3] at H
       exact absurd H (by simp)
   · rw [if_neg c2] at H
     have c2b0 : decide (x5_1 < (a0.size : Int)) = false := decide_eq_false c2
     clear c2
     simp only [Option.some.injEq,Prod.mk.injEq] at H
     obtain ⟨rfl,rfl⟩ := H
     go_wp2
     go_ret2
     exact ⟨by first | rfl | (simp [errW_none,errW_some] <;> rfl) | (simp [*,errW_none,errW_some] <;> rfl),by repeat (first | (with_reducible first | exact HB.out | apply below_alloc | apply pw_below_drewN | apply below_drew1 | apply bytes_below1) | exact HB.out)⟩
end
end Go.Proofs.YtifgpigicgaadaaGreatDoor.Q
end
