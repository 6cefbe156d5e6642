/- Several texts in one, in their order. -/
import Derived.Test.YtifgpigicgaadaaDoorBValueOrders1
import Derived.Test.YtifgpigicgaadaaDoorBValueOrders4
import Derived.Test.YtifgpigicgaadaaDoorBValueOrders5
import Derived.Test.YtifgpigicgaadaaDoorBValueOrders6
import Derived.Test.YtifgpigicgaadaaDoorBValueOrders7
section
/- What an operator makes: the program's and the reference's reckoning and judging are the same wherever they are asked. -/
set_option linter.unusedSimpArgs false
set_option linter.unusedVariables false
namespace Go.Proofs.YtifgpigicgaadaaDoor.Does
open Go.RowKit Go.Proofs.YtifgpigicgaadaaDoor.Q Go.Proofs.YtifgpigicgaadaaDoorW.PrintWords Go.Proofs.YtifgpigicgaadaaDoorW.PrintLast Go.Proofs.YtifgpigicgaadaaDoorH Go.Proofs.YtifgpigicgaadaaDoor.Chars Go.Proofs.YtifgpigicgaadaaDoor.Values

def In64 (x : Int) : Prop := -9223372036854775808 ≤ x ∧ x < 9223372036854775808
theorem wrap_in (x : Int) : In64 (wrap64 x) := by unfold In64 wrap64; omega
theorem wrap_at {x : Int} (h : In64 x) : wrap64 x = x := by unfold In64 at h; unfold wrap64; omega

/-! ## Signs of bits -/
theorem sgn_wrap (v : BitVec 64) : IntKind.i64.wrap (v.toNat : Int) < 0 ↔ v.msb = true := by
  have h := v.isLt
  rw [BitVec.msb_eq_decide, decide_eq_true_eq]
  simp [IntKind.wrap, IntKind.bits, IntKind.signed]
  omega
theorem msb_of (x : Int) (h : In64 x) : (BitVec.ofInt 64 x).msb = true ↔ x < 0 := by
  unfold In64 at h
  rw [BitVec.msb_eq_decide, decide_eq_true_eq, BitVec.toNat_ofInt]
  omega
theorem in_wrap (n : Int) : In64 (IntKind.i64.wrap n) := by
  unfold In64
  simp [IntKind.wrap, IntKind.bits, IntKind.signed]
  omega
theorem xor_in (x y : Int) : In64 (Go.bits .xor .i64 x y) := in_wrap _
theorem sgn_xor (x y : Int) (hx : In64 x) (hy : In64 y) : Go.bits .xor .i64 x y < 0 ↔ ¬ (x < 0 ↔ y < 0) := by
  have e : Go.bits .xor .i64 x y < 0 ↔ (BitVec.ofInt 64 x ^^^ BitVec.ofInt 64 y).msb = true := sgn_wrap _
  rw [e, BitVec.msb_xor, ← msb_of x hx, ← msb_of y hy]
  cases (BitVec.ofInt 64 x).msb <;> cases (BitVec.ofInt 64 y).msb <;> simp
theorem sgn_and (x y : Int) (hx : In64 x) (hy : In64 y) : Go.bits .and .i64 x y < 0 ↔ (x < 0 ∧ y < 0) := by
  have e : Go.bits .and .i64 x y < 0 ↔ (BitVec.ofInt 64 x &&& BitVec.ofInt 64 y).msb = true := sgn_wrap _
  rw [e, BitVec.msb_and, ← msb_of x hx, ← msb_of y hy]
  cases (BitVec.ofInt 64 x).msb <;> cases (BitVec.ofInt 64 y).msb <;> simp

theorem add_ok (a b : Int) (ha : In64 a) (hb : In64 b) :
    decide ((Go.bits .and .i64 (Go.bits .xor .i64 a (wrap64 (a + b))) (Go.bits .xor .i64 b (wrap64 (a + b)))) ≥ 0) = ((decide ((wrap64 (a + b)) > a)) == (decide (b > 0))) := by
  have hs := wrap_in (a + b)
  have h1 := sgn_and _ _ (xor_in a (wrap64 (a + b))) (xor_in b (wrap64 (a + b)))
  rw [sgn_xor a _ ha hs, sgn_xor b _ hb hs] at h1
  have hw : wrap64 (a + b) = a + b ∨ wrap64 (a + b) = a + b - 18446744073709551616 ∨ wrap64 (a + b) = a + b + 18446744073709551616 := by
    unfold In64 at ha hb; unfold wrap64; omega
  unfold In64 at ha hb hs
  generalize wrap64 (a + b) = s at *
  generalize Go.bits .and .i64 (Go.bits .xor .i64 a s) (Go.bits .xor .i64 b s) = q at *
  rw [Bool.eq_iff_iff]
  simp only [decide_eq_true_eq, beq_iff_eq, decide_eq_decide]
  omega
theorem sub_ok (a b : Int) (ha : In64 a) (hb : In64 b) :
    decide ((Go.bits .and .i64 (Go.bits .xor .i64 a b) (Go.bits .xor .i64 a (wrap64 (a - b)))) ≥ 0) = ((decide ((wrap64 (a - b)) < a)) == (decide (b > 0))) := by
  have hs := wrap_in (a - b)
  have h1 := sgn_and _ _ (xor_in a b) (xor_in a (wrap64 (a - b)))
  rw [sgn_xor a _ ha hs, sgn_xor a _ ha hb] at h1
  have hw : wrap64 (a - b) = a - b ∨ wrap64 (a - b) = a - b - 18446744073709551616 ∨ wrap64 (a - b) = a - b + 18446744073709551616 := by
    unfold In64 at ha hb; unfold wrap64; omega
  unfold In64 at ha hb hs
  generalize wrap64 (a - b) = s at *
  generalize Go.bits .and .i64 (Go.bits .xor .i64 a b) (Go.bits .xor .i64 a s) = q at *
  rw [Bool.eq_iff_iff]
  simp only [decide_eq_true_eq, beq_iff_eq, decide_eq_decide]
  omega

/-! ## Products -/
def mag (a : Int) : Int := if a < 0 then -a else a
theorem product_1_spec (a : Int) (h : In64 a) : value_product_1.f a = some (mag a) := by
  unfold In64 at h
  unfold value_product_1.f mag
  simp only [IntKind.wrap_u64]
  split
  · congr 1; omega
  · congr 1; omega
theorem mag_mul (a b : Int) : mag a * mag b = mag (a * b) := by
  unfold mag
  by_cases h1 : a < 0
  · by_cases h2 : b < 0
    · rw [if_pos h1, if_pos h2, if_neg (by have := Int.mul_pos_of_neg_of_neg h1 h2; omega), Int.neg_mul_neg]
    · by_cases h3 : b = 0
      · subst h3; simp
      · rw [if_pos h1, if_neg h2, if_pos (Int.mul_neg_of_neg_of_pos h1 (by omega)), Int.neg_mul]
  · by_cases h4 : a = 0
    · subst h4; simp
    · by_cases h2 : b < 0
      · rw [if_neg h1, if_pos h2, if_pos (Int.mul_neg_of_pos_of_neg (by omega) h2), Int.mul_neg]
      · rw [if_neg h1, if_neg h2, if_neg (by have := Int.mul_nonneg (a := a) (b := b) (by omega) (by omega); omega)]
instance (x : Int) : Decidable (In64 x) := by unfold In64; infer_instance
theorem sign_mul (a b : Int) : ((decide (a < 0)) != (decide (b < 0))) = true → a * b ≤ 0 := by
  intro h
  simp at h
  by_cases h1 : a < 0
  · exact Int.mul_nonpos_of_nonpos_of_nonneg (by omega) (by omega)
  · exact Int.mul_nonpos_of_nonneg_of_nonpos (by omega) (by omega)
theorem sign_mul' (a b : Int) : ¬ ((decide (a < 0)) != (decide (b < 0))) = true → 0 ≤ a * b := by
  intro h
  simp at h
  by_cases h1 : a < 0
  · exact Int.mul_nonneg_of_nonpos_of_nonpos (by omega) (by omega)
  · exact Int.mul_nonneg (by omega) (by omega)
theorem product_spec (a b : Int) (ha : In64 a) (hb : In64 b) : value_product.f a b = some (wrap64 (a * b), decide (In64 (a * b))) := by
  unfold value_product.f
  rw [product_1_spec a ha, Option.bind_some, product_1_spec b hb, Option.bind_some]
  unfold bits_Mul64.f
  have h1 : 0 ≤ mag a ∧ mag a < 18446744073709551616 := by unfold In64 at ha; unfold mag; split <;> omega
  have h2 : 0 ≤ mag b ∧ mag b < 18446744073709551616 := by unfold In64 at hb; unfold mag; split <;> omega
  rw [if_pos ⟨h1.1, h1.2, h2⟩, Option.bind_some, mag_mul]
  have s1 := sign_mul a b
  have s2 := sign_mul' a b
  generalize a * b = q at *
  by_cases hc : ((decide (a < 0)) != (decide (b < 0))) = true
  · have s1 := s1 hc
    rw [if_pos hc]
    have hm : mag q = -q := by unfold mag; split <;> omega
    simp only [hm]
    split
    · congr 2; rw [decide_eq_decide]; unfold In64; omega
    · congr 2; symm; rw [decide_eq_false_iff_not]; unfold In64; omega
  · have s2 := s2 hc
    rw [if_neg hc]
    have hm : mag q = q := by unfold mag; split <;> omega
    simp only [hm]
    split
    · congr 2; rw [decide_eq_decide]; unfold In64; omega
    · congr 2; symm; rw [decide_eq_false_iff_not]; unfold In64; omega
theorem tdiv_mul_in (a b : Int) (ha : In64 a) (hb : In64 b) (h0 : b ≠ 0) (h1 : ¬ (b = -1 ∧ a = -9223372036854775808)) :
    ((wrap64 (Int.tdiv (wrap64 (a * b)) b)) == a) = decide (In64 (a * b)) := by
  by_cases h : In64 (a * b)
  · rw [wrap_at h, Int.mul_tdiv_cancel _ h0, wrap_at ha]; simp [h]
  · simp only [h, decide_false, beq_eq_false_iff_ne, ne_eq]
    intro e
    have hp := wrap_in (a * b)
    have hq : ∃ m : Int, m ≠ 0 ∧ wrap64 (a * b) = a * b - m * 18446744073709551616 := by
      refine ⟨(a * b + 9223372036854775808) / 18446744073709551616, ?_, ?_⟩
      · unfold In64 at h; omega
      · unfold wrap64; omega
    obtain ⟨m, hm, hq⟩ := hq
    generalize hP : wrap64 (a * b) = p at *
    have hdm := Int.mul_tdiv_add_tmod p b
    have hlt : (Int.tmod p b).natAbs < b.natAbs := by
      rw [Int.natAbs_tmod]; exact Nat.mod_lt _ (by omega)
    have hr : Int.tdiv p b = a ∨ (Int.tdiv p b = 9223372036854775808 ∧ b = -1 ∧ p = -9223372036854775808) := by
      by_cases hin : In64 (Int.tdiv p b)
      · rw [wrap_at hin] at e; exact Or.inl e
      · right
        have hle : (Int.tdiv p b).natAbs = p.natAbs / b.natAbs := Int.natAbs_tdiv p b
        have hb2 : b.natAbs = 1 ∨ 2 ≤ b.natAbs := by omega
        have hpn : p.natAbs ≤ 9223372036854775808 := by unfold In64 at hp; omega
        rcases hb2 with hb1 | hb2
        · have : b = 1 ∨ b = -1 := by omega
          rcases this with rfl | rfl
          · rw [Int.tdiv_one] at hin; exact absurd hp hin
          · rw [Int.tdiv_neg, Int.tdiv_one] at hin ⊢
            unfold In64 at hin hp; omega
        · have h3 : p.natAbs / b.natAbs ≤ p.natAbs / 2 := Nat.div_le_div_left hb2 (by decide)
          unfold In64 at hin; omega
    rcases hr with hr | ⟨hr, rfl, hp2⟩
    · rw [hr] at hdm
      have hc : b * a = a * b := Int.mul_comm b a
      unfold In64 at hb
      omega
    · rw [hp2] at hq
      unfold In64 at ha
      omega

/-! ## An operator's integer -/
def reckonV (op a b : Int) : Int × Bool :=
  if op = 6 then (wrap64 (-a), (a != (-9223372036854775808)))
  else if op = 10 then (wrap64 (a + b), ((decide ((wrap64 (a + b)) > a)) == (decide (b > 0))))
  else if op = 11 then (wrap64 (a - b), ((decide ((wrap64 (a - b)) < a)) == (decide (b > 0))))
  else if op = 7 then (wrap64 (a * b), decide (In64 (a * b)))
  else if b = 0 then (0, false)
  else if op = 8 then (if b = -1 then (wrap64 (-a), (a != (-9223372036854775808))) else (wrap64 (Int.tdiv a b), true))
  else if b = -1 then (0, true)
  else (Int.tmod a b, true)
theorem reckon_spec (k : Nat) (op a b : Int) (ha : In64 a) (hb : In64 b) : value_reckon.f (k + 3) op a b = some (reckonV op a b) := by
  unfold value_reckon.f reckonV
  by_cases h6 : op = 6
  · rw [if_pos h6, if_pos h6]
  rw [if_neg h6, if_neg h6]
  by_cases h10 : op = 10
  · rw [if_pos h10, if_pos h10, add_ok a b ha hb]
  rw [if_neg h10, if_neg h10]
  by_cases h11 : op = 11
  · rw [if_pos h11, if_pos h11, sub_ok a b ha hb]
  rw [if_neg h11, if_neg h11]
  by_cases h7 : op = 7
  · rw [if_pos h7, if_pos h7, product_spec a b ha hb]; rfl
  rw [if_neg h7, if_neg h7]
  by_cases h0 : b = 0
  · rw [if_pos h0, if_pos h0]
  rw [if_neg h0, if_neg h0]
  by_cases h8 : op = 8 <;> by_cases h1 : b = -1
  · simp [h8, h1, value_reckon.j0]
  · simp [h8, h1, value_reckon.j0, h0]
  · simp [h8, h1, value_reckon.j0]
  · simp [h8, h1, value_reckon.j0, h0]
def wholeV (op a b : Int) : Int × Bool :=
  if op = 6 then (wrap64 (-a), (a != (-9223372036854775808)))
  else if op = 7 then (if a = 0 ∨ b = 0 then (0, true) else if (a = -1 ∧ b = -9223372036854775808) ∨ (b = -1 ∧ a = -9223372036854775808) then (0, false) else (wrap64 (a * b), decide (In64 (a * b))))
  else if op = 8 then (if b = 0 then (0, false) else if a = -9223372036854775808 ∧ b = -1 then (0, false) else (wrap64 (Int.tdiv a b), true))
  else if op = 9 then (if b = 0 then (0, false) else if b = -1 then (0, true) else (Int.tmod a b, true))
  else if op = 10 then (wrap64 (a + b), ((decide ((wrap64 (a + b)) > a)) == (decide (b > 0))))
  else (wrap64 (a - b), ((decide ((wrap64 (a - b)) < a)) == (decide (b > 0))))
theorem times_spec (k : Nat) (a b : Int) (ha : In64 a) (hb : In64 b) : dossierref07_times.f (k + 1) a b = some (if a = 0 ∨ b = 0 then (0, true) else if (a = -1 ∧ b = -9223372036854775808) ∨ (b = -1 ∧ a = -9223372036854775808) then (0, false) else (wrap64 (a * b), decide (In64 (a * b)))) := by
  unfold dossierref07_times.f
  by_cases h1 : a = 0
  · simp [h1, dossierref07_times.j0]
  by_cases h2 : b = 0
  · simp [h1, h2, dossierref07_times.j0]
  rw [if_neg h1, if_neg (by omega)]
  by_cases h3 : (a = -1 ∧ b = -9223372036854775808) ∨ (b = -1 ∧ a = -9223372036854775808)
  · rw [if_pos h3]
    rcases h3 with ⟨rfl, rfl⟩ | ⟨rfl, rfl⟩ <;> simp [dossierref07_times.j0]
  · rw [if_neg h3, dossierref07_times.j0, tdiv_mul_in a b ha hb h2 (fun h => h3 (Or.inr h))]
    simp only [h2, beq_iff_eq, if_false]
    repeat' split
    all_goals first | rfl | (exfalso; omega)
theorem whole_spec (k : Nat) (op a b : Int) (ha : In64 a) (hb : In64 b) : dossierref07_whole.f (k + 1) op a b = some (wholeV op a b) := by
  unfold dossierref07_whole.f wholeV
  by_cases h6 : op = 6
  · rw [if_pos h6, if_pos h6]
  rw [if_neg h6, if_neg h6]
  by_cases h7 : op = 7
  · rw [if_pos h7, if_pos h7, times_spec k a b ha hb]; rfl
  rw [if_neg h7, if_neg h7]
  repeat' split
  all_goals first | rfl | (exfalso; omega)
/-- The same wherever an operator makes an integer. -/
theorem reckon_whole (op a b : Int) (ha : In64 a) (hb : In64 b) (hop : 6 ≤ op ∧ op ≤ 11) : (reckonV op a b).2 = (wholeV op a b).2 ∧ ((wholeV op a b).2 = true → (reckonV op a b).1 = (wholeV op a b).1) := by
  have hc : op = 6 ∨ op = 7 ∨ op = 8 ∨ op = 9 ∨ op = 10 ∨ op = 11 := by omega
  rcases hc with rfl | rfl | rfl | rfl | rfl | rfl
  · simp [reckonV, wholeV]
  · simp only [reckonV, wholeV]
    simp
    by_cases h : a = 0 ∨ b = 0
    · rw [if_pos h]
      have e : a * b = 0 := by rcases h with rfl | rfl <;> simp
      rw [e]; simp [In64]; unfold wrap64; omega
    · rw [if_neg h]
      by_cases h3 : (a = -1 ∧ b = -9223372036854775808) ∨ (b = -1 ∧ a = -9223372036854775808)
      · rw [if_pos h3]
        have e : a * b = 9223372036854775808 := by rcases h3 with ⟨rfl, rfl⟩ | ⟨rfl, rfl⟩ <;> rfl
        rw [e]; simp [In64]
      · rw [if_neg h3]; simp
  · simp only [reckonV, wholeV]
    simp
    by_cases h0 : b = 0
    · simp [h0]
    by_cases h1 : b = -1
    · subst h1
      by_cases h2 : a = -9223372036854775808
      · simp [h2]
      · simp [h2, Int.tdiv_neg]
    · simp [h0, h1]
  · simp only [reckonV, wholeV]
    by_cases h0 : b = 0
    · simp [h0]
    by_cases h1 : b = -1
    · simp [h1]
    · simp [h0, h1]
  · simp [reckonV, wholeV]
  · simp [reckonV, wholeV]

/-! ## An operator's truth -/
theorem less_compare : ∀ a b : List UInt8, (Op.bytesLess a b = decide (Lib.compareBytes a b < 0)) ∧ (Op.bytesLess b a = decide (Lib.compareBytes a b > 0))
  | [], [] => ⟨rfl, rfl⟩
  | [], _ :: _ => ⟨rfl, rfl⟩
  | _ :: _, [] => ⟨rfl, rfl⟩
  | a :: x, b :: y => by
    have ih := less_compare x y
    unfold Op.bytesLess Lib.compareBytes
    by_cases h1 : a < b
    · have h2 : ¬ b < a := fun h => absurd (UInt8.lt_trans h1 h) (UInt8.lt_irrefl a)
      have h3 : ¬ b = a := fun h => by subst h; exact h2 h1
      simp [h1, h2, h3]
    · by_cases h2 : b < a
      · have h3 : ¬ a = b := fun h => by subst h; exact h1 h2
        simp [h1, h2, h3]
      · have h3 : a = b := UInt8.le_antisymm (UInt8.not_lt.1 h2) (UInt8.not_lt.1 h1)
        subst h3
        simp [UInt8.lt_irrefl, ih.1, ih.2]
def ordV (i : Int) (t : ByteArray) (j : Int) (u : ByteArray) : Int := if i < j then -1 else if j < i then 1 else Lib.compareBytes t.data.toList u.data.toList
theorem or2 (k : Nat) (x y : Int) : cmp_Or_int.f (k + 3) [x, y] = some (if x = 0 then (if y = 0 then 0 else y) else x) := by
  have w1 : wrap64 (0 + 1) = 1 := wrap_at (by unfold In64; omega)
  have w2 : wrap64 (1 + 1) = 2 := wrap_at (by unfold In64; omega)
  have r0 : rd [x, y] 0 = x := rfl
  have r1 : rd [x, y] 1 = y := rfl
  unfold cmp_Or_int.f
  rw [show k + 3 = (k + 2) + 1 from rfl, cmp_Or_int.l0, if_pos (by simp), if_pos (by simp), if_pos (by simp), r0, w1]
  by_cases hx : x = 0
  · rw [if_pos hx, if_pos hx, show k + 2 = (k + 1) + 1 from rfl, cmp_Or_int.l0, if_pos (by simp), if_pos (by simp), if_pos (by simp), r1, w2]
    by_cases hy : y = 0
    · rw [if_pos hy, if_pos hy, cmp_Or_int.l0, if_neg (by simp)]
    · rw [if_neg hy, if_neg hy]
  · rw [if_neg hx, if_neg hx]
def sameV (n1 i1 : Int) (y1 : Bool) (t1 : ByteArray) (n2 i2 : Int) (y2 : Bool) (t2 : ByteArray) : Bool := n1 == n2 && (i1 == i2 && (y1 == y2 && (t1.toList == t2.toList)))
def judgeV (op n1 i1 : Int) (y1 : Bool) (t1 : ByteArray) (n2 i2 : Int) (y2 : Bool) (t2 : ByteArray) : Bool :=
  if op = 5 then !y1 else if op = 18 then y1 && y2 else if op = 19 then y1 || y2
  else if op = 16 then sameV n1 i1 y1 t1 n2 i2 y2 t2 else if op = 17 then !sameV n1 i1 y1 t1 n2 i2 y2 t2
  else if op = 12 then decide (ordV i1 t1 i2 t2 < 0) else if op = 13 then decide (ordV i1 t1 i2 t2 ≤ 0) else if op = 14 then decide (ordV i1 t1 i2 t2 > 0) else decide (ordV i1 t1 i2 t2 ≥ 0)
theorem judge_spec (k : Nat) (op n1 i1 : Int) (y1 : Bool) (t1 : ByteArray) (n2 i2 : Int) (y2 : Bool) (t2 : ByteArray) : value_judge.f (k + 3) op n1 i1 y1 t1 n2 i2 y2 t2 = some (judgeV op n1 i1 y1 t1 n2 i2 y2 t2) := by
  unfold value_judge.f judgeV
  have c : cmp_Compare_int.f i1 i2 = some (if i1 < i2 then -1 else if i2 < i1 then 1 else 0) := by
    unfold cmp_Compare_int.f cmp_isNaN_int.f
    simp
    repeat' split
    all_goals rfl
  rw [c, Option.bind_some]
  unfold strings_Compare.f
  rw [Option.bind_some, or2, Option.bind_some]
  have e : (if (if i1 < i2 then (-1 : Int) else if i2 < i1 then 1 else 0) = 0 then (if Lib.compareBytes t1.data.toList t2.data.toList = 0 then 0 else Lib.compareBytes t1.data.toList t2.data.toList) else (if i1 < i2 then (-1 : Int) else if i2 < i1 then 1 else 0)) = ordV i1 t1 i2 t2 := by
    unfold ordV
    repeat' split
    all_goals omega
  rw [e]
  unfold sameV
  repeat' split
  all_goals first | rfl | (simp_all; done)
def truthV (op n1 i1 : Int) (y1 : Bool) (t1 : ByteArray) (n2 i2 : Int) (y2 : Bool) (t2 : ByteArray) (o : Int) : Bool :=
  if op = 5 then !y1 else if op = 12 then decide (o < 0) else if op = 13 then decide (o ≤ 0) else if op = 14 then decide (o > 0) else if op = 15 then decide (o ≥ 0)
  else if op = 16 then sameV n1 i1 y1 t1 n2 i2 y2 t2 else if op = 17 then !sameV n1 i1 y1 t1 n2 i2 y2 t2 else if op = 18 then y1 && y2 else y1 || y2
def orderV (i : Int) (t : ByteArray) (j : Int) (u : ByteArray) : Int :=
  if i < j ∨ Op.bytesLess t.toList u.toList = true then -1 else if i > j ∨ Op.bytesLess u.toList t.toList = true then 1 else 0
theorem order_spec (k : Nat) (n1 i1 : Int) (y1 : Bool) (t1 : ByteArray) (n2 i2 : Int) (y2 : Bool) (t2 : ByteArray) : dossierref07_order.f (k + 1) n1 i1 y1 t1 n2 i2 y2 t2 = some (orderV i1 t1 i2 t2) := by
  unfold dossierref07_order.f orderV
  simp only [dossierref07_order.j0]
  by_cases h1 : i1 < i2
  · simp [h1]
  · by_cases h2 : Op.bytesLess t1.toList t2.toList = true
    · simp [h1, h2]
    · by_cases h3 : i1 > i2
      · simp [h1, h2, h3]
      · by_cases h4 : Op.bytesLess t2.toList t1.toList = true
        · simp [h1, h2, h3, h4]
        · simp [h1, h2, h3, h4]
theorem truth_spec (k : Nat) (op n1 i1 : Int) (y1 : Bool) (t1 : ByteArray) (n2 i2 : Int) (y2 : Bool) (t2 : ByteArray) : dossierref07_truth.f (k + 1) op n1 i1 y1 t1 n2 i2 y2 t2 = some (truthV op n1 i1 y1 t1 n2 i2 y2 t2 (orderV i1 t1 i2 t2)) := by
  unfold dossierref07_truth.f truthV sameV
  rw [order_spec]
  simp only [Option.bind_some]
  repeat' split
  all_goals first | rfl | (simp_all; done)
/-- Of integers alone, or of texts alone, both orders are one. -/
theorem orders (i j : Int) (t u : ByteArray) (h : (t.toList = [] ∧ u.toList = []) ∨ (i = 0 ∧ j = 0)) : (ordV i t j u < 0 ↔ orderV i t j u < 0) ∧ (ordV i t j u > 0 ↔ orderV i t j u > 0) := by
  have hc := less_compare t.toList u.toList
  unfold ordV orderV
  rw [← Lib.toList_data, ← Lib.toList_data, hc.1, hc.2]
  rcases h with ⟨h1, h2⟩ | ⟨rfl, rfl⟩
  · rw [h1, h2]
    simp only [Lib.compareBytes]
    simp
  · generalize Lib.compareBytes t.toList u.toList = c
    simp
    constructor
    · repeat' split
      all_goals omega
    · repeat' split
      all_goals omega
theorem judge_truth (op n1 i1 : Int) (y1 : Bool) (t1 : ByteArray) (n2 i2 : Int) (y2 : Bool) (t2 : ByteArray) (hK : (kindV op n1 n2) = (2, true)) (h1 : canV n1 i1 y1 t1 = true) (h2 : canV n2 i2 y2 t2 = true) :
    judgeV op n1 i1 y1 t1 n2 i2 y2 t2 = truthV op n1 i1 y1 t1 n2 i2 y2 t2 (orderV i1 t1 i2 t2) := by
  by_cases hout : op < 5 ∨ 19 < op
  · rw [kindV_out _ _ _ hout] at hK; cases hK
  by_cases hm : 12 ≤ op ∧ op ≤ 15
  · have hk : n1 = n2 ∧ (n1 = 1 ∨ n1 = 3) := by
      unfold kindV at hK
      rw [if_neg (by omega), if_neg (by omega), if_neg (by omega), if_pos hm] at hK
      by_cases h : n1 = n2 ∧ (n1 = 1 ∨ n1 = 3)
      · exact h
      · rw [if_neg h] at hK; cases hK
    have ho : (t1.toList = [] ∧ t2.toList = []) ∨ (i1 = 0 ∧ i2 = 0) := by
      obtain ⟨rfl, rfl | rfl⟩ := hk
      · left
        simp [canV] at h1 h2
        exact ⟨h1.2, h2.2⟩
      · right
        simp [canV] at h1 h2
        exact ⟨h1.1, h2.1⟩
    have hO := orders i1 i2 t1 t2 ho
    unfold judgeV truthV
    generalize ordV i1 t1 i2 t2 = p at *
    generalize orderV i1 t1 i2 t2 = q at *
    have hc : op = 12 ∨ op = 13 ∨ op = 14 ∨ op = 15 := by omega
    rcases hc with rfl | rfl | rfl | rfl
    · simp; omega
    · simp; omega
    · simp; omega
    · simp; omega
  · have hc : op = 5 ∨ op = 16 ∨ op = 17 ∨ op = 18 ∨ op = 19 := by
      by_cases h : 6 ≤ op ∧ op ≤ 11
      · exfalso
        unfold kindV at hK
        rw [if_neg (by omega)] at hK
        repeat' split at hK
        all_goals first | (cases hK; done) | omega
      · omega
    rcases hc with rfl | rfl | rfl | rfl | rfl <;> simp [judgeV, truthV]

/-! ## An operator's value -/
def doV (J : Bool) (R K : Int × Bool) (c : Bool) : Int × Int × Bool × ByteArray × Bool :=
  if K.2 = true ∧ c = true then (if K.1 = 2 then (2, 0, J, ⟨#[]⟩, true) else if R.2 = true then (1, R.1, false, ⟨#[]⟩, true) else (0, 0, false, ⟨#[]⟩, false)) else (0, 0, false, ⟨#[]⟩, false)
theorem Do_spec (k : Nat) (op n1 i1 : Int) (y1 : Bool) (t1 : ByteArray) (n2 i2 : Int) (y2 : Bool) (t2 : ByteArray) (g1 : In64 i1) (g2 : In64 i2) :
    value_Do.f (k + 400) op n1 i1 y1 t1 n2 i2 y2 t2 = some (doV (judgeV op n1 i1 y1 t1 n2 i2 y2 t2) (reckonV op i1 i2) (kindV op n1 n2) (canV n1 i1 y1 t1 && canV n2 i2 y2 t2)) := by
  unfold value_Do.f doV
  rw [show k + 400 = (k + 395) + 5 from rfl, Kind_spec, Option.bind_some, show k + 395 + 5 = (k + 99) + 301 from rfl, Can_spec, Can_spec]
  simp only [Option.bind_some]
  rw [show k + 99 + 301 = (k + 399) + 1 from rfl]
  simp only [value_Do.j0]
  rw [show k + 399 = (k + 396) + 3 from rfl, judge_spec, reckon_spec _ _ _ _ g1 g2]
  unfold value_Int.f value_Bool.f
  generalize canV n1 i1 y1 t1 = c1
  generalize canV n2 i2 y2 t2 = c2
  generalize kindV op n1 n2 = K
  generalize reckonV op i1 i2 = R
  cases c1 <;> cases c2 <;> simp <;> repeat' split
  all_goals first | rfl | (simp_all; done)
theorem ref_Do_spec (k : Nat) (op n1 i1 : Int) (y1 : Bool) (t1 : ByteArray) (n2 i2 : Int) (y2 : Bool) (t2 : ByteArray) (g1 : In64 i1) (g2 : In64 i2) :
    dossierref07_Do.f (k + 400) op n1 i1 y1 t1 n2 i2 y2 t2 = some (doV (truthV op n1 i1 y1 t1 n2 i2 y2 t2 (orderV i1 t1 i2 t2)) (wholeV op i1 i2) (kindV op n1 n2) (canV n1 i1 y1 t1 && canV n2 i2 y2 t2)) := by
  unfold dossierref07_Do.f doV
  rw [show k + 400 = (k + 395) + 5 from rfl, ref_Kind_spec, Option.bind_some, show k + 395 + 5 = (k + 99) + 301 from rfl, ref_Can_spec, ref_Can_spec]
  simp only [Option.bind_some]
  rw [show k + 99 + 301 = (k + 399) + 1 from rfl]
  simp only [dossierref07_Do.j0]
  rw [show k + 399 = (k + 398) + 1 from rfl, truth_spec, whole_spec _ _ _ _ g1 g2]
  unfold dossierref07_Int.f dossierref07_Bool.f
  generalize canV n1 i1 y1 t1 = c1
  generalize canV n2 i2 y2 t2 = c2
  generalize kindV op n1 n2 = K
  generalize wholeV op i1 i2 = R
  cases c1 <;> cases c2 <;> simp <;> repeat' split
  all_goals first | rfl | (simp_all; done)
theorem kind_int (op a b : Int) (h : (kindV op a b).2 = true) : (kindV op a b).1 = 2 ∨ ((kindV op a b).1 = 1 ∧ 6 ≤ op ∧ op ≤ 11) := by
  unfold kindV at h ⊢
  repeat' split
  all_goals simp_all
  all_goals omega
theorem Do_same (op n1 i1 : Int) (y1 : Bool) (t1 : ByteArray) (n2 i2 : Int) (y2 : Bool) (t2 : ByteArray) (g1 : In64 i1) (g2 : In64 i2) :
    doV (judgeV op n1 i1 y1 t1 n2 i2 y2 t2) (reckonV op i1 i2) (kindV op n1 n2) (canV n1 i1 y1 t1 && canV n2 i2 y2 t2) = doV (truthV op n1 i1 y1 t1 n2 i2 y2 t2 (orderV i1 t1 i2 t2)) (wholeV op i1 i2) (kindV op n1 n2) (canV n1 i1 y1 t1 && canV n2 i2 y2 t2) := by
  unfold doV
  by_cases h : (kindV op n1 n2).2 = true ∧ (canV n1 i1 y1 t1 && canV n2 i2 y2 t2) = true
  · rw [if_pos h, if_pos h]
    rcases kind_int op n1 n2 h.1 with hk | ⟨hk, hop⟩
    · have hc := h.2
      rw [Bool.and_eq_true] at hc
      rw [if_pos hk, if_pos hk, judge_truth op n1 i1 y1 t1 n2 i2 y2 t2 (Prod.ext hk h.1) hc.1 hc.2]
    · have hk2 : ¬ (kindV op n1 n2).1 = 2 := by rw [hk]; decide
      rw [if_neg hk2, if_neg hk2]
      have := reckon_whole op i1 i2 g1 g2 hop
      rw [this.1]
      by_cases h2 : (wholeV op i1 i2).2 = true
      · rw [if_pos h2, if_pos h2, this.2 h2]
      · rw [if_neg h2, if_neg h2]
  · rw [if_neg h, if_neg h]
theorem awake_spec (k : Nat) : dossierlaw07_awake.f (k + 400) = some true := by
  unfold dossierlaw07_awake.f value_Int.f
  simp only [Option.bind_some]
  rw [Do_spec k 8 1 (-7) false ⟨#[]⟩ 1 2 false ⟨#[]⟩ (by unfold In64; omega) (by unfold In64; omega)]
  have e1 : canV 1 (-7) false ⟨#[]⟩ = true := by unfold canV; rw [toList_nil]; rfl
  have e2 : canV 1 2 false ⟨#[]⟩ = true := by unfold canV; rw [toList_nil]; rfl
  have e3 : reckonV 8 (-7) 2 = (-3, true) := by
    unfold reckonV
    have : wrap64 (-3) = -3 := wrap_at (by unfold In64; omega)
    simp [this]
  rw [e1, e2, e3]
  rfl
end Go.Proofs.YtifgpigicgaadaaDoor.Does
end
section
-- Made by this session's own program (p2) out of the translation. Lean checks it.
namespace Go.Proofs.YtifgpigicgaadaaDoor.Q
open Go.RowKit Go.Proofs.YtifgpigicgaadaaDoorH Go.Proofs.YtifgpigicgaadaaDoorW.PrintWords Go.Proofs.YtifgpigicgaadaaDoorW.PrintLast Go.Proofs.YtifgpigicgaadaaDoorW.PrintMore
attribute [local go_sem] max2_int min2_int max_two min_two max_three min_three max_four min_four   -- for this text's walks alone
set_option linter.unusedVariables false
set_option linter.unusedSimpArgs false

/-! ### value_Text: function 14 -/
def value_Text.f (a0 : ByteArray) : Option (Int × Int × Bool × ByteArray) := some (3, 0, false, a0)
set_option maxHeartbeats 8000000 in
set_option maxRecDepth 100000 in
theorem value_Text.calls (a0 : ByteArray) (r1 : Int) (r2 : Int) (r3 : Bool) (r4 : ByteArray) (w : World) (h : value_Text.f a0 = some (r1, r2, r3, r4)) :
    Calls Tryd.prog 14 #[.string a0] w fun e w' => e = .returned (.agg #[.int .i64 r1, .int .i64 r2, .bool r3, .string r4]) ∧ Below w.heap.size w w' := by
  have hu23 := Tryd.underlying23
  have HB := Aside0.mk (Below.refl w.heap.size w)
  have H : (some (3, 0, false, a0)) = some (r1, r2, r3, r4) := h
  clear h
  simp only [Option.some.injEq, Prod.mk.injEq] at H
  obtain ⟨rfl, rfl, rfl, rfl⟩ := H
  go_enter Tryd.func14, Tryd.ntmps14
  go_wp2_with (first | ((with_reducible refine gate_dst (N := 2) rfl ?_); refine box_event ?hg (N := 2) ?hd (cs := #[.int .i64 0, .int .i64 0, .bool false, .string (⟨#[]⟩ : ByteArray)]) (t := 23) ?hr ?_; (case hd => rfl); (case hg => rfl); (case hr => first | (go_simp; done) | (go_simp; rfl)); intro gb280 hg w2 hbox hb; have n0_ := Aside0.mk (below_step (by repeat (first | (with_reducible first | exact HB.out | apply below_alloc | apply pw_below_drewN | apply below_drew1 | apply bytes_below1) | exact HB.out)) hb); have n1_ := Aside0.mk (hbox); have n2_ := Aside0.mk ((by rw [hg]; exact (below_size (by repeat (first | (with_reducible first | exact HB.out | apply below_alloc | apply pw_below_drewN | apply below_drew1 | apply bytes_below1) | exact HB.out))) : w.heap.size ≤ gb280)); have n3_ := Aside0.mk ((by rw [hg]; exact (below_size (by repeat (first | (with_reducible first | exact HB.out | apply below_alloc | apply pw_below_drewN | apply below_drew1 | apply bytes_below1) | exact HB.out))) : w.heap.size ≤ gb280)); clear HB; have HB := n0_; have BK280 := n1_; have GW280 := n2_; have GE280 := n3_; clear n0_ n1_ n2_ n3_; clear hb hbox hg; have hcz3_0 : w2.cell? ⟨gb280, 0, none⟩ = some (.int .i64 0) := (blk_cell BK280.out 0).trans rfl; have hcz3_1 : w2.cell? ⟨gb280, 1, none⟩ = some (.int .i64 0) := (blk_cell BK280.out 1).trans rfl; have hcz3_2 : w2.cell? ⟨gb280, 2, none⟩ = some (.bool false) := (blk_cell BK280.out 2).trans rfl; have hcz3_3 : w2.cell? ⟨gb280, 3, none⟩ = some (.string (⟨#[]⟩ : ByteArray)) := (blk_cell BK280.out 3).trans rfl; have hfz3_0 := blk_frozen BK280.out 0; have hfz3_1 := blk_frozen BK280.out 1; have hfz3_2 := blk_frozen BK280.out 2; have hfz3_3 := blk_frozen BK280.out 3))
  refine bodyPost_ret (results_cell_row rfl _ _ gb280 23 #[.int .i64 3, .int .i64 0, .bool false, .string a0] (0, 0) _ rfl (by (with_reducible repeat (first | refine blk_bytes ?_ _ _ | refine blk_drewN ?_ _ | refine blk_drew ?_ | refine blk_alloc ?_ _)); refine blk_put (cs := #[.int .i64 3, .int .i64 0, .bool false, .string (⟨#[]⟩ : ByteArray)]) ?_ 3 _ rfl; (with_reducible repeat (first | refine blk_bytes ?_ _ _ | refine blk_drewN ?_ _ | refine blk_drew ?_ | refine blk_alloc ?_ _)); refine blk_put (cs := #[.int .i64 3, .int .i64 0, .bool false, .string (⟨#[]⟩ : ByteArray)]) ?_ 2 _ rfl; (with_reducible repeat (first | refine blk_bytes ?_ _ _ | refine blk_drewN ?_ _ | refine blk_drew ?_ | refine blk_alloc ?_ _)); refine blk_put (cs := #[.int .i64 3, .int .i64 0, .bool false, .string (⟨#[]⟩ : ByteArray)]) ?_ 1 _ rfl; (with_reducible repeat (first | refine blk_bytes ?_ _ _ | refine blk_drewN ?_ _ | refine blk_drew ?_ | refine blk_alloc ?_ _)); refine blk_put (cs := #[.int .i64 0, .int .i64 0, .bool false, .string (⟨#[]⟩ : ByteArray)]) ?_ 0 _ rfl; (with_reducible repeat (first | refine blk_bytes ?_ _ _ | refine blk_drewN ?_ _ | refine blk_drew ?_ | refine blk_alloc ?_ _)); exact BK280.out) Tryd.underlying23 rfl (by kernel_rfl)) rfl ?_
  exact ⟨by first | rfl | (simp [errW_none, errW_some] <;> rfl) | (simp [*, errW_none, errW_some] <;> rfl), by repeat (first | (with_reducible first | exact HB.out | apply below_alloc | apply pw_below_drewN | apply below_drew1 | apply bytes_below1 | refine below_set ?_ GE280.out) | exact HB.out)⟩

end Go.Proofs.YtifgpigicgaadaaDoor.Q
end
