/- Several texts in one, in their order. -/
import Derived.Test.YtbcpnpbkbndkjaaGreatDoorBEvalHolds6
import Derived.Test.YtbcpnpbkbndkjaaGreatDoorBEvalHolds9
import Derived.Test.YtbcpnpbkbndkjaaGreatDoorBEvalHolds11
import Derived.KernelRfl
section
/- What an operator makes: the program's and the reference's reckoning and judging are the same wherever they are asked. -/
set_option linter.unusedSimpArgs false
set_option linter.unusedVariables false
namespace Go.Proofs.YtbcpnpbkbndkjaaGreatDoor.Does
open Go.RowKit Go.Proofs.YtbcpnpbkbndkjaaGreatDoor.Q Go.Proofs.YtbcpnpbkbndkjaaGreatDoorW.PrintWords Go.Proofs.YtbcpnpbkbndkjaaGreatDoorW.PrintLast Go.Proofs.YtbcpnpbkbndkjaaGreatDoorH Go.Proofs.YtbcpnpbkbndkjaaGreatDoor.Chars Go.Proofs.YtbcpnpbkbndkjaaGreatDoor.Values

def In64 (x : Int) : Prop := -9223372036854775808 ≤ x ∧ x < 9223372036854775808
theorem wrap_in (x : Int) : In64 (wrap64 x) := by unfold In64 wrap64; omega
theorem wrap_at {x : Int} (h : In64 x) : wrap64 x = x := by unfold In64 at h; unfold wrap64; omega

/-! ## Signs of bits -/
theorem sgn_wrap (v : BitVec 64) : IntKind.i64.wrap (v.toNat : Int) < 0 ↔ v.msb = true := by
  have h := v.isLt
  rw [BitVec.msb_eq_decide, decide_eq_true_eq]
  simp [IntKind.wrap, IntKind.bits, IntKind.signed]
  omega
theorem msb_of (x : Int) (h : In64 x) : (BitVec.ofInt 64 x).msb = true ↔ x < 0 := by
  unfold In64 at h
  rw [BitVec.msb_eq_decide, decide_eq_true_eq, BitVec.toNat_ofInt]
  omega
theorem in_wrap (n : Int) : In64 (IntKind.i64.wrap n) := by
  unfold In64
  simp [IntKind.wrap, IntKind.bits, IntKind.signed]
  omega
theorem xor_in (x y : Int) : In64 (Go.bits .xor .i64 x y) := in_wrap _
theorem sgn_xor (x y : Int) (hx : In64 x) (hy : In64 y) : Go.bits .xor .i64 x y < 0 ↔ ¬ (x < 0 ↔ y < 0) := by
  have e : Go.bits .xor .i64 x y < 0 ↔ (BitVec.ofInt 64 x ^^^ BitVec.ofInt 64 y).msb = true := sgn_wrap _
  rw [e, BitVec.msb_xor, ← msb_of x hx, ← msb_of y hy]
  cases (BitVec.ofInt 64 x).msb <;> cases (BitVec.ofInt 64 y).msb <;> simp
theorem sgn_and (x y : Int) (hx : In64 x) (hy : In64 y) : Go.bits .and .i64 x y < 0 ↔ (x < 0 ∧ y < 0) := by
  have e : Go.bits .and .i64 x y < 0 ↔ (BitVec.ofInt 64 x &&& BitVec.ofInt 64 y).msb = true := sgn_wrap _
  rw [e, BitVec.msb_and, ← msb_of x hx, ← msb_of y hy]
  cases (BitVec.ofInt 64 x).msb <;> cases (BitVec.ofInt 64 y).msb <;> simp

theorem add_ok (a b : Int) (ha : In64 a) (hb : In64 b) :
    decide ((Go.bits .and .i64 (Go.bits .xor .i64 a (wrap64 (a + b))) (Go.bits .xor .i64 b (wrap64 (a + b)))) ≥ 0) = ((decide ((wrap64 (a + b)) > a)) == (decide (b > 0))) := by
  have hs := wrap_in (a + b)
  have h1 := sgn_and _ _ (xor_in a (wrap64 (a + b))) (xor_in b (wrap64 (a + b)))
  rw [sgn_xor a _ ha hs, sgn_xor b _ hb hs] at h1
  have hw : wrap64 (a + b) = a + b ∨ wrap64 (a + b) = a + b - 18446744073709551616 ∨ wrap64 (a + b) = a + b + 18446744073709551616 := by
    unfold In64 at ha hb; unfold wrap64; omega
  unfold In64 at ha hb hs
  generalize wrap64 (a + b) = s at *
  generalize Go.bits .and .i64 (Go.bits .xor .i64 a s) (Go.bits .xor .i64 b s) = q at *
  rw [Bool.eq_iff_iff]
  simp only [decide_eq_true_eq, beq_iff_eq, decide_eq_decide]
  omega
theorem sub_ok (a b : Int) (ha : In64 a) (hb : In64 b) :
    decide ((Go.bits .and .i64 (Go.bits .xor .i64 a b) (Go.bits .xor .i64 a (wrap64 (a - b)))) ≥ 0) = ((decide ((wrap64 (a - b)) < a)) == (decide (b > 0))) := by
  have hs := wrap_in (a - b)
  have h1 := sgn_and _ _ (xor_in a b) (xor_in a (wrap64 (a - b)))
  rw [sgn_xor a _ ha hs, sgn_xor a _ ha hb] at h1
  have hw : wrap64 (a - b) = a - b ∨ wrap64 (a - b) = a - b - 18446744073709551616 ∨ wrap64 (a - b) = a - b + 18446744073709551616 := by
    unfold In64 at ha hb; unfold wrap64; omega
  unfold In64 at ha hb hs
  generalize wrap64 (a - b) = s at *
  generalize Go.bits .and .i64 (Go.bits .xor .i64 a b) (Go.bits .xor .i64 a s) = q at *
  rw [Bool.eq_iff_iff]
  simp only [decide_eq_true_eq, beq_iff_eq, decide_eq_decide]
  omega

/-! ## Products -/
def mag (a : Int) : Int := if a < 0 then -a else a
theorem mag_mul (a b : Int) : mag a * mag b = mag (a * b) := by
  unfold mag
  by_cases h1 : a < 0
  · by_cases h2 : b < 0
    · rw [if_pos h1, if_pos h2, if_neg (by have := Int.mul_pos_of_neg_of_neg h1 h2; omega), Int.neg_mul_neg]
    · by_cases h3 : b = 0
      · subst h3; simp
      · rw [if_pos h1, if_neg h2, if_pos (Int.mul_neg_of_neg_of_pos h1 (by omega)), Int.neg_mul]
  · by_cases h4 : a = 0
    · subst h4; simp
    · by_cases h2 : b < 0
      · rw [if_neg h1, if_pos h2, if_pos (Int.mul_neg_of_pos_of_neg (by omega) h2), Int.mul_neg]
      · rw [if_neg h1, if_neg h2, if_neg (by have := Int.mul_nonneg (a := a) (b := b) (by omega) (by omega); omega)]
instance (x : Int) : Decidable (In64 x) := by unfold In64; infer_instance
theorem sign_mul (a b : Int) : ((decide (a < 0)) != (decide (b < 0))) = true → a * b ≤ 0 := by
  intro h
  simp at h
  by_cases h1 : a < 0
  · exact Int.mul_nonpos_of_nonpos_of_nonneg (by omega) (by omega)
  · exact Int.mul_nonpos_of_nonneg_of_nonpos (by omega) (by omega)
theorem sign_mul' (a b : Int) : ¬ ((decide (a < 0)) != (decide (b < 0))) = true → 0 ≤ a * b := by
  intro h
  simp at h
  by_cases h1 : a < 0
  · exact Int.mul_nonneg_of_nonpos_of_nonpos (by omega) (by omega)
  · exact Int.mul_nonneg (by omega) (by omega)
theorem tdiv_mul_in (a b : Int) (ha : In64 a) (hb : In64 b) (h0 : b ≠ 0) (h1 : ¬ (b = -1 ∧ a = -9223372036854775808)) :
    ((wrap64 (Int.tdiv (wrap64 (a * b)) b)) == a) = decide (In64 (a * b)) := by
  by_cases h : In64 (a * b)
  · rw [wrap_at h, Int.mul_tdiv_cancel _ h0, wrap_at ha]; simp [h]
  · simp only [h, decide_false, beq_eq_false_iff_ne, ne_eq]
    intro e
    have hp := wrap_in (a * b)
    have hq : ∃ m : Int, m ≠ 0 ∧ wrap64 (a * b) = a * b - m * 18446744073709551616 := by
      refine ⟨(a * b + 9223372036854775808) / 18446744073709551616, ?_, ?_⟩
      · unfold In64 at h; omega
      · unfold wrap64; omega
    obtain ⟨m, hm, hq⟩ := hq
    generalize hP : wrap64 (a * b) = p at *
    have hdm := Int.mul_tdiv_add_tmod p b
    have hlt : (Int.tmod p b).natAbs < b.natAbs := by
      rw [Int.natAbs_tmod]; exact Nat.mod_lt _ (by omega)
    have hr : Int.tdiv p b = a ∨ (Int.tdiv p b = 9223372036854775808 ∧ b = -1 ∧ p = -9223372036854775808) := by
      by_cases hin : In64 (Int.tdiv p b)
      · rw [wrap_at hin] at e; exact Or.inl e
      · right
        have hle : (Int.tdiv p b).natAbs = p.natAbs / b.natAbs := Int.natAbs_tdiv p b
        have hb2 : b.natAbs = 1 ∨ 2 ≤ b.natAbs := by omega
        have hpn : p.natAbs ≤ 9223372036854775808 := by unfold In64 at hp; omega
        rcases hb2 with hb1 | hb2
        · have : b = 1 ∨ b = -1 := by omega
          rcases this with rfl | rfl
          · rw [Int.tdiv_one] at hin; exact absurd hp hin
          · rw [Int.tdiv_neg, Int.tdiv_one] at hin ⊢
            unfold In64 at hin hp; omega
        · have h3 : p.natAbs / b.natAbs ≤ p.natAbs / 2 := Nat.div_le_div_left hb2 (by decide)
          unfold In64 at hin; omega
    rcases hr with hr | ⟨hr, rfl, hp2⟩
    · rw [hr] at hdm
      have hc : b * a = a * b := Int.mul_comm b a
      unfold In64 at hb
      omega
    · rw [hp2] at hq
      unfold In64 at ha
      omega

/-! ## An operator's integer -/
def reckonV (op a b : Int) : Int × Bool :=
  if op = 6 then (wrap64 (-a), (a != (-9223372036854775808)))
  else if op = 10 then (wrap64 (a + b), ((decide ((wrap64 (a + b)) > a)) == (decide (b > 0))))
  else if op = 11 then (wrap64 (a - b), ((decide ((wrap64 (a - b)) < a)) == (decide (b > 0))))
  else if op = 7 then (wrap64 (a * b), decide (In64 (a * b)))
  else if b = 0 then (0, false)
  else if op = 8 then (if b = -1 then (wrap64 (-a), (a != (-9223372036854775808))) else (wrap64 (Int.tdiv a b), true))
  else if b = -1 then (0, true)
  else (Int.tmod a b, true)
def wholeV (op a b : Int) : Int × Bool :=
  if op = 6 then (wrap64 (-a), (a != (-9223372036854775808)))
  else if op = 7 then (if a = 0 ∨ b = 0 then (0, true) else if (a = -1 ∧ b = -9223372036854775808) ∨ (b = -1 ∧ a = -9223372036854775808) then (0, false) else (wrap64 (a * b), decide (In64 (a * b))))
  else if op = 8 then (if b = 0 then (0, false) else if a = -9223372036854775808 ∧ b = -1 then (0, false) else (wrap64 (Int.tdiv a b), true))
  else if op = 9 then (if b = 0 then (0, false) else if b = -1 then (0, true) else (Int.tmod a b, true))
  else if op = 10 then (wrap64 (a + b), ((decide ((wrap64 (a + b)) > a)) == (decide (b > 0))))
  else (wrap64 (a - b), ((decide ((wrap64 (a - b)) < a)) == (decide (b > 0))))
/-- The same wherever an operator makes an integer. -/
theorem reckon_whole (op a b : Int) (ha : In64 a) (hb : In64 b) (hop : 6 ≤ op ∧ op ≤ 11) : (reckonV op a b).2 = (wholeV op a b).2 ∧ ((wholeV op a b).2 = true → (reckonV op a b).1 = (wholeV op a b).1) := by
  have hc : op = 6 ∨ op = 7 ∨ op = 8 ∨ op = 9 ∨ op = 10 ∨ op = 11 := by omega
  rcases hc with rfl | rfl | rfl | rfl | rfl | rfl
  · simp [reckonV, wholeV]
  · simp only [reckonV, wholeV]
    simp
    by_cases h : a = 0 ∨ b = 0
    · rw [if_pos h]
      have e : a * b = 0 := by rcases h with rfl | rfl <;> simp
      rw [e]; simp [In64]; unfold wrap64; omega
    · rw [if_neg h]
      by_cases h3 : (a = -1 ∧ b = -9223372036854775808) ∨ (b = -1 ∧ a = -9223372036854775808)
      · rw [if_pos h3]
        have e : a * b = 9223372036854775808 := by rcases h3 with ⟨rfl, rfl⟩ | ⟨rfl, rfl⟩ <;> rfl
        rw [e]; simp [In64]
      · rw [if_neg h3]; simp
  · simp only [reckonV, wholeV]
    simp
    by_cases h0 : b = 0
    · simp [h0]
    by_cases h1 : b = -1
    · subst h1
      by_cases h2 : a = -9223372036854775808
      · simp [h2]
      · simp [h2, Int.tdiv_neg]
    · simp [h0, h1]
  · simp only [reckonV, wholeV]
    by_cases h0 : b = 0
    · simp [h0]
    by_cases h1 : b = -1
    · simp [h1]
    · simp [h0, h1]
  · simp [reckonV, wholeV]
  · simp [reckonV, wholeV]

/-! ## An operator's truth -/
theorem less_compare : ∀ a b : List UInt8, (Op.bytesLess a b = decide (Lib.compareBytes a b < 0)) ∧ (Op.bytesLess b a = decide (Lib.compareBytes a b > 0))
  | [], [] => ⟨rfl, rfl⟩
  | [], _ :: _ => ⟨rfl, rfl⟩
  | _ :: _, [] => ⟨rfl, rfl⟩
  | a :: x, b :: y => by
    have ih := less_compare x y
    unfold Op.bytesLess Lib.compareBytes
    by_cases h1 : a < b
    · have h2 : ¬ b < a := fun h => absurd (UInt8.lt_trans h1 h) (UInt8.lt_irrefl a)
      have h3 : ¬ b = a := fun h => by subst h; exact h2 h1
      simp [h1, h2, h3]
    · by_cases h2 : b < a
      · have h3 : ¬ a = b := fun h => by subst h; exact h1 h2
        simp [h1, h2, h3]
      · have h3 : a = b := UInt8.le_antisymm (UInt8.not_lt.1 h2) (UInt8.not_lt.1 h1)
        subst h3
        simp [UInt8.lt_irrefl, ih.1, ih.2]
def ordV (i : Int) (t : ByteArray) (j : Int) (u : ByteArray) : Int := if i < j then -1 else if j < i then 1 else Lib.compareBytes t.data.toList u.data.toList
def sameV (n1 i1 : Int) (y1 : Bool) (t1 : ByteArray) (n2 i2 : Int) (y2 : Bool) (t2 : ByteArray) : Bool := n1 == n2 && (i1 == i2 && (y1 == y2 && (t1.toList == t2.toList)))
def judgeV (op n1 i1 : Int) (y1 : Bool) (t1 : ByteArray) (n2 i2 : Int) (y2 : Bool) (t2 : ByteArray) : Bool :=
  if op = 5 then !y1 else if op = 18 then y1 && y2 else if op = 19 then y1 || y2
  else if op = 16 then sameV n1 i1 y1 t1 n2 i2 y2 t2 else if op = 17 then !sameV n1 i1 y1 t1 n2 i2 y2 t2
  else if op = 12 then decide (ordV i1 t1 i2 t2 < 0) else if op = 13 then decide (ordV i1 t1 i2 t2 ≤ 0) else if op = 14 then decide (ordV i1 t1 i2 t2 > 0) else decide (ordV i1 t1 i2 t2 ≥ 0)
def truthV (op n1 i1 : Int) (y1 : Bool) (t1 : ByteArray) (n2 i2 : Int) (y2 : Bool) (t2 : ByteArray) (o : Int) : Bool :=
  if op = 5 then !y1 else if op = 12 then decide (o < 0) else if op = 13 then decide (o ≤ 0) else if op = 14 then decide (o > 0) else if op = 15 then decide (o ≥ 0)
  else if op = 16 then sameV n1 i1 y1 t1 n2 i2 y2 t2 else if op = 17 then !sameV n1 i1 y1 t1 n2 i2 y2 t2 else if op = 18 then y1 && y2 else y1 || y2
def orderV (i : Int) (t : ByteArray) (j : Int) (u : ByteArray) : Int :=
  if i < j ∨ Op.bytesLess t.toList u.toList = true then -1 else if i > j ∨ Op.bytesLess u.toList t.toList = true then 1 else 0
/-- Of integers alone, or of texts alone, both orders are one. -/
theorem orders (i j : Int) (t u : ByteArray) (h : (t.toList = [] ∧ u.toList = []) ∨ (i = 0 ∧ j = 0)) : (ordV i t j u < 0 ↔ orderV i t j u < 0) ∧ (ordV i t j u > 0 ↔ orderV i t j u > 0) := by
  have hc := less_compare t.toList u.toList
  unfold ordV orderV
  rw [← Lib.toList_data, ← Lib.toList_data, hc.1, hc.2]
  rcases h with ⟨h1, h2⟩ | ⟨rfl, rfl⟩
  · rw [h1, h2]
    simp only [Lib.compareBytes]
    simp
  · generalize Lib.compareBytes t.toList u.toList = c
    simp
    constructor
    · repeat' split
      all_goals omega
    · repeat' split
      all_goals omega
theorem judge_truth (op n1 i1 : Int) (y1 : Bool) (t1 : ByteArray) (n2 i2 : Int) (y2 : Bool) (t2 : ByteArray) (hK : (kindV op n1 n2) = (2, true)) (h1 : canV n1 i1 y1 t1 = true) (h2 : canV n2 i2 y2 t2 = true) :
    judgeV op n1 i1 y1 t1 n2 i2 y2 t2 = truthV op n1 i1 y1 t1 n2 i2 y2 t2 (orderV i1 t1 i2 t2) := by
  by_cases hout : op < 5 ∨ 19 < op
  · rw [kindV_out _ _ _ hout] at hK; cases hK
  by_cases hm : 12 ≤ op ∧ op ≤ 15
  · have hk : n1 = n2 ∧ (n1 = 1 ∨ n1 = 3) := by
      unfold kindV at hK
      rw [if_neg (by omega), if_neg (by omega), if_neg (by omega), if_pos hm] at hK
      by_cases h : n1 = n2 ∧ (n1 = 1 ∨ n1 = 3)
      · exact h
      · rw [if_neg h] at hK; cases hK
    have ho : (t1.toList = [] ∧ t2.toList = []) ∨ (i1 = 0 ∧ i2 = 0) := by
      obtain ⟨rfl, rfl | rfl⟩ := hk
      · left
        simp [canV] at h1 h2
        exact ⟨h1.2, h2.2⟩
      · right
        simp [canV] at h1 h2
        exact ⟨h1.1, h2.1⟩
    have hO := orders i1 i2 t1 t2 ho
    unfold judgeV truthV
    generalize ordV i1 t1 i2 t2 = p at *
    generalize orderV i1 t1 i2 t2 = q at *
    have hc : op = 12 ∨ op = 13 ∨ op = 14 ∨ op = 15 := by omega
    rcases hc with rfl | rfl | rfl | rfl
    · simp; omega
    · simp; omega
    · simp; omega
    · simp; omega
  · have hc : op = 5 ∨ op = 16 ∨ op = 17 ∨ op = 18 ∨ op = 19 := by
      by_cases h : 6 ≤ op ∧ op ≤ 11
      · exfalso
        unfold kindV at hK
        rw [if_neg (by omega)] at hK
        repeat' split at hK
        all_goals first | (cases hK; done) | omega
      · omega
    rcases hc with rfl | rfl | rfl | rfl | rfl <;> simp [judgeV, truthV]

/-! ## An operator's value -/
def doV (J : Bool) (R K : Int × Bool) (c : Bool) : Int × Int × Bool × ByteArray × Bool :=
  if K.2 = true ∧ c = true then (if K.1 = 2 then (2, 0, J, ⟨#[]⟩, true) else if R.2 = true then (1, R.1, false, ⟨#[]⟩, true) else (0, 0, false, ⟨#[]⟩, false)) else (0, 0, false, ⟨#[]⟩, false)
theorem kind_int (op a b : Int) (h : (kindV op a b).2 = true) : (kindV op a b).1 = 2 ∨ ((kindV op a b).1 = 1 ∧ 6 ≤ op ∧ op ≤ 11) := by
  unfold kindV at h ⊢
  repeat' split
  all_goals simp_all
  all_goals omega
theorem Do_same (op n1 i1 : Int) (y1 : Bool) (t1 : ByteArray) (n2 i2 : Int) (y2 : Bool) (t2 : ByteArray) (g1 : In64 i1) (g2 : In64 i2) :
    doV (judgeV op n1 i1 y1 t1 n2 i2 y2 t2) (reckonV op i1 i2) (kindV op n1 n2) (canV n1 i1 y1 t1 && canV n2 i2 y2 t2) = doV (truthV op n1 i1 y1 t1 n2 i2 y2 t2 (orderV i1 t1 i2 t2)) (wholeV op i1 i2) (kindV op n1 n2) (canV n1 i1 y1 t1 && canV n2 i2 y2 t2) := by
  unfold doV
  by_cases h : (kindV op n1 n2).2 = true ∧ (canV n1 i1 y1 t1 && canV n2 i2 y2 t2) = true
  · rw [if_pos h, if_pos h]
    rcases kind_int op n1 n2 h.1 with hk | ⟨hk, hop⟩
    · have hc := h.2
      rw [Bool.and_eq_true] at hc
      rw [if_pos hk, if_pos hk, judge_truth op n1 i1 y1 t1 n2 i2 y2 t2 (Prod.ext hk h.1) hc.1 hc.2]
    · have hk2 : ¬ (kindV op n1 n2).1 = 2 := by rw [hk]; decide
      rw [if_neg hk2, if_neg hk2]
      have := reckon_whole op i1 i2 g1 g2 hop
      rw [this.1]
      by_cases h2 : (wholeV op i1 i2).2 = true
      · rw [if_pos h2, if_pos h2, this.2 h2]
      · rw [if_neg h2, if_neg h2]
  · rw [if_neg h, if_neg h]
end Go.Proofs.YtbcpnpbkbndkjaaGreatDoor.Does
end
section
/- What a condition comes to in a case: what each function is. -/
-- prev ext
-- irreducible findO Values.sortV parseP parseR big deepP kwP stP nmP plainB namedB partsW pathB Values.canV aloneB kidsZ rightW canW Values.kindV B.bareW valueW countW numberW ofW evalW holdsW caseB cmpV orV Does.reckonV Does.judgeV Does.truthV Does.wholeV Does.orderV timesV doW dow Does.In64
set_option linter.unusedVariables false
namespace Go.Proofs.YtbcpnpbkbndkjaaGreatDoor.Ev
open Go Go.RowKit Go.Proofs.YtbcpnpbkbndkjaaGreatDoorW.PrintWords
noncomputable def specs_ext : List (FuncId × Bool × Spec) := (104,false,bareS) :: (136,false,compareS) :: (161,false,mul64S) :: specs_ref_Can
abbrev docT : Ty := .pair .str (.pair (.pair (.int .i64) (.pair (.int .i64) (.pair .bool .str))) (.sl .str))
abbrev insT : Ty := .pair .str (.pair .str (.pair (.int .i64) (.pair (.int .i64) (.pair (.sl (.int .i64)) (.int .i64)))))
abbrev DocD := ByteArray × (Int × Int × Bool × ByteArray) × List ByteArray
abbrev InsD := ByteArray × ByteArray × Int × Int × List Int × Int
abbrev Val5 := Int × Int × Bool × ByteArray × Bool
def zero5 : Val5 := (0,0,false,(⟨#[]⟩ : ByteArray),false)
def cmpV (a b : Int) : Int := if a < b then -1 else if b < a then 1 else 0
def orV : List Int → Int
 | [] => 0
 | x :: r => if x = 0 then orV r else x
def timesV (a b : Int) : Int × Bool := if a = 0 ∨ b = 0 then (0,true) else if (a = -1 ∧ b = -9223372036854775808) ∨ (b = -1 ∧ a = -9223372036854775808) then (0,false) else (wrap64 (a * b),decide (Does.In64 (a * b)))
def doW (z n1 i1 : Int) (y1 : Bool) (t1 : ByteArray) (n2 i2 : Int) (y2 : Bool) (t2 : ByteArray) : Val5 := Does.doV (Does.judgeV z n1 i1 y1 t1 n2 i2 y2 t2) (Does.reckonV z i1 i2) (Values.kindV z n1 n2) (Values.canV n1 i1 y1 t1 && Values.canV n2 i2 y2 t2)
/-- Are instances and their texts not many? -/
def caseB (I : List InsD) (D : List DocD) : Bool := (I.all fun x => decide (x.1.size ≤ 400) && decide (x.2.2.2.2.1.length ≤ 40)) && ((D.all fun d => decide (d.1.size ≤ 400) && decide (d.2.2.length ≤ 40)) && (decide (I.length ≤ 40) && decide (D.length ≤ 30)))
/-- The value of a path's first instance. -/
def valueW : List DocD → ByteArray → Option Val5
 | [],_ => some zero5
 | d :: r,s => if d.1.size ≤ 900000 then (if seq (B.bareW d.1) s = true then some (if d.2.1.1 = 0 ∨ Values.canV d.2.1.1 d.2.1.2.1 d.2.1.2.2.1 d.2.1.2.2.2 = false then zero5 else (d.2.1.1,d.2.1.2.1,d.2.1.2.2.1,d.2.1.2.2.2,true)) else valueW r s) else none
def countW : List DocD → ByteArray → Int → Option Int
 | [],_,n => some n
 | d :: r,s,n => if d.1.size ≤ 900000 then countW r s (if seq (B.bareW d.1) s = true then IntKind.i64.wrap (n + 1) else n) else none
def numberW : List InsD → ByteArray → Int → Int → Int
 | [],_,_,n => n
 | x :: r,s,z,n => numberW r s z (if seq x.2.1 s = true ∧ x.2.2.1 = z then IntKind.i64.wrap (n + 1) else n)
def dow (z : Int) (u w : Val5) : Option Val5 := if Does.In64 u.2.1 ∧ Does.In64 w.2.1 then some (doW z u.1 u.2.1 u.2.2.1 u.2.2.2.1 w.1 w.2.1 w.2.2.1 w.2.2.2.1) else none
def sidesW (F : Node → Option Val5) : List Node → Option (Bool × Val5 × Val5)
 | [] => some (true,zero5,zero5)
 | [a] => (F a).bind fun u => some (u.2.2.2.2,u,zero5)
 | a :: b :: _ => (F a).bind fun u => (F b).bind fun w => some (u.2.2.2.2 && w.2.2.2.2,u,w)
/-- The value of a tree that may be. -/
def ofW (I : List InsD) (D : List DocD) : Nat → Node → Option Val5
 | 0,_ => none
 | k + 1,n => if n.x.1 = 1 then some (n.x.2.1.1,n.x.2.1.2.1,n.x.2.1.2.2.1,n.x.2.1.2.2.2,true)
  else if n.x.1 = 2 then (if D.length ≤ 1000 then valueW D n.x.2.2.1 else none)
  else if n.x.1 = 3 then (if D.length ≤ 1000 then (countW D n.x.2.2.1 0).bind fun z => some (1,z,false,(⟨#[]⟩ : ByteArray),true) else none)
  else if n.x.1 = 4 then (if I.length ≤ 1000 then some (1,numberW I n.x.2.2.1 n.x.2.2.2.1 0,false,(⟨#[]⟩ : ByteArray),true) else none)
  else if n.x.2.2.2.2.length ≤ 2 then (sidesW (ofW I D k) n.x.2.2.2.2).bind fun t => if t.1 = true then dow n.x.1 t.2.1 t.2.2 else some zero5 else none
noncomputable def evalW (I : List InsD) (D : List DocD) (n : Node) : Option Val5 := (canW n).bind fun c => if c = true then ofW I D (big n.x.2.2.2.2) n else some zero5
def finP (u : Val5) : Bool := u.2.2.2.2 && (decide (u.1 = 2) && u.2.2.1)
def finR (u : Val5) : Bool := u.2.2.2.2 && (decide (u.1 = 2) && (decide (u.2.1 = 0) && (u.2.2.1 && seq u.2.2.2.1 (⟨#[]⟩ : ByteArray))))
noncomputable def holdsW (P : ByteArray → Option (Node × Int)) (fin : Val5 → Bool) (s : ByteArray) (I : List InsD) (D : List DocD) : Option Bool :=
 if seq s (⟨#[]⟩ : ByteArray) = true then some true else (P s).bind fun v => if v.2 = 0 then (evalW I D v.1).bind fun u => some (fin u) else some false
noncomputable def awakeH : Option Bool := (holdsW parseP finP (⟨#[97,32,62,32,52,32,97,110,100,32,99,111,117,110,116,40,97,41,32,61,32,49]⟩ : ByteArray) [] [((⟨#[97,35,49]⟩ : ByteArray),(1,5,false,(⟨#[]⟩ : ByteArray)),[])]).bind fun x => if x = true then (holdsW parseP finP (⟨#[97,32,62,32,53]⟩ : ByteArray) [] [((⟨#[97,35,49]⟩ : ByteArray),(1,5,false,(⟨#[]⟩ : ByteArray)),[])]).bind fun y => some (!y) else some false
noncomputable def lawH (s : ByteArray) (I : List InsD) (D : List DocD) : Option Bool := if I.length ≤ 9223372036854775807 ∧ D.length ≤ 9223372036854775807 then (if caseB I D = true then (holdsW parseP finP s I D).bind fun x => (holdsW parseR finR s I D).bind fun y => if x = y then awakeH else some false else awakeH) else none
noncomputable def cx_cmp_isNaN := cxOf specs_ext
noncomputable def cmp_isNaN.spec : Spec := fun args st K => match args,st.box,st.nt with
 | [.int .i64 z],[],0 => (some false).bind fun v => K (.ret (.bool v)) (lcRet [] [] 0)
 | _,_,_ => none
noncomputable def specs_cmp_isNaN : SpecL := (158,false,cmp_isNaN.spec) :: specs_ext
noncomputable def cx_cmp_Compare := cxOf specs_cmp_isNaN
noncomputable def cmp_Compare.spec : Spec := fun args st K => match args,st.box,st.nt with
 | [.int .i64 a,.int .i64 b],[],0 => (some (cmpV a b)).bind fun v => K (.ret (.int .i64 v)) (lcRet [] [] 0)
 | _,_,_ => none
noncomputable def specs_cmp_Compare : SpecL := (135,false,cmp_Compare.spec) :: specs_cmp_isNaN
noncomputable def cx_cmp_Or := cxOf specs_cmp_Compare
noncomputable def cmp_Or.spec : Spec := fun args st K => match args,st.box,st.nt with
 | [.sl (.int .i64) l .no],[],0 => (if l.length ≤ 1000 then some (orV l) else none).bind fun v => K (.ret (.int .i64 v)) (lcRet [] [] 0)
 | _,_,_ => none
noncomputable def specs_cmp_Or : SpecL := (134,false,cmp_Or.spec) :: specs_cmp_Compare
noncomputable def cx_value_product1 := cxOf specs_cmp_Or
noncomputable def value_product1.spec : Spec := fun args st K => match args,st.box,st.nt with
 | [.int .i64 z],[],0 => (some (if z < 0 then IntKind.u64.wrap (-(IntKind.u64.wrap z)) else IntKind.u64.wrap z)).bind fun v => K (.ret (.int .u64 v)) (lcRet [] [] 0)
 | _,_,_ => none
noncomputable def specs_value_product1 : SpecL := (160,false,value_product1.spec) :: specs_cmp_Or
noncomputable def cx_value_product := cxOf specs_value_product1
noncomputable def value_product.spec : Spec := fun args st K => match args,st.box,st.nt with
 | [.int .i64 a,.int .i64 b],[],0 => (if Does.In64 a ∧ Does.In64 b then some (wrap64 (a * b),decide (Does.In64 (a * b))) else none).bind fun v => K (.ret (.tup [.int .i64 v.1,.bool v.2])) (lcRet [] [] 0)
 | _,_,_ => none
noncomputable def specs_value_product : SpecL := (137,false,value_product.spec) :: specs_value_product1
noncomputable def cx_value_reckon := cxOf specs_value_product
noncomputable def value_reckon.spec : Spec := fun args st K => match args,st.box,st.nt with
 | [.int .i64 z,.int .i64 a,.int .i64 b],[],0 => (if Does.In64 a ∧ Does.In64 b then some (Does.reckonV z a b) else none).bind fun v => K (.ret (.tup [.int .i64 v.1,.bool v.2])) (lcRet [] [] 0)
 | _,_,_ => none
noncomputable def specs_value_reckon : SpecL := (106,false,value_reckon.spec) :: specs_value_product
noncomputable def cx_value_judge := cxOf specs_value_reckon
noncomputable def value_judge.spec : Spec := fun args st K => match args,st.box,st.nt with
 | [.int .i64 z,.agg [.int .i64 x0,.int .i64 x1,.bool x2,.str x3],.agg [.int .i64 y0,.int .i64 y1,.bool y2,.str y3]],[],0 => (some (Does.judgeV z x0 x1 x2 x3 y0 y1 y2 y3)).bind fun v => K (.ret (.bool v)) (lcRet [] [] 0)
 | _,_,_ => none
noncomputable def specs_value_judge : SpecL := (105,false,value_judge.spec) :: specs_value_reckon
noncomputable def cx_value_Do := cxOf specs_value_judge
noncomputable def value_Do.spec : Spec := fun args st K => match args,st.box,st.nt with
 | [.int .i64 z,.agg [.int .i64 x0,.int .i64 x1,.bool x2,.str x3],.agg [.int .i64 y0,.int .i64 y1,.bool y2,.str y3]],[],0 => (if Does.In64 x1 ∧ Does.In64 y1 then some (doW z x0 x1 x2 x3 y0 y1 y2 y3) else none).bind fun v => K (.ret (.tup [.agg [.int .i64 v.1,.int .i64 v.2.1,.bool v.2.2.1,.str v.2.2.2.1],.bool v.2.2.2.2])) (lcRet [] [] 0)
 | _,_,_ => none
noncomputable def specs_value_Do : SpecL := (58,false,value_Do.spec) :: specs_value_judge
noncomputable def cx_ref07_order := cxOf specs_value_Do
noncomputable def ref07_order.spec : Spec := fun args st K => match args,st.box,st.nt with
 | [.agg [.int .i64 x0,.int .i64 x1,.bool x2,.str x3],.agg [.int .i64 y0,.int .i64 y1,.bool y2,.str y3]],[],0 => (some (Does.orderV x1 x3 y1 y3)).bind fun v => K (.ret (.int .i64 v)) (lcRet [] [] 0)
 | _,_,_ => none
noncomputable def specs_ref07_order : SpecL := (139,false,ref07_order.spec) :: specs_value_Do
noncomputable def cx_ref07_times := cxOf specs_ref07_order
noncomputable def ref07_times.spec : Spec := fun args st K => match args,st.box,st.nt with
 | [.int .i64 a,.int .i64 b],[],0 => (if Does.In64 a ∧ Does.In64 b then some (timesV a b) else none).bind fun v => K (.ret (.tup [.int .i64 v.1,.bool v.2])) (lcRet [] [] 0)
 | _,_,_ => none
noncomputable def specs_ref07_times : SpecL := (140,false,ref07_times.spec) :: specs_ref07_order
noncomputable def cx_ref07_truth := cxOf specs_ref07_times
noncomputable def ref07_truth.spec : Spec := fun args st K => match args,st.box,st.nt with
 | [.int .i64 z,.agg [.int .i64 x0,.int .i64 x1,.bool x2,.str x3],.agg [.int .i64 y0,.int .i64 y1,.bool y2,.str y3]],[],0 => (some (Does.truthV z x0 x1 x2 x3 y0 y1 y2 y3 (Does.orderV x1 x3 y1 y3))).bind fun v => K (.ret (.bool v)) (lcRet [] [] 0)
 | _,_,_ => none
noncomputable def specs_ref07_truth : SpecL := (109,false,ref07_truth.spec) :: specs_ref07_times
noncomputable def cx_ref07_whole := cxOf specs_ref07_truth
noncomputable def ref07_whole.spec : Spec := fun args st K => match args,st.box,st.nt with
 | [.int .i64 z,.int .i64 a,.int .i64 b],[],0 => (if Does.In64 a ∧ Does.In64 b then some (Does.wholeV z a b) else none).bind fun v => K (.ret (.tup [.int .i64 v.1,.bool v.2])) (lcRet [] [] 0)
 | _,_,_ => none
noncomputable def specs_ref07_whole : SpecL := (110,false,ref07_whole.spec) :: specs_ref07_truth
noncomputable def cx_ref07_Do := cxOf specs_ref07_whole
noncomputable def ref07_Do.spec : Spec := fun args st K => match args,st.box,st.nt with
 | [.int .i64 z,.agg [.int .i64 x0,.int .i64 x1,.bool x2,.str x3],.agg [.int .i64 y0,.int .i64 y1,.bool y2,.str y3]],[],0 => (if Does.In64 x1 ∧ Does.In64 y1 then some (doW z x0 x1 x2 x3 y0 y1 y2 y3) else none).bind fun v => K (.ret (.tup [.agg [.int .i64 v.1,.int .i64 v.2.1,.bool v.2.2.1,.str v.2.2.2.1],.bool v.2.2.2.2])) (lcRet [] [] 0)
 | _,_,_ => none
noncomputable def specs_ref07_Do : SpecL := (63,false,ref07_Do.spec) :: specs_ref07_whole
noncomputable def cx_plain_Case := cxOf specs_ref07_Do
noncomputable def plain_Case.spec : Spec := fun args st K => match args,st.box,st.nt with
 | [.agg [.int .i64 c0,.str c1,.sl (.pair .str (.pair .str (.pair (.int .i64) (.pair (.int .i64) (.pair (.sl (.int .i64)) (.int .i64)))))) c2 .no,.sl (.pair .str (.pair (.pair (.int .i64) (.pair (.int .i64) (.pair .bool .str))) (.sl .str))) c3 .no,.int .i64 c4]],[],0 => (if c2.length ≤ 9223372036854775807 ∧ c3.length ≤ 9223372036854775807 then some (caseB c2 c3) else none).bind fun v => K (.ret (.bool v)) (lcRet [] [] 0)
 | _,_,_ => none
noncomputable def specs_plain_Case : SpecL := (9,false,plain_Case.spec) :: specs_ref07_Do
noncomputable def cx_eval_Value := cxOf specs_plain_Case
noncomputable def eval_Value.spec : Spec := fun args st K => match args,st.box,st.nt with
 | [.agg [.int .i64 c0,.str c1,.sl (.pair .str (.pair .str (.pair (.int .i64) (.pair (.int .i64) (.pair (.sl (.int .i64)) (.int .i64)))))) c2 .no,.sl (.pair .str (.pair (.pair (.int .i64) (.pair (.int .i64) (.pair .bool .str))) (.sl .str))) c3 .no,.int .i64 c4],.str s],[],0 => (if c3.length ≤ 1000 then valueW c3 s else none).bind fun v => K (.ret (.tup [.agg [.int .i64 v.1,.int .i64 v.2.1,.bool v.2.2.1,.str v.2.2.2.1],.bool v.2.2.2.2])) (lcRet [] [] 0)
 | _,_,_ => none
noncomputable def specs_eval_Value : SpecL := (54,false,eval_Value.spec) :: specs_plain_Case
noncomputable def cx_eval_Count := cxOf specs_eval_Value
noncomputable def eval_Count.spec : Spec := fun args st K => match args,st.box,st.nt with
 | [.agg [.int .i64 c0,.str c1,.sl (.pair .str (.pair .str (.pair (.int .i64) (.pair (.int .i64) (.pair (.sl (.int .i64)) (.int .i64)))))) c2 .no,.sl (.pair .str (.pair (.pair (.int .i64) (.pair (.int .i64) (.pair .bool .str))) (.sl .str))) c3 .no,.int .i64 c4],.str s],[],0 => (if c3.length ≤ 1000 then countW c3 s 0 else none).bind fun v => K (.ret (.int .i64 v)) (lcRet [] [] 0)
 | _,_,_ => none
noncomputable def specs_eval_Count : SpecL := (56,false,eval_Count.spec) :: specs_eval_Value
noncomputable def cx_eval_Number := cxOf specs_eval_Count
noncomputable def eval_Number.spec : Spec := fun args st K => match args,st.box,st.nt with
 | [.agg [.int .i64 c0,.str c1,.sl (.pair .str (.pair .str (.pair (.int .i64) (.pair (.int .i64) (.pair (.sl (.int .i64)) (.int .i64)))))) c2 .no,.sl (.pair .str (.pair (.pair (.int .i64) (.pair (.int .i64) (.pair .bool .str))) (.sl .str))) c3 .no,.int .i64 c4],.str s,.int .i64 z],[],0 => (if c2.length ≤ 1000 then some (numberW c2 s z 0) else none).bind fun v => K (.ret (.int .i64 v)) (lcRet [] [] 0)
 | _,_,_ => none
noncomputable def specs_eval_Number : SpecL := (57,false,eval_Number.spec) :: specs_eval_Count
noncomputable def cx_eval_of := cxOf specs_eval_Number
noncomputable def eval_of.specR (k : Nat) : Spec := fun args st K => match args,st.box,st.nt with
 | [.agg [.int .i64 a0,.int .i64 a1,.int .i64 a2,.bool a3,.str a4,.str a5,.int .i64 a6,.sl (.user 0) a7 .no],.agg [.int .i64 c0,.str c1,.sl (.pair .str (.pair .str (.pair (.int .i64) (.pair (.int .i64) (.pair (.sl (.int .i64)) (.int .i64)))))) c2 .no,.sl (.pair .str (.pair (.pair (.int .i64) (.pair (.int .i64) (.pair .bool .str))) (.sl .str))) c3 .no,.int .i64 c4]],[],0 => (ofW c2 c3 k (nd a0 a1 a2 a3 a4 a5 a6 a7)).bind fun v => K (.ret (.tup [.agg [.int .i64 v.1,.int .i64 v.2.1,.bool v.2.2.1,.str v.2.2.2.1],.bool v.2.2.2.2])) (lcRet [] [] 0)
 | _,_,_ => none
noncomputable def eval_of.rec (k : Nat) := recL [(34,eval_of.specR k)]
noncomputable def eval_of.spec : Spec := fun args st K => match args,st.box,st.nt with
 | [.agg [.int .i64 a0,.int .i64 a1,.int .i64 a2,.bool a3,.str a4,.str a5,.int .i64 a6,.sl (.user 0) a7 .no],.agg [.int .i64 c0,.str c1,.sl (.pair .str (.pair .str (.pair (.int .i64) (.pair (.int .i64) (.pair (.sl (.int .i64)) (.int .i64)))))) c2 .no,.sl (.pair .str (.pair (.pair (.int .i64) (.pair (.int .i64) (.pair .bool .str))) (.sl .str))) c3 .no,.int .i64 c4]],[],0 => (ofW c2 c3 (big a7) (nd a0 a1 a2 a3 a4 a5 a6 a7)).bind fun v => K (.ret (.tup [.agg [.int .i64 v.1,.int .i64 v.2.1,.bool v.2.2.1,.str v.2.2.2.1],.bool v.2.2.2.2])) (lcRet [] [] 0)
 | _,_,_ => none
noncomputable def specs_eval_of : SpecL := (34,false,eval_of.spec) :: specs_eval_Number
noncomputable def cx_eval_Eval := cxOf specs_eval_of
noncomputable def eval_Eval.spec : Spec := fun args st K => match args,st.box,st.nt with
 | [.agg [.int .i64 a0,.int .i64 a1,.int .i64 a2,.bool a3,.str a4,.str a5,.int .i64 a6,.sl (.user 0) a7 .no],.agg [.int .i64 c0,.str c1,.sl (.pair .str (.pair .str (.pair (.int .i64) (.pair (.int .i64) (.pair (.sl (.int .i64)) (.int .i64)))))) c2 .no,.sl (.pair .str (.pair (.pair (.int .i64) (.pair (.int .i64) (.pair .bool .str))) (.sl .str))) c3 .no,.int .i64 c4]],[],0 => (evalW c2 c3 (nd a0 a1 a2 a3 a4 a5 a6 a7)).bind fun v => K (.ret (.tup [.agg [.int .i64 v.1,.int .i64 v.2.1,.bool v.2.2.1,.str v.2.2.2.1],.bool v.2.2.2.2])) (lcRet [] [] 0)
 | _,_,_ => none
noncomputable def specs_eval_Eval : SpecL := (18,false,eval_Eval.spec) :: specs_eval_of
noncomputable def cx_eval_Holds := cxOf specs_eval_Eval
noncomputable def eval_Holds.spec : Spec := fun args st K => match args,st.box,st.nt with
 | [.str s,.agg [.int .i64 c0,.str c1,.sl (.pair .str (.pair .str (.pair (.int .i64) (.pair (.int .i64) (.pair (.sl (.int .i64)) (.int .i64)))))) c2 .no,.sl (.pair .str (.pair (.pair (.int .i64) (.pair (.int .i64) (.pair .bool .str))) (.sl .str))) c3 .no,.int .i64 c4]],[],0 => (holdsW parseP finP s c2 c3).bind fun v => K (.ret (.bool v)) (lcRet [] [] 0)
 | _,_,_ => none
noncomputable def specs_eval_Holds : SpecL := (10,false,eval_Holds.spec) :: specs_eval_Eval
noncomputable def cx_ref11_base := cxOf specs_eval_Holds
noncomputable def ref11_base.spec : Spec := fun args st K => match args,st.box,st.nt with
 | [.str s],[],0 => (if s.size ≤ 900000 then some (B.bareW s) else none).bind fun v => K (.ret (.str v)) (lcRet [] [] 0)
 | _,_,_ => none
noncomputable def specs_ref11_base : SpecL := (107,false,ref11_base.spec) :: specs_eval_Holds
noncomputable def cx_ref11_Value := cxOf specs_ref11_base
noncomputable def ref11_Value.spec : Spec := fun args st K => match args,st.box,st.nt with
 | [.agg [.int .i64 c0,.str c1,.sl (.pair .str (.pair .str (.pair (.int .i64) (.pair (.int .i64) (.pair (.sl (.int .i64)) (.int .i64)))))) c2 .no,.sl (.pair .str (.pair (.pair (.int .i64) (.pair (.int .i64) (.pair .bool .str))) (.sl .str))) c3 .no,.int .i64 c4],.str s],[],0 => (if c3.length ≤ 1000 then valueW c3 s else none).bind fun v => K (.ret (.tup [.agg [.int .i64 v.1,.int .i64 v.2.1,.bool v.2.2.1,.str v.2.2.2.1],.bool v.2.2.2.2])) (lcRet [] [] 0)
 | _,_,_ => none
noncomputable def specs_ref11_Value : SpecL := (59,false,ref11_Value.spec) :: specs_ref11_base
noncomputable def cx_ref11_Count := cxOf specs_ref11_Value
noncomputable def ref11_Count.spec : Spec := fun args st K => match args,st.box,st.nt with
 | [.agg [.int .i64 c0,.str c1,.sl (.pair .str (.pair .str (.pair (.int .i64) (.pair (.int .i64) (.pair (.sl (.int .i64)) (.int .i64)))))) c2 .no,.sl (.pair .str (.pair (.pair (.int .i64) (.pair (.int .i64) (.pair .bool .str))) (.sl .str))) c3 .no,.int .i64 c4],.str s],[],0 => (if c3.length ≤ 1000 then countW c3 s 0 else none).bind fun v => K (.ret (.int .i64 v)) (lcRet [] [] 0)
 | _,_,_ => none
noncomputable def specs_ref11_Count : SpecL := (61,false,ref11_Count.spec) :: specs_ref11_Value
noncomputable def cx_ref11_Number := cxOf specs_ref11_Count
noncomputable def ref11_Number.spec : Spec := fun args st K => match args,st.box,st.nt with
 | [.agg [.int .i64 c0,.str c1,.sl (.pair .str (.pair .str (.pair (.int .i64) (.pair (.int .i64) (.pair (.sl (.int .i64)) (.int .i64)))))) c2 .no,.sl (.pair .str (.pair (.pair (.int .i64) (.pair (.int .i64) (.pair .bool .str))) (.sl .str))) c3 .no,.int .i64 c4],.str s,.int .i64 z],[],0 => (if c2.length ≤ 1000 then some (numberW c2 s z 0) else none).bind fun v => K (.ret (.int .i64 v)) (lcRet [] [] 0)
 | _,_,_ => none
noncomputable def specs_ref11_Number : SpecL := (62,false,ref11_Number.spec) :: specs_ref11_Count
noncomputable def cx_ref11_eval := cxOf specs_ref11_Number
noncomputable def ref11_eval.specR (k : Nat) : Spec := fun args st K => match args,st.box,st.nt with
 | [.agg [.int .i64 a0,.int .i64 a1,.int .i64 a2,.bool a3,.str a4,.str a5,.int .i64 a6,.sl (.user 0) a7 .no],.agg [.int .i64 c0,.str c1,.sl (.pair .str (.pair .str (.pair (.int .i64) (.pair (.int .i64) (.pair (.sl (.int .i64)) (.int .i64)))))) c2 .no,.sl (.pair .str (.pair (.pair (.int .i64) (.pair (.int .i64) (.pair .bool .str))) (.sl .str))) c3 .no,.int .i64 c4]],[],0 => (ofW c2 c3 k (nd a0 a1 a2 a3 a4 a5 a6 a7)).bind fun v => K (.ret (.tup [.agg [.int .i64 v.1,.int .i64 v.2.1,.bool v.2.2.1,.str v.2.2.2.1],.bool v.2.2.2.2])) (lcRet [] [] 0)
 | _,_,_ => none
noncomputable def ref11_eval.rec (k : Nat) := recL [(35,ref11_eval.specR k)]
noncomputable def ref11_eval.spec : Spec := fun args st K => match args,st.box,st.nt with
 | [.agg [.int .i64 a0,.int .i64 a1,.int .i64 a2,.bool a3,.str a4,.str a5,.int .i64 a6,.sl (.user 0) a7 .no],.agg [.int .i64 c0,.str c1,.sl (.pair .str (.pair .str (.pair (.int .i64) (.pair (.int .i64) (.pair (.sl (.int .i64)) (.int .i64)))))) c2 .no,.sl (.pair .str (.pair (.pair (.int .i64) (.pair (.int .i64) (.pair .bool .str))) (.sl .str))) c3 .no,.int .i64 c4]],[],0 => (ofW c2 c3 (big a7) (nd a0 a1 a2 a3 a4 a5 a6 a7)).bind fun v => K (.ret (.tup [.agg [.int .i64 v.1,.int .i64 v.2.1,.bool v.2.2.1,.str v.2.2.2.1],.bool v.2.2.2.2])) (lcRet [] [] 0)
 | _,_,_ => none
noncomputable def specs_ref11_eval : SpecL := (35,false,ref11_eval.spec) :: specs_ref11_Number
noncomputable def cx_ref11_Eval := cxOf specs_ref11_eval
noncomputable def ref11_Eval.spec : Spec := fun args st K => match args,st.box,st.nt with
 | [.agg [.int .i64 a0,.int .i64 a1,.int .i64 a2,.bool a3,.str a4,.str a5,.int .i64 a6,.sl (.user 0) a7 .no],.agg [.int .i64 c0,.str c1,.sl (.pair .str (.pair .str (.pair (.int .i64) (.pair (.int .i64) (.pair (.sl (.int .i64)) (.int .i64)))))) c2 .no,.sl (.pair .str (.pair (.pair (.int .i64) (.pair (.int .i64) (.pair .bool .str))) (.sl .str))) c3 .no,.int .i64 c4]],[],0 => (evalW c2 c3 (nd a0 a1 a2 a3 a4 a5 a6 a7)).bind fun v => K (.ret (.tup [.agg [.int .i64 v.1,.int .i64 v.2.1,.bool v.2.2.1,.str v.2.2.2.1],.bool v.2.2.2.2])) (lcRet [] [] 0)
 | _,_,_ => none
noncomputable def specs_ref11_Eval : SpecL := (19,false,ref11_Eval.spec) :: specs_ref11_eval
noncomputable def cx_ref11_Holds := cxOf specs_ref11_Eval
noncomputable def ref11_Holds.spec : Spec := fun args st K => match args,st.box,st.nt with
 | [.str s,.agg [.int .i64 c0,.str c1,.sl (.pair .str (.pair .str (.pair (.int .i64) (.pair (.int .i64) (.pair (.sl (.int .i64)) (.int .i64)))))) c2 .no,.sl (.pair .str (.pair (.pair (.int .i64) (.pair (.int .i64) (.pair .bool .str))) (.sl .str))) c3 .no,.int .i64 c4]],[],0 => (holdsW parseR finR s c2 c3).bind fun v => K (.ret (.bool v)) (lcRet [] [] 0)
 | _,_,_ => none
noncomputable def specs_ref11_Holds : SpecL := (11,false,ref11_Holds.spec) :: specs_ref11_Eval
noncomputable def cx_law11_awake := cxOf specs_ref11_Holds
noncomputable def law11_awake.spec : Spec := fun args st K => match args,st.box,st.nt with
 | [],[],0 => (awakeH).bind fun v => K (.ret (.bool v)) (lcRet [] [] 0)
 | _,_,_ => none
noncomputable def specs_law11_awake : SpecL := (12,false,law11_awake.spec) :: specs_ref11_Holds
noncomputable def cx_law_Holds := cxOf specs_law11_awake
noncomputable def law_Holds.spec : Spec := fun args st K => match args,st.box,st.nt with
 | [.str s,.agg [.int .i64 c0,.str c1,.sl (.pair .str (.pair .str (.pair (.int .i64) (.pair (.int .i64) (.pair (.sl (.int .i64)) (.int .i64)))))) c2 .no,.sl (.pair .str (.pair (.pair (.int .i64) (.pair (.int .i64) (.pair .bool .str))) (.sl .str))) c3 .no,.int .i64 c4]],[],0 => (lawH s c2 c3).bind fun v => K (.ret (.bool v)) (lcRet [] [] 0)
 | _,_,_ => none
noncomputable def specs_law_Holds : SpecL := (4,false,law_Holds.spec) :: specs_law11_awake
end Go.Proofs.YtbcpnpbkbndkjaaGreatDoor.Ev
end
section
/- What each function comes to, one step of it at a time: the kernel's own reckoning. -/
set_option linter.unusedVariables false
set_option maxRecDepth 100000
namespace Go.Proofs.YtbcpnpbkbndkjaaGreatDoor.Ev
open Go Go.RowKit
open Go.IntKind (i64 u8 i32 u64)
theorem cmp_isNaN.top (n : Nat) (z : Int) : callX false (fnF cx_cmp_isNaN noCalls n 158) ([.int .i64 z]) (lcSt [] 0) out = some (.ret (.bool (z != z)),lcRet [] [] 0) := by kernel_rfl
theorem value_Do.top (n : Nat) (z x0 x1 : Int) (x2 : Bool) (x3 : ByteArray) (y0 y1 : Int) (y2 : Bool) (y3 : ByteArray) : callX false (fnF cx_value_Do noCalls n 58) ([.int .i64 z,.agg [.int .i64 x0,.int .i64 x1,.bool x2,.str x3],.agg [.int .i64 y0,.int .i64 y1,.bool y2,.str y3]]) (lcSt [] 0) out = if (!(kindV z x0 y0).2) = true then some (.ret (.tup [.agg [.int .i64 0,.int .i64 0,.bool false,.str ⟨#[]⟩],.bool false]),lcRet [] [] 0) else if (if false = true then true else !canV x0 x1 x2 x3) = true then some (.ret (.tup [.agg [.int .i64 0,.int .i64 0,.bool false,.str ⟨#[]⟩],.bool false]),lcRet [] [] 0) else if (if false = true then true else !canV y0 y1 y2 y3) = true then some (.ret (.tup [.agg [.int .i64 0,.int .i64 0,.bool false,.str ⟨#[]⟩],.bool false]),lcRet [] [] 0) else if ((kindV z x0 y0).1 == 2) = true then some (.ret (.tup [.agg [.int .i64 2,.int .i64 0,.bool (Does.judgeV z x0 x1 x2 x3 y0 y1 y2 y3),.str ⟨#[]⟩],.bool true]),lcRet [] [] 0) else ((if Does.In64 x1 ∧ Does.In64 y1 then some (Does.reckonV z x1 y1) else none).bind fun v0 => if (!v0.2) = true then some (.ret (.tup [.agg [.int .i64 0,.int .i64 0,.bool false,.str ⟨#[]⟩],.bool false]),lcRet [] [] 0) else some (.ret (.tup [.agg [.int .i64 1,.int .i64 v0.1,.bool false,.str ⟨#[]⟩],.bool true]),lcRet [] [] 0)) := by kernel_rfl
noncomputable def eval_Value.L1 (n k0 : Nat) (c0 : Int) (c1 : ByteArray) (c2 : List (ByteArray × ByteArray × Int × Int × List Int × Int)) (c3 : List (ByteArray × (Int × Int × Bool × ByteArray) × List ByteArray)) (c4 : Int) (s j0 : ByteArray) (j1 : List (ByteArray × (Int × Int × Bool × ByteArray) × List ByteArray)) (j2 j3 j4 : Int) (j5 : ByteArray) (j6 : List (ByteArray × ByteArray × Int × Int × List Int × Int)) (j7 : List (ByteArray × (Int × Int × Bool × ByteArray) × List ByteArray)) (j8 j9 j10 : Int) (j11 : Bool) (j12 : ByteArray) : Option (Rr U0) := loopF cx_eval_Value noCalls k0 (2) ([(1,false),(4,false),(9,false),(10,false),(11,false)]) ((siteC (Tryz.f54.body.getD .skip) [1,0,1,0]).getD .skip) (siteK cx_eval_Value noCalls n [] (Tryz.f54.body.getD .skip) [1,0,1,0] (bodyK cx_eval_Value Tryz.f54 (lcSt [] 0) (callK false [] [] (lcSt [] 0) out))) (St.mk [(1,.str j0),(4,.ptr 1 0),(9,.sl docT j1 .no),(10,.int .i64 j2),(11,.int .i64 j3)] [[.int .i64 j4,.str j5,.sl (Ty.str.pair (Ty.str.pair ((Ty.int IntKind.i64).pair ((Ty.int IntKind.i64).pair ((Ty.int IntKind.i64).sl.pair (.int .i64)))))) j6 .no,.sl docT j7 .no,.int .i64 j8],[.int .i64 j9,.int .i64 j10,.bool j11,.str j12]] [] 0 0 0 0 0 54 [] 34)
theorem eval_Value.L1_s (n k0 : Nat) (c0 : Int) (c1 : ByteArray) (c2 : List (ByteArray × ByteArray × Int × Int × List Int × Int)) (c3 : List (ByteArray × (Int × Int × Bool × ByteArray) × List ByteArray)) (c4 : Int) (s j0 : ByteArray) (j1 : List (ByteArray × (Int × Int × Bool × ByteArray) × List ByteArray)) (j2 j3 j4 : Int) (j5 : ByteArray) (j6 : List (ByteArray × ByteArray × Int × Int × List Int × Int)) (j7 : List (ByteArray × (Int × Int × Bool × ByteArray) × List ByteArray)) (j8 j9 j10 : Int) (j11 : Bool) (j12 : ByteArray) : eval_Value.L1 n (k0 + 1) c0 c1 c2 c3 c4 s j0 j1 j2 j3 j4 j5 j6 j7 j8 j9 j10 j11 j12 = if decide (j3 < j2) = true then if 0 ≤ j3 then ((nth j1 j3.toNat).bind fun v1 => if ByteArray.size v1.1 ≤ 900000 then if (!seq (B.bareW v1.1) j0) = true then (eval_Value.L1 n k0 c0 c1 c2 c3 c4 s j0 j1 j2 (i64.wrap (j3 + 1)) j4 j5 j6 j7 j8 j9 j10 j11 j12) else if (v1.2.1.1 == 0) = true then some (.ret (.tup [.agg [.int .i64 0,.int .i64 0,.bool false,.str ⟨#[]⟩],.bool false]),lcRet [] [] 0) else if (if false = true then true else !canV v1.2.1.1 v1.2.1.2.1 v1.2.1.2.2.1 v1.2.1.2.2.2) = true then some (.ret (.tup [.agg [.int .i64 0,.int .i64 0,.bool false,.str ⟨#[]⟩],.bool false]),lcRet [] [] 0) else some (.ret (.tup [.agg [.int .i64 v1.2.1.1,.int .i64 v1.2.1.2.1,.bool v1.2.1.2.2.1,.str v1.2.1.2.2.2],.bool true]),lcRet [] [] 0) else none) else none else some (.ret (.tup [.agg [.int .i64 0,.int .i64 0,.bool false,.str ⟨#[]⟩],.bool false]),lcRet [] [] 0) := by kernel_rfl
theorem eval_Value.top (n : Nat) (c0 : Int) (c1 : ByteArray) (c2 : List (ByteArray × ByteArray × Int × Int × List Int × Int)) (c3 : List (ByteArray × (Int × Int × Bool × ByteArray) × List ByteArray)) (c4 : Int) (s : ByteArray) : callX false (fnF cx_eval_Value noCalls n 54) ([.agg [.int .i64 c0,.str c1,.sl (Ty.str.pair (Ty.str.pair ((Ty.int IntKind.i64).pair ((Ty.int IntKind.i64).pair ((Ty.int IntKind.i64).sl.pair (.int .i64)))))) c2 .no,.sl docT c3 .no,.int .i64 c4],.str s]) (lcSt [] 0) out = (eval_Value.L1 n n c0 c1 c2 c3 c4 s s c3 ((↑c3.length : Int)) 0 c0 c1 c2 c3 c4 0 0 false (ByteArray.mk #[])) := by kernel_rfl
noncomputable def ref11_Value.L1 (n k0 : Nat) (c0 : Int) (c1 : ByteArray) (c2 : List (ByteArray × ByteArray × Int × Int × List Int × Int)) (c3 : List (ByteArray × (Int × Int × Bool × ByteArray) × List ByteArray)) (c4 : Int) (s j0 : ByteArray) (j1 : List (ByteArray × (Int × Int × Bool × ByteArray) × List ByteArray)) (j2 j3 j4 : Int) (j5 : ByteArray) (j6 : List (ByteArray × ByteArray × Int × Int × List Int × Int)) (j7 : List (ByteArray × (Int × Int × Bool × ByteArray) × List ByteArray)) (j8 j9 j10 : Int) (j11 : Bool) (j12 : ByteArray) : Option (Rr U0) := loopF cx_ref11_Value noCalls k0 (2) ([(1,false),(4,false),(9,false),(10,false),(11,false)]) ((siteC (Tryz.f59.body.getD .skip) [1,0,1,0]).getD .skip) (siteK cx_ref11_Value noCalls n [] (Tryz.f59.body.getD .skip) [1,0,1,0] (bodyK cx_ref11_Value Tryz.f59 (lcSt [] 0) (callK false [] [] (lcSt [] 0) out))) (St.mk [(1,.str j0),(4,.ptr 1 0),(9,.sl docT j1 .no),(10,.int .i64 j2),(11,.int .i64 j3)] [[.int .i64 j4,.str j5,.sl (Ty.str.pair (Ty.str.pair ((Ty.int IntKind.i64).pair ((Ty.int IntKind.i64).pair ((Ty.int IntKind.i64).sl.pair (.int .i64)))))) j6 .no,.sl docT j7 .no,.int .i64 j8],[.int .i64 j9,.int .i64 j10,.bool j11,.str j12]] [] 0 0 0 0 0 59 [] 35)
theorem ref11_Value.L1_s (n k0 : Nat) (c0 : Int) (c1 : ByteArray) (c2 : List (ByteArray × ByteArray × Int × Int × List Int × Int)) (c3 : List (ByteArray × (Int × Int × Bool × ByteArray) × List ByteArray)) (c4 : Int) (s j0 : ByteArray) (j1 : List (ByteArray × (Int × Int × Bool × ByteArray) × List ByteArray)) (j2 j3 j4 : Int) (j5 : ByteArray) (j6 : List (ByteArray × ByteArray × Int × Int × List Int × Int)) (j7 : List (ByteArray × (Int × Int × Bool × ByteArray) × List ByteArray)) (j8 j9 j10 : Int) (j11 : Bool) (j12 : ByteArray) : ref11_Value.L1 n (k0 + 1) c0 c1 c2 c3 c4 s j0 j1 j2 j3 j4 j5 j6 j7 j8 j9 j10 j11 j12 = if decide (j3 < j2) = true then if 0 ≤ j3 then ((nth j1 j3.toNat).bind fun v2 => ((if ByteArray.size v2.1 ≤ 900000 then some (B.bareW v2.1) else none).bind fun v3 => if seq v3 j0 = true then if (if (!canV v2.2.1.1 v2.2.1.2.1 v2.2.1.2.2.1 v2.2.1.2.2.2) = true then true else v2.2.1.1 == 0) = true then some (.ret (.tup [.agg [.int .i64 0,.int .i64 0,.bool false,.str ⟨#[]⟩],.bool false]),lcRet [] [] 0) else some (.ret (.tup [.agg [.int .i64 v2.2.1.1,.int .i64 v2.2.1.2.1,.bool v2.2.1.2.2.1,.str v2.2.1.2.2.2],.bool true]),lcRet [] [] 0) else (ref11_Value.L1 n k0 c0 c1 c2 c3 c4 s j0 j1 j2 (i64.wrap (j3 + 1)) j4 j5 j6 j7 j8 j9 j10 j11 j12))) else none else some (.ret (.tup [.agg [.int .i64 0,.int .i64 0,.bool false,.str ⟨#[]⟩],.bool false]),lcRet [] [] 0) := by kernel_rfl
theorem ref11_Value.top (n : Nat) (c0 : Int) (c1 : ByteArray) (c2 : List (ByteArray × ByteArray × Int × Int × List Int × Int)) (c3 : List (ByteArray × (Int × Int × Bool × ByteArray) × List ByteArray)) (c4 : Int) (s : ByteArray) : callX false (fnF cx_ref11_Value noCalls n 59) ([.agg [.int .i64 c0,.str c1,.sl (Ty.str.pair (Ty.str.pair ((Ty.int IntKind.i64).pair ((Ty.int IntKind.i64).pair ((Ty.int IntKind.i64).sl.pair (.int .i64)))))) c2 .no,.sl docT c3 .no,.int .i64 c4],.str s]) (lcSt [] 0) out = (ref11_Value.L1 n n c0 c1 c2 c3 c4 s s c3 ((↑c3.length : Int)) 0 c0 c1 c2 c3 c4 0 0 false (ByteArray.mk #[])) := by kernel_rfl
theorem law_Holds.top (n : Nat) (s : ByteArray) (c0 : Int) (c1 : ByteArray) (c2 : List (ByteArray × ByteArray × Int × Int × List Int × Int)) (c3 : List (ByteArray × (Int × Int × Bool × ByteArray) × List ByteArray)) (c4 : Int) : callX false (fnF cx_law_Holds noCalls n 4) ([.str s,.agg [.int .i64 c0,.str c1,.sl (Ty.str.pair (Ty.str.pair ((Ty.int IntKind.i64).pair ((Ty.int IntKind.i64).pair ((Ty.int IntKind.i64).sl.pair (.int .i64)))))) c2 .no,.sl docT c3 .no,.int .i64 c4]]) (lcSt [] 0) out = ((if c2.length ≤ 9223372036854775807 ∧ c3.length ≤ 9223372036854775807 then some (caseB c2 c3) else none).bind fun v0 => if (!v0) = true then ((holdsW parseP finP (ByteArray.mk #[97,32,62,32,52,32,97,110,100,32,99,111,117,110,116,40,97,41,32,61,32,49]) [] [(ByteArray.mk #[97,35,49],((1 : Int),(5 : Int),false,ByteArray.mk #[]),[])]).bind fun x => if x = true then (holdsW parseP finP (ByteArray.mk #[97,32,62,32,53]) [] [(ByteArray.mk #[97,35,49],((1 : Int),(5 : Int),false,ByteArray.mk #[]),[])]).bind fun y => some !y else some false).bind fun v1 => some (.ret (.bool (if true = true then v1 else false)),lcRet [] [] 0) else ((holdsW parseP finP s c2 c3).bind fun v2 => ((holdsW parseR finR s c2 c3).bind fun v3 => if (if false = true then true else v2 == v3) = true then ((holdsW parseP finP (ByteArray.mk #[97,32,62,32,52,32,97,110,100,32,99,111,117,110,116,40,97,41,32,61,32,49]) [] [(ByteArray.mk #[97,35,49],((1 : Int),(5 : Int),false,ByteArray.mk #[]),[])]).bind fun x => if x = true then (holdsW parseP finP (ByteArray.mk #[97,32,62,32,53]) [] [(ByteArray.mk #[97,35,49],((1 : Int),(5 : Int),false,ByteArray.mk #[]),[])]).bind fun y => some !y else some false).bind fun v4 => some (.ret (.bool (if true = true then v4 else false)),lcRet [] [] 0) else some (.ret (.bool false),lcRet [] [] 0)))) := by kernel_rfl
theorem cmp_Compare.top (n : Nat) (a b : Int) : callX false (fnF cx_cmp_Compare noCalls n 135) ([.int .i64 a,.int .i64 b]) (lcSt [] 0) out = if decide (a < b) = true then some (.ret (.int .i64 (-1 : Int)),lcRet [] [] 0) else if decide (a > b) = true then some (.ret (.int .i64 1),lcRet [] [] 0) else some (.ret (.int .i64 0),lcRet [] [] 0) := by kernel_rfl
theorem ref07_order.top (n : Nat) (x0 x1 : Int) (x2 : Bool) (x3 : ByteArray) (y0 y1 : Int) (y2 : Bool) (y3 : ByteArray) : callX false (fnF cx_ref07_order noCalls n 139) ([.agg [.int .i64 x0,.int .i64 x1,.bool x2,.str x3],.agg [.int .i64 y0,.int .i64 y1,.bool y2,.str y3]]) (lcSt [] 0) out = if (if decide (x1 < y1) = true then true else sless x3 y3) = true then some (.ret (.int .i64 (-1 : Int)),lcRet [] [] 0) else if (if decide (x1 > y1) = true then true else !(sless x3 y3 || seq x3 y3)) = true then some (.ret (.int .i64 1),lcRet [] [] 0) else some (.ret (.int .i64 0),lcRet [] [] 0) := by kernel_rfl
noncomputable def eval_Count.L1 (n k0 : Nat) (c0 : Int) (c1 : ByteArray) (c2 : List (ByteArray × ByteArray × Int × Int × List Int × Int)) (c3 : List (ByteArray × (Int × Int × Bool × ByteArray) × List ByteArray)) (c4 : Int) (s j0 : ByteArray) (j1 : Int) (j2 : List (ByteArray × (Int × Int × Bool × ByteArray) × List ByteArray)) (j3 j4 j5 : Int) (j6 : ByteArray) (j7 : List (ByteArray × ByteArray × Int × Int × List Int × Int)) (j8 : List (ByteArray × (Int × Int × Bool × ByteArray) × List ByteArray)) (j9 : Int) : Option (Rr U0) := loopF cx_eval_Count noCalls k0 (1) ([(1,false),(4,false),(8,false),(9,false),(10,false)]) ((siteC (Tryz.f56.body.getD .skip) [1,0,1,0]).getD .skip) (siteK cx_eval_Count noCalls n [] (Tryz.f56.body.getD .skip) [1,0,1,0] (bodyK cx_eval_Count Tryz.f56 (lcSt [] 0) (callK false [] [] (lcSt [] 0) out))) (St.mk [(1,.str j0),(4,.int .i64 j1),(8,.sl docT j2 .no),(9,.int .i64 j3),(10,.int .i64 j4)] [[.int .i64 j5,.str j6,.sl (Ty.str.pair (Ty.str.pair ((Ty.int IntKind.i64).pair ((Ty.int IntKind.i64).pair ((Ty.int IntKind.i64).sl.pair (.int .i64)))))) j7 .no,.sl docT j8 .no,.int .i64 j9]] [] 0 0 0 0 0 56 [] 23)
theorem eval_Count.L1_s (n k0 : Nat) (c0 : Int) (c1 : ByteArray) (c2 : List (ByteArray × ByteArray × Int × Int × List Int × Int)) (c3 : List (ByteArray × (Int × Int × Bool × ByteArray) × List ByteArray)) (c4 : Int) (s j0 : ByteArray) (j1 : Int) (j2 : List (ByteArray × (Int × Int × Bool × ByteArray) × List ByteArray)) (j3 j4 j5 : Int) (j6 : ByteArray) (j7 : List (ByteArray × ByteArray × Int × Int × List Int × Int)) (j8 : List (ByteArray × (Int × Int × Bool × ByteArray) × List ByteArray)) (j9 : Int) : eval_Count.L1 n (k0 + 1) c0 c1 c2 c3 c4 s j0 j1 j2 j3 j4 j5 j6 j7 j8 j9 = if decide (j4 < j3) = true then if 0 ≤ j4 then ((nth j2 j4.toNat).bind fun v1 => if ByteArray.size v1.1 ≤ 900000 then if seq (B.bareW v1.1) j0 = true then (eval_Count.L1 n k0 c0 c1 c2 c3 c4 s j0 (i64.wrap (j1 + 1)) j2 j3 (i64.wrap (j4 + 1)) j5 j6 j7 j8 j9) else (eval_Count.L1 n k0 c0 c1 c2 c3 c4 s j0 j1 j2 j3 (i64.wrap (j4 + 1)) j5 j6 j7 j8 j9) else none) else none else some (.ret (.int .i64 j1),lcRet [] [] 0) := by kernel_rfl
theorem eval_Count.top (n : Nat) (c0 : Int) (c1 : ByteArray) (c2 : List (ByteArray × ByteArray × Int × Int × List Int × Int)) (c3 : List (ByteArray × (Int × Int × Bool × ByteArray) × List ByteArray)) (c4 : Int) (s : ByteArray) : callX false (fnF cx_eval_Count noCalls n 56) ([.agg [.int .i64 c0,.str c1,.sl (Ty.str.pair (Ty.str.pair ((Ty.int IntKind.i64).pair ((Ty.int IntKind.i64).pair ((Ty.int IntKind.i64).sl.pair (.int .i64)))))) c2 .no,.sl docT c3 .no,.int .i64 c4],.str s]) (lcSt [] 0) out = (eval_Count.L1 n n c0 c1 c2 c3 c4 s s 0 c3 ((↑c3.length : Int)) 0 c0 c1 c2 c3 c4) := by kernel_rfl
noncomputable def ref11_Count.L1 (n k0 : Nat) (c0 : Int) (c1 : ByteArray) (c2 : List (ByteArray × ByteArray × Int × Int × List Int × Int)) (c3 : List (ByteArray × (Int × Int × Bool × ByteArray) × List ByteArray)) (c4 : Int) (s j0 : ByteArray) (j1 : Int) (j2 : List (ByteArray × (Int × Int × Bool × ByteArray) × List ByteArray)) (j3 j4 j5 : Int) (j6 : ByteArray) (j7 : List (ByteArray × ByteArray × Int × Int × List Int × Int)) (j8 : List (ByteArray × (Int × Int × Bool × ByteArray) × List ByteArray)) (j9 : Int) : Option (Rr U0) := loopF cx_ref11_Count noCalls k0 (1) ([(1,false),(5,false),(9,false),(10,false),(11,false)]) ((siteC (Tryz.f61.body.getD .skip) [1,1,0,1,0]).getD .skip) (siteK cx_ref11_Count noCalls n [] (Tryz.f61.body.getD .skip) [1,1,0,1,0] (bodyK cx_ref11_Count Tryz.f61 (lcSt [] 0) (callK false [] [] (lcSt [] 0) out))) (St.mk [(1,.str j0),(5,.int .i64 j1),(9,.sl docT j2 .no),(10,.int .i64 j3),(11,.int .i64 j4)] [[.int .i64 j5,.str j6,.sl (Ty.str.pair (Ty.str.pair ((Ty.int IntKind.i64).pair ((Ty.int IntKind.i64).pair ((Ty.int IntKind.i64).sl.pair (.int .i64)))))) j7 .no,.sl docT j8 .no,.int .i64 j9]] [] 0 0 0 0 0 61 [] 24)
theorem ref11_Count.L1_s (n k0 : Nat) (c0 : Int) (c1 : ByteArray) (c2 : List (ByteArray × ByteArray × Int × Int × List Int × Int)) (c3 : List (ByteArray × (Int × Int × Bool × ByteArray) × List ByteArray)) (c4 : Int) (s j0 : ByteArray) (j1 : Int) (j2 : List (ByteArray × (Int × Int × Bool × ByteArray) × List ByteArray)) (j3 j4 j5 : Int) (j6 : ByteArray) (j7 : List (ByteArray × ByteArray × Int × Int × List Int × Int)) (j8 : List (ByteArray × (Int × Int × Bool × ByteArray) × List ByteArray)) (j9 : Int) : ref11_Count.L1 n (k0 + 1) c0 c1 c2 c3 c4 s j0 j1 j2 j3 j4 j5 j6 j7 j8 j9 = if decide (j4 < j3) = true then if 0 ≤ j4 then ((nth j2 j4.toNat).bind fun v2 => ((if ByteArray.size v2.1 ≤ 900000 then some (B.bareW v2.1) else none).bind fun v3 => if seq v3 j0 = true then (ref11_Count.L1 n k0 c0 c1 c2 c3 c4 s j0 (i64.wrap (j1 + 1)) j2 j3 (i64.wrap (j4 + 1)) j5 j6 j7 j8 j9) else (ref11_Count.L1 n k0 c0 c1 c2 c3 c4 s j0 j1 j2 j3 (i64.wrap (j4 + 1)) j5 j6 j7 j8 j9))) else none else some (.ret (.int .i64 j1),lcRet [] [] 0) := by kernel_rfl
theorem ref11_Count.top (n : Nat) (c0 : Int) (c1 : ByteArray) (c2 : List (ByteArray × ByteArray × Int × Int × List Int × Int)) (c3 : List (ByteArray × (Int × Int × Bool × ByteArray) × List ByteArray)) (c4 : Int) (s : ByteArray) : callX false (fnF cx_ref11_Count noCalls n 61) ([.agg [.int .i64 c0,.str c1,.sl (Ty.str.pair (Ty.str.pair ((Ty.int IntKind.i64).pair ((Ty.int IntKind.i64).pair ((Ty.int IntKind.i64).sl.pair (.int .i64)))))) c2 .no,.sl docT c3 .no,.int .i64 c4],.str s]) (lcSt [] 0) out = (ref11_Count.L1 n n c0 c1 c2 c3 c4 s s 0 c3 ((↑c3.length : Int)) 0 c0 c1 c2 c3 c4) := by kernel_rfl
noncomputable def cmp_Or.L0 (n k0 : Nat) (l : List Int) (j0 : Int) (j1 : List Int) (j2 j3 : Int) : Option (Rr U0) := loopF cx_cmp_Or noCalls k0 0 ([(3,false),(6,false),(7,false),(8,false)]) ((siteC (Tryz.f134.body.getD .skip) [1,1,0,1,0]).getD .skip) (siteK cx_cmp_Or noCalls n [] (Tryz.f134.body.getD .skip) [1,1,0,1,0] (bodyK cx_cmp_Or Tryz.f134 (lcSt [] 0) (callK false [] [] (lcSt [] 0) out))) (St.mk [(3,.int .i64 j0),(6,.sl (.int .i64) j1 .no),(7,.int .i64 j2),(8,.int .i64 j3)] [] [] 0 0 0 0 0 134 [] 18)
theorem cmp_Or.L0_s (n k0 : Nat) (l : List Int) (j0 : Int) (j1 : List Int) (j2 j3 : Int) : cmp_Or.L0 n (k0 + 1) l j0 j1 j2 j3 = if decide (j3 < j2) = true then if 0 ≤ j3 then ((nth j1 j3.toNat).bind fun v0 => if (v0 != j0) = true then some (.ret (.int .i64 v0),lcRet [] [] 0) else (cmp_Or.L0 n k0 l j0 j1 j2 (i64.wrap (j3 + 1)))) else none else some (.ret (.int .i64 j0),lcRet [] [] 0) := by kernel_rfl
theorem cmp_Or.top (n : Nat) (l : List Int) : callX false (fnF cx_cmp_Or noCalls n 134) ([.sl (.int .i64) l .no]) (lcSt [] 0) out = (cmp_Or.L0 n n l 0 l ((↑l.length : Int)) 0) := by kernel_rfl
theorem ref07_times.top (n : Nat) (a b : Int) : callX false (fnF cx_ref07_times noCalls n 140) ([.int .i64 a,.int .i64 b]) (lcSt [] 0) out = if (if (a == 0) = true then true else b == 0) = true then some (.ret (.tup [.int .i64 0,.bool true]),lcRet [] [] 0) else if (if (if (a == (-1 : Int)) = true then b == (-9223372036854775808 : Int) else false) = true then true else if (b == (-1 : Int)) = true then a == (-9223372036854775808 : Int) else false) = true then some (.ret (.tup [.int .i64 0,.bool false]),lcRet [] [] 0) else if b = (0 : Int) then none else some (.ret (.tup [.int .i64 (i64.wrap (a * b)),.bool (i64.wrap ((i64.wrap (a * b)).tdiv b) == a)]),lcRet [] [] 0) := by kernel_rfl
noncomputable def eval_Number.L1 (n k0 : Nat) (c0 : Int) (c1 : ByteArray) (c2 : List (ByteArray × ByteArray × Int × Int × List Int × Int)) (c3 : List (ByteArray × (Int × Int × Bool × ByteArray) × List ByteArray)) (c4 : Int) (s : ByteArray) (z : Int) (j0 : ByteArray) (j1 j2 : Int) (j3 : List (ByteArray × ByteArray × Int × Int × List Int × Int)) (j4 j5 j6 : Int) (j7 : ByteArray) (j8 : List (ByteArray × ByteArray × Int × Int × List Int × Int)) (j9 : List (ByteArray × (Int × Int × Bool × ByteArray) × List ByteArray)) (j10 : Int) : Option (Rr U0) := loopF cx_eval_Number noCalls k0 (1) ([(1,false),(2,false),(6,false),(10,false),(11,false),(12,false)]) ((siteC (Tryz.f57.body.getD .skip) [1,0,1,0]).getD .skip) (siteK cx_eval_Number noCalls n [] (Tryz.f57.body.getD .skip) [1,0,1,0] (bodyK cx_eval_Number Tryz.f57 (lcSt [] 0) (callK false [] [] (lcSt [] 0) out))) (St.mk [(1,.str j0),(2,.int .i64 j1),(6,.int .i64 j2),(10,.sl (Ty.str.pair (Ty.str.pair ((Ty.int IntKind.i64).pair ((Ty.int IntKind.i64).pair ((Ty.int IntKind.i64).sl.pair (.int .i64)))))) j3 .no),(11,.int .i64 j4),(12,.int .i64 j5)] [[.int .i64 j6,.str j7,.sl (Ty.str.pair (Ty.str.pair ((Ty.int IntKind.i64).pair ((Ty.int IntKind.i64).pair ((Ty.int IntKind.i64).sl.pair (.int .i64)))))) j8 .no,.sl docT j9 .no,.int .i64 j10]] [] 0 0 0 0 0 57 [] 30)
theorem eval_Number.L1_s (n k0 : Nat) (c0 : Int) (c1 : ByteArray) (c2 : List (ByteArray × ByteArray × Int × Int × List Int × Int)) (c3 : List (ByteArray × (Int × Int × Bool × ByteArray) × List ByteArray)) (c4 : Int) (s : ByteArray) (z : Int) (j0 : ByteArray) (j1 j2 : Int) (j3 : List (ByteArray × ByteArray × Int × Int × List Int × Int)) (j4 j5 j6 : Int) (j7 : ByteArray) (j8 : List (ByteArray × ByteArray × Int × Int × List Int × Int)) (j9 : List (ByteArray × (Int × Int × Bool × ByteArray) × List ByteArray)) (j10 : Int) : eval_Number.L1 n (k0 + 1) c0 c1 c2 c3 c4 s z j0 j1 j2 j3 j4 j5 j6 j7 j8 j9 j10 = if decide (j5 < j4) = true then if 0 ≤ j5 then ((nth j3 j5.toNat).bind fun v1 => if (if seq v1.2.1 j0 = true then v1.2.2.1 == j1 else false) = true then (eval_Number.L1 n k0 c0 c1 c2 c3 c4 s z j0 j1 (i64.wrap (j2 + 1)) j3 j4 (i64.wrap (j5 + 1)) j6 j7 j8 j9 j10) else (eval_Number.L1 n k0 c0 c1 c2 c3 c4 s z j0 j1 j2 j3 j4 (i64.wrap (j5 + 1)) j6 j7 j8 j9 j10)) else none else some (.ret (.int .i64 j2),lcRet [] [] 0) := by kernel_rfl
theorem eval_Number.top (n : Nat) (c0 : Int) (c1 : ByteArray) (c2 : List (ByteArray × ByteArray × Int × Int × List Int × Int)) (c3 : List (ByteArray × (Int × Int × Bool × ByteArray) × List ByteArray)) (c4 : Int) (s : ByteArray) (z : Int) : callX false (fnF cx_eval_Number noCalls n 57) ([.agg [.int .i64 c0,.str c1,.sl (Ty.str.pair (Ty.str.pair ((Ty.int IntKind.i64).pair ((Ty.int IntKind.i64).pair ((Ty.int IntKind.i64).sl.pair (.int .i64)))))) c2 .no,.sl docT c3 .no,.int .i64 c4],.str s,.int .i64 z]) (lcSt [] 0) out = (eval_Number.L1 n n c0 c1 c2 c3 c4 s z s z 0 c2 ((↑c2.length : Int)) 0 c0 c1 c2 c3 c4) := by kernel_rfl
noncomputable def ref11_Number.L1 (n k0 : Nat) (c0 : Int) (c1 : ByteArray) (c2 : List (ByteArray × ByteArray × Int × Int × List Int × Int)) (c3 : List (ByteArray × (Int × Int × Bool × ByteArray) × List ByteArray)) (c4 : Int) (s : ByteArray) (z : Int) (j0 : ByteArray) (j1 j2 : Int) (j3 : List (ByteArray × ByteArray × Int × Int × List Int × Int)) (j4 j5 j6 : Int) (j7 : ByteArray) (j8 : List (ByteArray × ByteArray × Int × Int × List Int × Int)) (j9 : List (ByteArray × (Int × Int × Bool × ByteArray) × List ByteArray)) (j10 : Int) : Option (Rr U0) := loopF cx_ref11_Number noCalls k0 (1) ([(1,false),(2,false),(7,false),(11,false),(12,false),(13,false)]) ((siteC (Tryz.f62.body.getD .skip) [1,1,0,1,0]).getD .skip) (siteK cx_ref11_Number noCalls n [] (Tryz.f62.body.getD .skip) [1,1,0,1,0] (bodyK cx_ref11_Number Tryz.f62 (lcSt [] 0) (callK false [] [] (lcSt [] 0) out))) (St.mk [(1,.str j0),(2,.int .i64 j1),(7,.int .i64 j2),(11,.sl (Ty.str.pair (Ty.str.pair ((Ty.int IntKind.i64).pair ((Ty.int IntKind.i64).pair ((Ty.int IntKind.i64).sl.pair (.int .i64)))))) j3 .no),(12,.int .i64 j4),(13,.int .i64 j5)] [[.int .i64 j6,.str j7,.sl (Ty.str.pair (Ty.str.pair ((Ty.int IntKind.i64).pair ((Ty.int IntKind.i64).pair ((Ty.int IntKind.i64).sl.pair (.int .i64)))))) j8 .no,.sl docT j9 .no,.int .i64 j10]] [] 0 0 0 0 0 62 [] 31)
theorem ref11_Number.L1_s (n k0 : Nat) (c0 : Int) (c1 : ByteArray) (c2 : List (ByteArray × ByteArray × Int × Int × List Int × Int)) (c3 : List (ByteArray × (Int × Int × Bool × ByteArray) × List ByteArray)) (c4 : Int) (s : ByteArray) (z : Int) (j0 : ByteArray) (j1 j2 : Int) (j3 : List (ByteArray × ByteArray × Int × Int × List Int × Int)) (j4 j5 j6 : Int) (j7 : ByteArray) (j8 : List (ByteArray × ByteArray × Int × Int × List Int × Int)) (j9 : List (ByteArray × (Int × Int × Bool × ByteArray) × List ByteArray)) (j10 : Int) : ref11_Number.L1 n (k0 + 1) c0 c1 c2 c3 c4 s z j0 j1 j2 j3 j4 j5 j6 j7 j8 j9 j10 = if decide (j5 < j4) = true then if 0 ≤ j5 then ((nth j3 j5.toNat).bind fun v1 => if (if seq v1.2.1 j0 = true then v1.2.2.1 == j1 else false) = true then (ref11_Number.L1 n k0 c0 c1 c2 c3 c4 s z j0 j1 (i64.wrap (j2 + 1)) j3 j4 (i64.wrap (j5 + 1)) j6 j7 j8 j9 j10) else (ref11_Number.L1 n k0 c0 c1 c2 c3 c4 s z j0 j1 j2 j3 j4 (i64.wrap (j5 + 1)) j6 j7 j8 j9 j10)) else none else some (.ret (.int .i64 j2),lcRet [] [] 0) := by kernel_rfl
theorem ref11_Number.top (n : Nat) (c0 : Int) (c1 : ByteArray) (c2 : List (ByteArray × ByteArray × Int × Int × List Int × Int)) (c3 : List (ByteArray × (Int × Int × Bool × ByteArray) × List ByteArray)) (c4 : Int) (s : ByteArray) (z : Int) : callX false (fnF cx_ref11_Number noCalls n 62) ([.agg [.int .i64 c0,.str c1,.sl (Ty.str.pair (Ty.str.pair ((Ty.int IntKind.i64).pair ((Ty.int IntKind.i64).pair ((Ty.int IntKind.i64).sl.pair (.int .i64)))))) c2 .no,.sl docT c3 .no,.int .i64 c4],.str s,.int .i64 z]) (lcSt [] 0) out = (ref11_Number.L1 n n c0 c1 c2 c3 c4 s z s z 0 c2 ((↑c2.length : Int)) 0 c0 c1 c2 c3 c4) := by kernel_rfl
theorem value_product1.top (n : Nat) (z : Int) : callX false (fnF cx_value_product1 noCalls n 160) ([.int .i64 z]) (lcSt [] 0) out = if decide (z < 0) = true then some (.ret (.int .u64 (u64.wrap ((0 : Int) - u64.wrap z))),lcRet [] [] 0) else some (.ret (.int .u64 (u64.wrap z)),lcRet [] [] 0) := by kernel_rfl
theorem ref07_truth.top (n : Nat) (z x0 x1 : Int) (x2 : Bool) (x3 : ByteArray) (y0 y1 : Int) (y2 : Bool) (y3 : ByteArray) : callX false (fnF cx_ref07_truth noCalls n 109) ([.int .i64 z,.agg [.int .i64 x0,.int .i64 x1,.bool x2,.str x3],.agg [.int .i64 y0,.int .i64 y1,.bool y2,.str y3]]) (lcSt [] 0) out = if (z == 5) = true then some (.ret (.bool !x2),lcRet [] [] 0) else if (z == 12) = true then some (.ret (.bool (decide (Does.orderV x1 x3 y1 y3 < 0))),lcRet [] [] 0) else if (z == 13) = true then some (.ret (.bool (decide (Does.orderV x1 x3 y1 y3 ≤ 0))),lcRet [] [] 0) else if (z == 14) = true then some (.ret (.bool (decide (Does.orderV x1 x3 y1 y3 > 0))),lcRet [] [] 0) else if (z == 15) = true then some (.ret (.bool (decide (Does.orderV x1 x3 y1 y3 ≥ 0))),lcRet [] [] 0) else if (z == 16) = true then some (.ret (.bool (x0 == y0 && (x1 == y1 && (x2 == y2 && (seq x3 y3 && true))))),lcRet [] [] 0) else if (z == 17) = true then some (.ret (.bool !(x0 == y0 && (x1 == y1 && (x2 == y2 && (seq x3 y3 && true))))),lcRet [] [] 0) else if (z == 18) = true then some (.ret (.bool (if x2 = true then y2 else false)),lcRet [] [] 0) else some (.ret (.bool (if x2 = true then true else y2)),lcRet [] [] 0) := by kernel_rfl
noncomputable def eval_of.L1 (n k0 k : Nat) (a0 a1 a2 : Int) (a3 : Bool) (a4 a5 : ByteArray) (a6 : Int) (a7 : List Node) (c0 : Int) (c1 : ByteArray) (c2 : List (ByteArray × ByteArray × Int × Int × List Int × Int)) (c3 : List (ByteArray × (Int × Int × Bool × ByteArray) × List ByteArray)) (c4 : Int) (j0 : List Node) (j1 j2 j3 j4 j5 : Int) (j6 : Bool) (j7 j8 : ByteArray) (j9 : Int) (j10 : List Node) (j11 : Int) (j12 : ByteArray) (j13 : List (ByteArray × ByteArray × Int × Int × List Int × Int)) (j14 : List (ByteArray × (Int × Int × Bool × ByteArray) × List ByteArray)) (j15 j16 j17 : Int) (j18 : Bool) (j19 : ByteArray) (j20 j21 : Int) (j22 : Bool) (j23 : ByteArray) (j24 j25 : Int) (j26 : Bool) (j27 : ByteArray) : Option (Rr U0) := loopF cx_eval_of (eval_of.rec k) k0 (4) ([(2,false),(3,false),(4,false),(6,false),(42,false),(43,false),(44,false)]) ((siteC (Tryz.f34.body.getD .skip) [1,1,1,0,1,0]).getD .skip) (siteK cx_eval_of (eval_of.rec k) n [] (Tryz.f34.body.getD .skip) [1,1,1,0,1,0] (bodyK cx_eval_of Tryz.f34 (lcSt [] 0) (callK false [] [] (lcSt [] 0) out))) (St.mk [(2,.ptr 0 0),(3,.ptr 1 0),(4,.ptr 2 0),(6,.ptr 3 0),(42,.sl (.user 0) j0 .no),(43,.int .i64 j1),(44,.int .i64 j2)] [[.int .i64 j3,.int .i64 j4,.int .i64 j5,.bool j6,.str j7,.str j8,.int .i64 j9,.sl (.user 0) j10 .no],[.int .i64 j11,.str j12,.sl (Ty.str.pair (Ty.str.pair ((Ty.int IntKind.i64).pair ((Ty.int IntKind.i64).pair ((Ty.int IntKind.i64).sl.pair (.int .i64)))))) j13 .no,.sl docT j14 .no,.int .i64 j15],[.int .i64 j16,.int .i64 j17,.bool j18,.str j19],[.int .i64 j20,.int .i64 j21,.bool j22,.str j23,.int .i64 j24,.int .i64 j25,.bool j26,.str j27]] [] 0 0 0 0 0 34 [] 71)
theorem eval_of.L1_s (n k0 k : Nat) (a0 a1 a2 : Int) (a3 : Bool) (a4 a5 : ByteArray) (a6 : Int) (a7 : List Node) (c0 : Int) (c1 : ByteArray) (c2 : List (ByteArray × ByteArray × Int × Int × List Int × Int)) (c3 : List (ByteArray × (Int × Int × Bool × ByteArray) × List ByteArray)) (c4 : Int) (j0 : List Node) (j1 j2 j3 j4 j5 : Int) (j6 : Bool) (j7 j8 : ByteArray) (j9 : Int) (j10 : List Node) (j11 : Int) (j12 : ByteArray) (j13 : List (ByteArray × ByteArray × Int × Int × List Int × Int)) (j14 : List (ByteArray × (Int × Int × Bool × ByteArray) × List ByteArray)) (j15 j16 j17 : Int) (j18 : Bool) (j19 : ByteArray) (j20 j21 : Int) (j22 : Bool) (j23 : ByteArray) (j24 j25 : Int) (j26 : Bool) (j27 : ByteArray) : eval_of.L1 n (k0 + 1) k a0 a1 a2 a3 a4 a5 a6 a7 c0 c1 c2 c3 c4 j0 j1 j2 j3 j4 j5 j6 j7 j8 j9 j10 j11 j12 j13 j14 j15 j16 j17 j18 j19 j20 j21 j22 j23 j24 j25 j26 j27 = if decide (j2 < j1) = true then if 0 ≤ j2 then ((nth j0 j2.toNat).bind fun v5 => ((ofW j13 j14 k (nd (Node.x v5).1 (Node.x v5).2.1.1 (Node.x v5).2.1.2.1 (Node.x v5).2.1.2.2.1 (Node.x v5).2.1.2.2.2 (Node.x v5).2.2.1 (Node.x v5).2.2.2.1 (Node.x v5).2.2.2.2)).bind fun v6 => if (!v6.2.2.2.2) = true then some (.ret (.tup [.agg [.int .i64 0,.int .i64 0,.bool false,.str ⟨#[]⟩],.bool false]),lcRet [] [] 0) else if j2 = (↑(1 : Nat) : Int) then (eval_of.L1 n k0 k a0 a1 a2 a3 a4 a5 a6 a7 c0 c1 c2 c3 c4 j0 j1 (i64.wrap (j2 + 1)) j3 j4 j5 j6 j7 j8 j9 j10 j11 j12 j13 j14 j15 j16 j17 j18 j19 j20 j21 j22 j23 v6.1 v6.2.1 v6.2.2.1 v6.2.2.2.1) else if j2 = (↑0 : Int) then (eval_of.L1 n k0 k a0 a1 a2 a3 a4 a5 a6 a7 c0 c1 c2 c3 c4 j0 j1 (i64.wrap (j2 + 1)) j3 j4 j5 j6 j7 j8 j9 j10 j11 j12 j13 j14 j15 j16 j17 j18 j19 v6.1 v6.2.1 v6.2.2.1 v6.2.2.2.1 j24 j25 j26 j27) else none)) else none else ((if Does.In64 j21 ∧ Does.In64 j25 then some (doW j3 j20 j21 j22 j23 j24 j25 j26 j27) else none).bind fun v7 => some (.ret (.tup [.agg [.int .i64 v7.1,.int .i64 v7.2.1,.bool v7.2.2.1,.str v7.2.2.2.1],.bool v7.2.2.2.2]),lcRet [] [] 0)) := by kernel_rfl
theorem eval_of.top (n k : Nat) (a0 a1 a2 : Int) (a3 : Bool) (a4 a5 : ByteArray) (a6 : Int) (a7 : List Node) (c0 : Int) (c1 : ByteArray) (c2 : List (ByteArray × ByteArray × Int × Int × List Int × Int)) (c3 : List (ByteArray × (Int × Int × Bool × ByteArray) × List ByteArray)) (c4 : Int) : callX false (fnF cx_eval_of (eval_of.rec k) n 34) ([.agg [.int .i64 a0,.int .i64 a1,.int .i64 a2,.bool a3,.str a4,.str a5,.int .i64 a6,.sl (.user 0) a7 .no],.agg [.int .i64 c0,.str c1,.sl (Ty.str.pair (Ty.str.pair ((Ty.int IntKind.i64).pair ((Ty.int IntKind.i64).pair ((Ty.int IntKind.i64).sl.pair (.int .i64)))))) c2 .no,.sl docT c3 .no,.int .i64 c4]]) (lcSt [] 0) out = if (a0 == 1) = true then some (.ret (.tup [.agg [.int .i64 a1,.int .i64 a2,.bool a3,.str a4],.bool true]),lcRet [] [] 0) else if (a0 == 2) = true then ((if c3.length ≤ 1000 then valueW c3 a5 else none).bind fun v0 => some (.ret (.tup [.agg [.int .i64 v0.1,.int .i64 v0.2.1,.bool v0.2.2.1,.str v0.2.2.2.1],.bool v0.2.2.2.2]),lcRet [] [] 0)) else if (a0 == 3) = true then ((if c3.length ≤ 1000 then countW c3 a5 (0 : Int) else none).bind fun v1 => some (.ret (.tup [.agg [.int .i64 1,.int .i64 v1,.bool false,.str ⟨#[]⟩],.bool true]),lcRet [] [] 0)) else if (a0 == 4) = true then ((if c2.length ≤ 1000 then some (numberW c2 a5 a6 (0 : Int)) else none).bind fun v2 => some (.ret (.tup [.agg [.int .i64 1,.int .i64 v2,.bool false,.str ⟨#[]⟩],.bool true]),lcRet [] [] 0)) else (eval_of.L1 n n k a0 a1 a2 a3 a4 a5 a6 a7 c0 c1 c2 c3 c4 a7 ((↑a7.length : Int)) 0 a0 a1 a2 a3 a4 a5 a6 a7 c0 c1 c2 c3 c4 0 0 false (ByteArray.mk #[]) 0 0 false (ByteArray.mk #[]) 0 0 false (ByteArray.mk #[])) := by kernel_rfl
noncomputable def ref11_eval.L1 (n k0 k : Nat) (a0 a1 a2 : Int) (a3 : Bool) (a4 a5 : ByteArray) (a6 : Int) (a7 : List Node) (c0 : Int) (c1 : ByteArray) (c2 : List (ByteArray × ByteArray × Int × Int × List Int × Int)) (c3 : List (ByteArray × (Int × Int × Bool × ByteArray) × List ByteArray)) (c4 : Int) (j0 : Bool) (j1 : List Node) (j2 j3 j4 j5 j6 : Int) (j7 : Bool) (j8 j9 : ByteArray) (j10 : Int) (j11 : List Node) (j12 : Int) (j13 : ByteArray) (j14 : List (ByteArray × ByteArray × Int × Int × List Int × Int)) (j15 : List (ByteArray × (Int × Int × Bool × ByteArray) × List ByteArray)) (j16 j17 j18 : Int) (j19 : Bool) (j20 : ByteArray) (j21 j22 : Int) (j23 : Bool) (j24 : ByteArray) (j25 j26 : Int) (j27 : Bool) (j28 : ByteArray) : Option (Rr U0) := loopF cx_ref11_eval (ref11_eval.rec k) k0 (4) ([(2,false),(3,false),(4,false),(6,false),(7,false),(44,false),(45,false),(46,false)]) ((siteC (Tryz.f35.body.getD .skip) [1,1,1,0,1,0]).getD .skip) (siteK cx_ref11_eval (ref11_eval.rec k) n [] (Tryz.f35.body.getD .skip) [1,1,1,0,1,0] (bodyK cx_ref11_eval Tryz.f35 (lcSt [] 0) (callK false [] [] (lcSt [] 0) out))) (St.mk [(2,.ptr 0 0),(3,.ptr 1 0),(4,.ptr 2 0),(6,.ptr 3 0),(7,.bool j0),(44,.sl (.user 0) j1 .no),(45,.int .i64 j2),(46,.int .i64 j3)] [[.int .i64 j4,.int .i64 j5,.int .i64 j6,.bool j7,.str j8,.str j9,.int .i64 j10,.sl (.user 0) j11 .no],[.int .i64 j12,.str j13,.sl (Ty.str.pair (Ty.str.pair ((Ty.int IntKind.i64).pair ((Ty.int IntKind.i64).pair ((Ty.int IntKind.i64).sl.pair (.int .i64)))))) j14 .no,.sl docT j15 .no,.int .i64 j16],[.int .i64 j17,.int .i64 j18,.bool j19,.str j20],[.int .i64 j21,.int .i64 j22,.bool j23,.str j24,.int .i64 j25,.int .i64 j26,.bool j27,.str j28]] [] 0 0 0 0 0 35 [] 77)
theorem ref11_eval.L1_s (n k0 k : Nat) (a0 a1 a2 : Int) (a3 : Bool) (a4 a5 : ByteArray) (a6 : Int) (a7 : List Node) (c0 : Int) (c1 : ByteArray) (c2 : List (ByteArray × ByteArray × Int × Int × List Int × Int)) (c3 : List (ByteArray × (Int × Int × Bool × ByteArray) × List ByteArray)) (c4 : Int) (j0 : Bool) (j1 : List Node) (j2 j3 j4 j5 j6 : Int) (j7 : Bool) (j8 j9 : ByteArray) (j10 : Int) (j11 : List Node) (j12 : Int) (j13 : ByteArray) (j14 : List (ByteArray × ByteArray × Int × Int × List Int × Int)) (j15 : List (ByteArray × (Int × Int × Bool × ByteArray) × List ByteArray)) (j16 j17 j18 : Int) (j19 : Bool) (j20 : ByteArray) (j21 j22 : Int) (j23 : Bool) (j24 : ByteArray) (j25 j26 : Int) (j27 : Bool) (j28 : ByteArray) : ref11_eval.L1 n (k0 + 1) k a0 a1 a2 a3 a4 a5 a6 a7 c0 c1 c2 c3 c4 j0 j1 j2 j3 j4 j5 j6 j7 j8 j9 j10 j11 j12 j13 j14 j15 j16 j17 j18 j19 j20 j21 j22 j23 j24 j25 j26 j27 j28 = if decide (j3 < j2) = true then if 0 ≤ j3 then ((nth j1 j3.toNat).bind fun v5 => ((ofW j14 j15 k (nd (Node.x v5).1 (Node.x v5).2.1.1 (Node.x v5).2.1.2.1 (Node.x v5).2.1.2.2.1 (Node.x v5).2.1.2.2.2 (Node.x v5).2.2.1 (Node.x v5).2.2.2.1 (Node.x v5).2.2.2.2)).bind fun v6 => if j3 = (↑(1 : Nat) : Int) then (ref11_eval.L1 n k0 k a0 a1 a2 a3 a4 a5 a6 a7 c0 c1 c2 c3 c4 (if j0 = true then v6.2.2.2.2 else false) j1 j2 (i64.wrap (j3 + 1)) j4 j5 j6 j7 j8 j9 j10 j11 j12 j13 j14 j15 j16 j17 j18 j19 j20 j21 j22 j23 j24 v6.1 v6.2.1 v6.2.2.1 v6.2.2.2.1) else if j3 = (↑0 : Int) then (ref11_eval.L1 n k0 k a0 a1 a2 a3 a4 a5 a6 a7 c0 c1 c2 c3 c4 (if j0 = true then v6.2.2.2.2 else false) j1 j2 (i64.wrap (j3 + 1)) j4 j5 j6 j7 j8 j9 j10 j11 j12 j13 j14 j15 j16 j17 j18 j19 j20 v6.1 v6.2.1 v6.2.2.1 v6.2.2.2.1 j25 j26 j27 j28) else none)) else none else if (!j0) = true then some (.ret (.tup [.agg [.int .i64 0,.int .i64 0,.bool false,.str ⟨#[]⟩],.bool false]),lcRet [] [] 0) else ((if Does.In64 j22 ∧ Does.In64 j26 then some (doW j4 j21 j22 j23 j24 j25 j26 j27 j28) else none).bind fun v7 => some (.ret (.tup [.agg [.int .i64 v7.1,.int .i64 v7.2.1,.bool v7.2.2.1,.str v7.2.2.2.1],.bool v7.2.2.2.2]),lcRet [] [] 0)) := by kernel_rfl
theorem ref11_eval.top (n k : Nat) (a0 a1 a2 : Int) (a3 : Bool) (a4 a5 : ByteArray) (a6 : Int) (a7 : List Node) (c0 : Int) (c1 : ByteArray) (c2 : List (ByteArray × ByteArray × Int × Int × List Int × Int)) (c3 : List (ByteArray × (Int × Int × Bool × ByteArray) × List ByteArray)) (c4 : Int) : callX false (fnF cx_ref11_eval (ref11_eval.rec k) n 35) ([.agg [.int .i64 a0,.int .i64 a1,.int .i64 a2,.bool a3,.str a4,.str a5,.int .i64 a6,.sl (.user 0) a7 .no],.agg [.int .i64 c0,.str c1,.sl (Ty.str.pair (Ty.str.pair ((Ty.int IntKind.i64).pair ((Ty.int IntKind.i64).pair ((Ty.int IntKind.i64).sl.pair (.int .i64)))))) c2 .no,.sl docT c3 .no,.int .i64 c4]]) (lcSt [] 0) out = if (a0 == 1) = true then some (.ret (.tup [.agg [.int .i64 a1,.int .i64 a2,.bool a3,.str a4],.bool true]),lcRet [] [] 0) else if (a0 == 2) = true then ((if c3.length ≤ 1000 then valueW c3 a5 else none).bind fun v0 => some (.ret (.tup [.agg [.int .i64 v0.1,.int .i64 v0.2.1,.bool v0.2.2.1,.str v0.2.2.2.1],.bool v0.2.2.2.2]),lcRet [] [] 0)) else if (a0 == 3) = true then ((if c3.length ≤ 1000 then countW c3 a5 (0 : Int) else none).bind fun v1 => some (.ret (.tup [.agg [.int .i64 1,.int .i64 v1,.bool false,.str ⟨#[]⟩],.bool true]),lcRet [] [] 0)) else if (a0 == 4) = true then ((if c2.length ≤ 1000 then some (numberW c2 a5 a6 (0 : Int)) else none).bind fun v2 => some (.ret (.tup [.agg [.int .i64 1,.int .i64 v2,.bool false,.str ⟨#[]⟩],.bool true]),lcRet [] [] 0)) else (ref11_eval.L1 n n k a0 a1 a2 a3 a4 a5 a6 a7 c0 c1 c2 c3 c4 true a7 ((↑a7.length : Int)) 0 a0 a1 a2 a3 a4 a5 a6 a7 c0 c1 c2 c3 c4 0 0 false (ByteArray.mk #[]) 0 0 false (ByteArray.mk #[]) 0 0 false (ByteArray.mk #[])) := by kernel_rfl
theorem value_product.top (n : Nat) (a b : Int) : callX false (fnF cx_value_product noCalls n 137) ([.int .i64 a,.int .i64 b]) (lcSt [] 0) out = if (0 ≤ if a < 0 then u64.wrap (-u64.wrap a) else u64.wrap a) ∧ (if a < 0 then u64.wrap (-u64.wrap a) else u64.wrap a) < 18446744073709551616 ∧ (0 ≤ if b < 0 then u64.wrap (-u64.wrap b) else u64.wrap b) ∧ (if b < 0 then u64.wrap (-u64.wrap b) else u64.wrap b) < 18446744073709551616 then if (!decide (a < 0) == decide (b < 0)) = true then some (.ret (.tup [.int .i64 (i64.wrap (a * b)),.bool (if (((if a < 0 then u64.wrap (-u64.wrap a) else u64.wrap a) * if b < 0 then u64.wrap (-u64.wrap b) else u64.wrap b) / (18446744073709551616 : Int) == 0) = true then decide (((if a < 0 then u64.wrap (-u64.wrap a) else u64.wrap a) * if b < 0 then u64.wrap (-u64.wrap b) else u64.wrap b) % (18446744073709551616 : Int) ≤ 9223372036854775808) else false)]),lcRet [] [] 0) else some (.ret (.tup [.int .i64 (i64.wrap (a * b)),.bool (if (((if a < 0 then u64.wrap (-u64.wrap a) else u64.wrap a) * if b < 0 then u64.wrap (-u64.wrap b) else u64.wrap b) / (18446744073709551616 : Int) == 0) = true then decide (((if a < 0 then u64.wrap (-u64.wrap a) else u64.wrap a) * if b < 0 then u64.wrap (-u64.wrap b) else u64.wrap b) % (18446744073709551616 : Int) ≤ 9223372036854775807) else false)]),lcRet [] [] 0) else none := by kernel_rfl
theorem ref07_whole.top (n : Nat) (z a b : Int) : callX false (fnF cx_ref07_whole noCalls n 110) ([.int .i64 z,.int .i64 a,.int .i64 b]) (lcSt [] 0) out = if (z == 6) = true then some (.ret (.tup [.int .i64 (i64.wrap ((0 : Int) - a)),.bool (a != (-9223372036854775808 : Int))]),lcRet [] [] 0) else if (z == 7) = true then ((if Does.In64 a ∧ Does.In64 b then some (timesV a b) else none).bind fun v0 => some (.ret (.tup [.int .i64 v0.1,.bool v0.2]),lcRet [] [] 0)) else if (z == 8) = true then if (if (b == 0) = true then true else if (a == (-9223372036854775808 : Int)) = true then b == (-1 : Int) else false) = true then some (.ret (.tup [.int .i64 0,.bool false]),lcRet [] [] 0) else if b = (0 : Int) then none else some (.ret (.tup [.int .i64 (i64.wrap (a.tdiv b)),.bool true]),lcRet [] [] 0) else if (z == 9) = true then if (b == 0) = true then some (.ret (.tup [.int .i64 0,.bool false]),lcRet [] [] 0) else if (b == (-1 : Int)) = true then some (.ret (.tup [.int .i64 0,.bool true]),lcRet [] [] 0) else if b = (0 : Int) then none else some (.ret (.tup [.int .i64 (a.tmod b),.bool true]),lcRet [] [] 0) else if (z == 10) = true then some (.ret (.tup [.int .i64 (i64.wrap (a + b)),.bool (decide (i64.wrap (a + b) > a) == decide (b > 0))]),lcRet [] [] 0) else some (.ret (.tup [.int .i64 (i64.wrap (a - b)),.bool (decide (i64.wrap (a - b) < a) == decide (b > 0))]),lcRet [] [] 0) := by kernel_rfl
theorem eval_Eval.top (n : Nat) (a0 a1 a2 : Int) (a3 : Bool) (a4 a5 : ByteArray) (a6 : Int) (a7 : List Node) (c0 : Int) (c1 : ByteArray) (c2 : List (ByteArray × ByteArray × Int × Int × List Int × Int)) (c3 : List (ByteArray × (Int × Int × Bool × ByteArray) × List ByteArray)) (c4 : Int) : callX false (fnF cx_eval_Eval noCalls n 18) ([.agg [.int .i64 a0,.int .i64 a1,.int .i64 a2,.bool a3,.str a4,.str a5,.int .i64 a6,.sl (.user 0) a7 .no],.agg [.int .i64 c0,.str c1,.sl (Ty.str.pair (Ty.str.pair ((Ty.int IntKind.i64).pair ((Ty.int IntKind.i64).pair ((Ty.int IntKind.i64).sl.pair (.int .i64)))))) c2 .no,.sl docT c3 .no,.int .i64 c4]]) (lcSt [] 0) out = ((canW (nd a0 a1 a2 a3 a4 a5 a6 a7)).bind fun v0 => if (!v0) = true then some (.ret (.tup [.agg [.int .i64 0,.int .i64 0,.bool false,.str ⟨#[]⟩],.bool false]),lcRet [] [] 0) else ((ofW c2 c3 (big a7) (nd a0 a1 a2 a3 a4 a5 a6 a7)).bind fun v1 => some (.ret (.tup [.agg [.int .i64 v1.1,.int .i64 v1.2.1,.bool v1.2.2.1,.str v1.2.2.2.1],.bool v1.2.2.2.2]),lcRet [] [] 0))) := by kernel_rfl
theorem ref11_Eval.top (n : Nat) (a0 a1 a2 : Int) (a3 : Bool) (a4 a5 : ByteArray) (a6 : Int) (a7 : List Node) (c0 : Int) (c1 : ByteArray) (c2 : List (ByteArray × ByteArray × Int × Int × List Int × Int)) (c3 : List (ByteArray × (Int × Int × Bool × ByteArray) × List ByteArray)) (c4 : Int) : callX false (fnF cx_ref11_Eval noCalls n 19) ([.agg [.int .i64 a0,.int .i64 a1,.int .i64 a2,.bool a3,.str a4,.str a5,.int .i64 a6,.sl (.user 0) a7 .no],.agg [.int .i64 c0,.str c1,.sl (Ty.str.pair (Ty.str.pair ((Ty.int IntKind.i64).pair ((Ty.int IntKind.i64).pair ((Ty.int IntKind.i64).sl.pair (.int .i64)))))) c2 .no,.sl docT c3 .no,.int .i64 c4]]) (lcSt [] 0) out = ((canW (nd a0 a1 a2 a3 a4 a5 a6 a7)).bind fun v0 => if (!v0) = true then some (.ret (.tup [.agg [.int .i64 0,.int .i64 0,.bool false,.str ⟨#[]⟩],.bool false]),lcRet [] [] 0) else ((ofW c2 c3 (big a7) (nd a0 a1 a2 a3 a4 a5 a6 a7)).bind fun v1 => some (.ret (.tup [.agg [.int .i64 v1.1,.int .i64 v1.2.1,.bool v1.2.2.1,.str v1.2.2.2.1],.bool v1.2.2.2.2]),lcRet [] [] 0))) := by kernel_rfl
theorem value_reckon.top (n : Nat) (z a b : Int) : callX false (fnF cx_value_reckon noCalls n 106) ([.int .i64 z,.int .i64 a,.int .i64 b]) (lcSt [] 0) out = if (z == 6) = true then some (.ret (.tup [.int .i64 (i64.wrap ((0 : Int) - a)),.bool (a != (-9223372036854775808 : Int))]),lcRet [] [] 0) else if (z == 10) = true then some (.ret (.tup [.int .i64 (i64.wrap (a + b)),.bool (decide (bits BinOp.and IntKind.i64 (bits BinOp.xor IntKind.i64 a (i64.wrap (a + b))) (bits BinOp.xor IntKind.i64 b (i64.wrap (a + b))) ≥ 0))]),lcRet [] [] 0) else if (z == 11) = true then some (.ret (.tup [.int .i64 (i64.wrap (a - b)),.bool (decide (bits BinOp.and IntKind.i64 (bits BinOp.xor IntKind.i64 a b) (bits BinOp.xor IntKind.i64 a (i64.wrap (a - b))) ≥ 0))]),lcRet [] [] 0) else if (z == 7) = true then ((if Does.In64 a ∧ Does.In64 b then some (RowKit.wrap64 (a * b),decide (Does.In64 (a * b))) else none).bind fun v0 => some (.ret (.tup [.int .i64 v0.1,.bool v0.2]),lcRet [] [] 0)) else if (b == 0) = true then some (.ret (.tup [.int .i64 0,.bool false]),lcRet [] [] 0) else if (if (b == (-1 : Int)) = true then z == 8 else false) = true then some (.ret (.tup [.int .i64 (i64.wrap ((0 : Int) - a)),.bool (a != (-9223372036854775808 : Int))]),lcRet [] [] 0) else if (b == (-1 : Int)) = true then some (.ret (.tup [.int .i64 0,.bool true]),lcRet [] [] 0) else if (z == 8) = true then if b = (0 : Int) then none else some (.ret (.tup [.int .i64 (i64.wrap (a.tdiv b)),.bool true]),lcRet [] [] 0) else if b = (0 : Int) then none else some (.ret (.tup [.int .i64 (a.tmod b),.bool true]),lcRet [] [] 0) := by kernel_rfl
theorem ref07_Do.top (n : Nat) (z x0 x1 : Int) (x2 : Bool) (x3 : ByteArray) (y0 y1 : Int) (y2 : Bool) (y3 : ByteArray) : callX false (fnF cx_ref07_Do noCalls n 63) ([.int .i64 z,.agg [.int .i64 x0,.int .i64 x1,.bool x2,.str x3],.agg [.int .i64 y0,.int .i64 y1,.bool y2,.str y3]]) (lcSt [] 0) out = if (!(kindV z x0 y0).2) = true then some (.ret (.tup [.agg [.int .i64 0,.int .i64 0,.bool false,.str ⟨#[]⟩],.bool false]),lcRet [] [] 0) else if (if false = true then true else !canV x0 x1 x2 x3) = true then some (.ret (.tup [.agg [.int .i64 0,.int .i64 0,.bool false,.str ⟨#[]⟩],.bool false]),lcRet [] [] 0) else if (if false = true then true else !canV y0 y1 y2 y3) = true then some (.ret (.tup [.agg [.int .i64 0,.int .i64 0,.bool false,.str ⟨#[]⟩],.bool false]),lcRet [] [] 0) else if ((kindV z x0 y0).1 == 2) = true then some (.ret (.tup [.agg [.int .i64 2,.int .i64 0,.bool (Does.truthV z x0 x1 x2 x3 y0 y1 y2 y3 (Does.orderV x1 x3 y1 y3)),.str ⟨#[]⟩],.bool true]),lcRet [] [] 0) else ((if Does.In64 x1 ∧ Does.In64 y1 then some (Does.wholeV z x1 y1) else none).bind fun v0 => if (!v0.2) = true then some (.ret (.tup [.agg [.int .i64 0,.int .i64 0,.bool false,.str ⟨#[]⟩],.bool false]),lcRet [] [] 0) else some (.ret (.tup [.agg [.int .i64 1,.int .i64 v0.1,.bool false,.str ⟨#[]⟩],.bool true]),lcRet [] [] 0)) := by kernel_rfl
theorem eval_Holds.top (n : Nat) (s : ByteArray) (c0 : Int) (c1 : ByteArray) (c2 : List (ByteArray × ByteArray × Int × Int × List Int × Int)) (c3 : List (ByteArray × (Int × Int × Bool × ByteArray) × List ByteArray)) (c4 : Int) : callX false (fnF cx_eval_Holds noCalls n 10) ([.str s,.agg [.int .i64 c0,.str c1,.sl (Ty.str.pair (Ty.str.pair ((Ty.int IntKind.i64).pair ((Ty.int IntKind.i64).pair ((Ty.int IntKind.i64).sl.pair (.int .i64)))))) c2 .no,.sl docT c3 .no,.int .i64 c4]]) (lcSt [] 0) out = if seq s (ByteArray.mk #[]) = true then some (.ret (.bool true),lcRet [] [] 0) else ((parseP s).bind fun v0 => if (v0.2 != 0) = true then some (.ret (.bool false),lcRet [] [] 0) else ((evalW c2 c3 (nd v0.1.x.1 v0.1.x.2.1.1 v0.1.x.2.1.2.1 v0.1.x.2.1.2.2.1 v0.1.x.2.1.2.2.2 v0.1.x.2.2.1 v0.1.x.2.2.2.1 v0.1.x.2.2.2.2)).bind fun v1 => some (.ret (.bool (if (if v1.2.2.2.2 = true then v1.1 == 2 else false) = true then v1.2.2.1 else false)),lcRet [] [] 0))) := by kernel_rfl
theorem ref11_Holds.top (n : Nat) (s : ByteArray) (c0 : Int) (c1 : ByteArray) (c2 : List (ByteArray × ByteArray × Int × Int × List Int × Int)) (c3 : List (ByteArray × (Int × Int × Bool × ByteArray) × List ByteArray)) (c4 : Int) : callX false (fnF cx_ref11_Holds noCalls n 11) ([.str s,.agg [.int .i64 c0,.str c1,.sl (Ty.str.pair (Ty.str.pair ((Ty.int IntKind.i64).pair ((Ty.int IntKind.i64).pair ((Ty.int IntKind.i64).sl.pair (.int .i64)))))) c2 .no,.sl docT c3 .no,.int .i64 c4]]) (lcSt [] 0) out = if seq s (ByteArray.mk #[]) = true then some (.ret (.bool true),lcRet [] [] 0) else ((parseR s).bind fun v0 => if (v0.2 != 0) = true then some (.ret (.bool false),lcRet [] [] 0) else ((evalW c2 c3 (nd v0.1.x.1 v0.1.x.2.1.1 v0.1.x.2.1.2.1 v0.1.x.2.1.2.2.1 v0.1.x.2.1.2.2.2 v0.1.x.2.2.1 v0.1.x.2.2.2.1 v0.1.x.2.2.2.2)).bind fun v1 => if v1.2.2.2.2 = true then some (.ret (.bool (if true = true then v1.1 == 2 && (v1.2.1 == 0 && (v1.2.2.1 == true && (seq v1.2.2.2.1 (ByteArray.mk #[]) && true))) else false)),lcRet [] [] 0) else some (.ret (.bool false),lcRet [] [] 0))) := by kernel_rfl
theorem value_judge.top (n : Nat) (z x0 x1 : Int) (x2 : Bool) (x3 : ByteArray) (y0 y1 : Int) (y2 : Bool) (y3 : ByteArray) : callX false (fnF cx_value_judge noCalls n 105) ([.int .i64 z,.agg [.int .i64 x0,.int .i64 x1,.bool x2,.str x3],.agg [.int .i64 y0,.int .i64 y1,.bool y2,.str y3]]) (lcSt [] 0) out = ((if [cmpV x1 y1,Lib.compareBytes x3.1.1 y3.1.1].length ≤ 1000 then some (orV [cmpV x1 y1,Lib.compareBytes x3.1.1 y3.1.1]) else none).bind fun v0 => if (z == 5) = true then some (.ret (.bool !x2),lcRet [] [] 0) else if (z == 18) = true then some (.ret (.bool (if x2 = true then y2 else false)),lcRet [] [] 0) else if (z == 19) = true then some (.ret (.bool (if x2 = true then true else y2)),lcRet [] [] 0) else if (z == 16) = true then some (.ret (.bool (x0 == y0 && (x1 == y1 && (x2 == y2 && (seq x3 y3 && true))))),lcRet [] [] 0) else if (z == 17) = true then some (.ret (.bool !(x0 == y0 && (x1 == y1 && (x2 == y2 && (seq x3 y3 && true))))),lcRet [] [] 0) else if (z == 12) = true then some (.ret (.bool (decide (v0 < 0))),lcRet [] [] 0) else if (z == 13) = true then some (.ret (.bool (decide (v0 ≤ 0))),lcRet [] [] 0) else if (z == 14) = true then some (.ret (.bool (decide (v0 > 0))),lcRet [] [] 0) else some (.ret (.bool (decide (v0 ≥ 0))),lcRet [] [] 0)) := by kernel_rfl
noncomputable def plain_Case.L1 (n k0 : Nat) (c0 : Int) (c1 : ByteArray) (c2 : List (ByteArray × ByteArray × Int × Int × List Int × Int)) (c3 : List (ByteArray × (Int × Int × Bool × ByteArray) × List ByteArray)) (c4 : Int) (j0 : List (ByteArray × ByteArray × Int × Int × List Int × Int)) (j1 j2 j3 : Int) (j4 : ByteArray) (j5 : List (ByteArray × ByteArray × Int × Int × List Int × Int)) (j6 : List (ByteArray × (Int × Int × Bool × ByteArray) × List ByteArray)) (j7 : Int) : Option (Rr U0) := loopF cx_plain_Case noCalls k0 (1) ([(1,false),(8,false),(9,false),(10,false)]) ((siteC (Tryz.f9.body.getD .skip) [1,0,1,0]).getD .skip) (siteK cx_plain_Case noCalls n [] (Tryz.f9.body.getD .skip) [1,0,1,0] (bodyK cx_plain_Case Tryz.f9 (lcSt [] 0) (callK false [] [] (lcSt [] 0) out))) (St.mk [(1,.ptr 0 0),(8,.sl (Ty.str.pair (Ty.str.pair ((Ty.int IntKind.i64).pair ((Ty.int IntKind.i64).pair ((Ty.int IntKind.i64).sl.pair (.int .i64)))))) j0 .no),(9,.int .i64 j1),(10,.int .i64 j2)] [[.int .i64 j3,.str j4,.sl (Ty.str.pair (Ty.str.pair ((Ty.int IntKind.i64).pair ((Ty.int IntKind.i64).pair ((Ty.int IntKind.i64).sl.pair (.int .i64)))))) j5 .no,.sl docT j6 .no,.int .i64 j7]] [] 0 0 0 0 0 9 [] 53)
noncomputable def plain_Case.L2 (n k0 : Nat) (c0 : Int) (c1 : ByteArray) (c2 : List (ByteArray × ByteArray × Int × Int × List Int × Int)) (c3 : List (ByteArray × (Int × Int × Bool × ByteArray) × List ByteArray)) (c4 : Int) (j0 : List (ByteArray × (Int × Int × Bool × ByteArray) × List ByteArray)) (j1 j2 j3 : Int) (j4 : ByteArray) (j5 : List (ByteArray × ByteArray × Int × Int × List Int × Int)) (j6 : List (ByteArray × (Int × Int × Bool × ByteArray) × List ByteArray)) (j7 : Int) : Option (Rr U0) := loopF cx_plain_Case noCalls k0 (1) ([(1,false),(26,false),(27,false),(28,false)]) ((siteC (Tryz.f9.body.getD .skip) [1,1,0,1,0]).getD .skip) (siteK cx_plain_Case noCalls n [] (Tryz.f9.body.getD .skip) [1,1,0,1,0] (bodyK cx_plain_Case Tryz.f9 (lcSt [] 0) (callK false [] [] (lcSt [] 0) out))) (St.mk [(1,.ptr 0 0),(26,.sl docT j0 .no),(27,.int .i64 j1),(28,.int .i64 j2)] [[.int .i64 j3,.str j4,.sl (Ty.str.pair (Ty.str.pair ((Ty.int IntKind.i64).pair ((Ty.int IntKind.i64).pair ((Ty.int IntKind.i64).sl.pair (.int .i64)))))) j5 .no,.sl docT j6 .no,.int .i64 j7]] [] 0 0 0 0 0 9 [] 53)
theorem plain_Case.L1_s (n k0 : Nat) (c0 : Int) (c1 : ByteArray) (c2 : List (ByteArray × ByteArray × Int × Int × List Int × Int)) (c3 : List (ByteArray × (Int × Int × Bool × ByteArray) × List ByteArray)) (c4 : Int) (j0 : List (ByteArray × ByteArray × Int × Int × List Int × Int)) (j1 j2 j3 : Int) (j4 : ByteArray) (j5 : List (ByteArray × ByteArray × Int × Int × List Int × Int)) (j6 : List (ByteArray × (Int × Int × Bool × ByteArray) × List ByteArray)) (j7 : Int) : plain_Case.L1 n (k0 + 1) c0 c1 c2 c3 c4 j0 j1 j2 j3 j4 j5 j6 j7 = if decide (j2 < j1) = true then if 0 ≤ j2 then ((nth j0 j2.toNat).bind fun v1 => if (if decide ((↑(ByteArray.size v1.1) : Int) > 400) = true then true else decide ((↑(List.length v1.2.2.2.2.1) : Int) > 40)) = true then some (.ret (.bool false),lcRet [] [] 0) else (plain_Case.L1 n k0 c0 c1 c2 c3 c4 j0 j1 (i64.wrap (j2 + 1)) j3 j4 j5 j6 j7)) else none else (plain_Case.L2 n n c0 c1 c2 c3 c4 j6 ((↑j6.length : Int)) 0 j3 j4 j5 j6 j7) := by kernel_rfl
theorem plain_Case.L2_s (n k0 : Nat) (c0 : Int) (c1 : ByteArray) (c2 : List (ByteArray × ByteArray × Int × Int × List Int × Int)) (c3 : List (ByteArray × (Int × Int × Bool × ByteArray) × List ByteArray)) (c4 : Int) (j0 : List (ByteArray × (Int × Int × Bool × ByteArray) × List ByteArray)) (j1 j2 j3 : Int) (j4 : ByteArray) (j5 : List (ByteArray × ByteArray × Int × Int × List Int × Int)) (j6 : List (ByteArray × (Int × Int × Bool × ByteArray) × List ByteArray)) (j7 : Int) : plain_Case.L2 n (k0 + 1) c0 c1 c2 c3 c4 j0 j1 j2 j3 j4 j5 j6 j7 = if decide (j2 < j1) = true then if 0 ≤ j2 then ((nth j0 j2.toNat).bind fun v2 => if (if decide ((↑(ByteArray.size v2.1) : Int) > 400) = true then true else decide ((↑(List.length v2.2.2) : Int) > 40)) = true then some (.ret (.bool false),lcRet [] [] 0) else (plain_Case.L2 n k0 c0 c1 c2 c3 c4 j0 j1 (i64.wrap (j2 + 1)) j3 j4 j5 j6 j7)) else none else some (.ret (.bool (if decide ((↑j5.length : Int) ≤ 40) = true then decide ((↑j6.length : Int) ≤ 30) else false)),lcRet [] [] 0) := by kernel_rfl
theorem plain_Case.top (n : Nat) (c0 : Int) (c1 : ByteArray) (c2 : List (ByteArray × ByteArray × Int × Int × List Int × Int)) (c3 : List (ByteArray × (Int × Int × Bool × ByteArray) × List ByteArray)) (c4 : Int) : callX false (fnF cx_plain_Case noCalls n 9) ([.agg [.int .i64 c0,.str c1,.sl (Ty.str.pair (Ty.str.pair ((Ty.int IntKind.i64).pair ((Ty.int IntKind.i64).pair ((Ty.int IntKind.i64).sl.pair (.int .i64)))))) c2 .no,.sl docT c3 .no,.int .i64 c4]]) (lcSt [] 0) out = (plain_Case.L1 n n c0 c1 c2 c3 c4 c2 ((↑c2.length : Int)) 0 c0 c1 c2 c3 c4) := by kernel_rfl
noncomputable def ref11_base.L0 (n k0 : Nat) (s j0 j1 : ByteArray) (j2 : Bool) (j3 j4 : Int) : Option (Rr U0) := loopF cx_ref11_base noCalls k0 0 ([(0,false),(3,false),(4,false),(7,false),(8,false)]) ((siteC (Tryz.f107.body.getD .skip) [1,1,0,1,0]).getD .skip) (siteK cx_ref11_base noCalls n [] (Tryz.f107.body.getD .skip) [1,1,0,1,0] (bodyK cx_ref11_base Tryz.f107 (lcSt [] 0) (callK false [] [] (lcSt [] 0) out))) (St.mk [(0,.str j0),(3,.str j1),(4,.bool j2),(7,.int .i64 j3),(8,.int .i64 j4)] [] [] 0 0 0 0 0 107 [] 30)
theorem ref11_base.L0_s (n k0 : Nat) (s j0 j1 : ByteArray) (j2 : Bool) (j3 j4 : Int) : ref11_base.L0 n (k0 + 1) s j0 j1 j2 j3 j4 = if decide (j4 < j3) = true then if 0 ≤ j4 then if j4 < (↑j0.size : Int) then if (bt j0 j4 == 35) = true then if 0 ≤ j4 then if j4 < (↑j0.size : Int) then if (bt j0 j4 == 46) = true then if 0 ≤ j4 then if j4 ≤ i64.wrap (j4 + 1) then if i64.wrap (j4 + 1) ≤ (↑j0.size : Int) then if j1.size + (j0.extract j4.toNat (i64.wrap (j4 + 1)).toNat).size ≤ 9223372036854775807 then (ref11_base.L0 n k0 s j0 (j1 ++ j0.extract j4.toNat (i64.wrap (j4 + 1)).toNat) false j3 (i64.wrap (j4 + 1))) else none else none else none else none else (ref11_base.L0 n k0 s j0 j1 true j3 (i64.wrap (j4 + 1))) else none else none else if 0 ≤ j4 then if j4 < (↑j0.size : Int) then if (bt j0 j4 == 46) = true then if 0 ≤ j4 then if j4 ≤ i64.wrap (j4 + 1) then if i64.wrap (j4 + 1) ≤ (↑j0.size : Int) then if j1.size + (j0.extract j4.toNat (i64.wrap (j4 + 1)).toNat).size ≤ 9223372036854775807 then (ref11_base.L0 n k0 s j0 (j1 ++ j0.extract j4.toNat (i64.wrap (j4 + 1)).toNat) false j3 (i64.wrap (j4 + 1))) else none else none else none else none else if (!j2) = true then if 0 ≤ j4 then if j4 ≤ i64.wrap (j4 + 1) then if i64.wrap (j4 + 1) ≤ (↑j0.size : Int) then if j1.size + (j0.extract j4.toNat (i64.wrap (j4 + 1)).toNat).size ≤ 9223372036854775807 then (ref11_base.L0 n k0 s j0 (j1 ++ j0.extract j4.toNat (i64.wrap (j4 + 1)).toNat) j2 j3 (i64.wrap (j4 + 1))) else none else none else none else none else (ref11_base.L0 n k0 s j0 j1 j2 j3 (i64.wrap (j4 + 1))) else none else none else none else none else some (.ret (.str j1),lcRet [] [] 0) := by kernel_rfl
theorem ref11_base.top (n : Nat) (s : ByteArray) : callX false (fnF cx_ref11_base noCalls n 107) ([.str s]) (lcSt [] 0) out = (ref11_base.L0 n n s s (ByteArray.mk #[]) false ((↑s.size : Int)) 0) := by kernel_rfl
theorem law11_awake.top (n : Nat) : callX false (fnF cx_law11_awake noCalls n 12) [] (lcSt [] 0) out = ((holdsW parseP finP (ByteArray.mk #[97,32,62,32,52,32,97,110,100,32,99,111,117,110,116,40,97,41,32,61,32,49]) [] [(ByteArray.mk #[97,35,49],((1 : Int),(5 : Int),false,ByteArray.mk #[]),[])]).bind fun v0 => if v0 = true then ((holdsW parseP finP (ByteArray.mk #[97,32,62,32,53]) [] [(ByteArray.mk #[97,35,49],((1 : Int),(5 : Int),false,ByteArray.mk #[]),[])]).bind fun v1 => some (.ret (.bool (if true = true then !v1 else false)),lcRet [] [] 0)) else some (.ret (.bool false),lcRet [] [] 0)) := by kernel_rfl
end Go.Proofs.YtbcpnpbkbndkjaaGreatDoor.Ev
end
