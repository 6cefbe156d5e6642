/- Several texts in one, in their order. -/
import Derived.Test.YtifgpigicgaadaaGreatDoorBValueMakes2
import Derived.Test.YtifgpigicgaadaaGreatDoorBValueMakes3
import Derived.Test.YtifgpigicgaadaaGreatDoorBValueMakes4
import Derived.Test.YtifgpigicgaadaaGreatDoorBValueMakes5
section
/- Values: what the program and the reference make of any operator and any two values, told by one plain function. -/
set_option linter.unusedSimpArgs false
set_option linter.unusedVariables false
namespace Go.Proofs.YtifgpigicgaadaaGreatDoor.Values
open Go.RowKit Go.Proofs.YtifgpigicgaadaaGreatDoor.Q Go.Proofs.YtifgpigicgaadaaGreatDoorW.PrintWords Go.Proofs.YtifgpigicgaadaaGreatDoorW.PrintLast Go.Proofs.YtifgpigicgaadaaGreatDoorH Go.Proofs.YtifgpigicgaadaaGreatDoor.Chars

/-! ## Kinds -/
def kindV (op a b : Int) : Int × Bool :=
  if op = 5 then (if a = 2 ∧ b = 0 then (2, true) else (0, false))
  else if op = 6 then (if a = 1 ∧ b = 0 then (1, true) else (0, false))
  else if 7 ≤ op ∧ op ≤ 11 then (if a = 1 ∧ b = 1 then (1, true) else (0, false))
  else if 12 ≤ op ∧ op ≤ 15 then (if a = b ∧ (a = 1 ∨ a = 3) then (2, true) else (0, false))
  else if 16 ≤ op ∧ op ≤ 17 then (if a = b ∧ (1 ≤ a ∧ a ≤ 3) then (2, true) else (0, false))
  else if 18 ≤ op ∧ op ≤ 19 then (if a = 2 ∧ b = 2 then (2, true) else (0, false))
  else (0, false)
def sortV (op : Int) : Int := if op = 5 then 1 else if op = 6 then 2 else if 7 ≤ op ∧ op ≤ 11 then 3 else if 12 ≤ op ∧ op ≤ 15 then 4 else if 16 ≤ op ∧ op ≤ 17 then 5 else if 18 ≤ op ∧ op ≤ 19 then 6 else 0
theorem op_cases (op : Int) : op = 5 ∨ op = 6 ∨ op = 7 ∨ op = 8 ∨ op = 9 ∨ op = 10 ∨ op = 11 ∨ op = 12 ∨ op = 13 ∨ op = 14 ∨ op = 15 ∨ op = 16 ∨ op = 17 ∨ op = 18 ∨ op = 19 ∨ (op < 5 ∨ 19 < op) := by omega
theorem op_in (op : Int) (h : ¬ (op < 5 ∨ 19 < op)) : op = 5 ∨ op = 6 ∨ op = 7 ∨ op = 8 ∨ op = 9 ∨ op = 10 ∨ op = 11 ∨ op = 12 ∨ op = 13 ∨ op = 14 ∨ op = 15 ∨ op = 16 ∨ op = 17 ∨ op = 18 ∨ op = 19 := by omega
theorem sortOf_spec (k : Nat) (op : Int) : value_sortOf.f (k + 5) op = some (sortV op) := by
  rcases op_cases op with rfl | rfl | rfl | rfl | rfl | rfl | rfl | rfl | rfl | rfl | rfl | rfl | rfl | rfl | rfl | h
  all_goals try rfl
  have n : ∀ m : Int, 5 ≤ m → m ≤ 19 → ¬ op = m := fun m h1 h2 => by omega
  have e : sortV op = 0 := by
    unfold sortV
    repeat' split
    all_goals omega
  rw [e]
  simp [value_sortOf.f, value_sortOf.j0, value_sortOf.j1, value_sortOf.j2, n 5, n 6, n 7, n 8, n 9, n 10, n 11, n 12, n 13, n 14, n 15, n 16, n 17, n 18, n 19]
theorem kindV_out (op a b : Int) (h : op < 5 ∨ 19 < op) : kindV op a b = (0, false) := by
  unfold kindV
  rw [if_neg (by omega), if_neg (by omega), if_neg (by omega), if_neg (by omega), if_neg (by omega), if_neg (by omega)]
theorem sortV_out (op : Int) (h : op < 5 ∨ 19 < op) : sortV op = 0 := by
  unfold sortV
  rw [if_neg (by omega), if_neg (by omega), if_neg (by omega), if_neg (by omega), if_neg (by omega), if_neg (by omega)]
set_option maxHeartbeats 2000000 in
theorem Kind_spec (k : Nat) (op a b : Int) : value_Kind.f (k + 5) op a b = some (kindV op a b) := by
  unfold value_Kind.f
  rw [sortOf_spec, Option.bind_some]
  by_cases h : op < 5 ∨ 19 < op
  · rw [kindV_out op a b h, sortV_out op h]; simp
  rcases op_in op h with rfl | rfl | rfl | rfl | rfl | rfl | rfl | rfl | rfl | rfl | rfl | rfl | rfl | rfl | rfl
  all_goals (simp only [sortV, kindV]; simp; repeat' split)
  all_goals first | rfl | (exfalso; omega)
/-! ## What may be -/
def canV (k i : Int) (y : Bool) (t : ByteArray) : Bool :=
  if k = 0 then i == 0 && (!y && t.toList.isEmpty)
  else if k = 1 then !y && t.toList.isEmpty
  else if k = 2 then i == 0 && t.toList.isEmpty
  else if k = 3 then i == 0 && (!y && (decide (t.size ≤ 256) && decide (wrong (bytesOf t) < 0)))
  else false
theorem toList_nil : (⟨#[]⟩ : ByteArray).toList = [] := by rw [Lib.toList_data]
theorem empty_of {t : ByteArray} (h : t.toList = []) : t = ⟨#[]⟩ := by
  rw [Lib.toList_data] at h
  cases t with
  | mk d => congr 1; exact Array.toList_eq_nil_iff.1 h
theorem beq_nil (t : ByteArray) : (t.toList == (⟨#[]⟩ : ByteArray).toList) = t.toList.isEmpty := by
  rw [toList_nil]; cases t.toList <;> rfl
theorem bytesOf_len (t : ByteArray) : (bytesOf t).length = t.size := by unfold bytesOf; rw [List.length_map, Array.length_toList]; rfl
theorem wrongs (k : Nat) (t : ByteArray) (h : t.size ≤ 256) : chars_Wrong.f (k + 300) (bytesOf t) = some (wrong (bytesOf t)) ∧ dossierref01_Wrong.f (k + 300) (bytesOf t) = some (wrong (bytesOf t)) := by
  have := bytesOf_len t
  exact wrong_spec _ (bytes_of t) (by omega) _ (by omega)
theorem wrong_none : wrong (bytesOf ⟨#[]⟩) = -1 := wrong_nil
set_option maxHeartbeats 1000000 in
theorem Can_spec (k : Nat) (n i : Int) (y : Bool) (t : ByteArray) : value_Can.f (k + 301) n i y t = some (canV n i y t) := by
  have tail : (if (t.size : Int) ≤ 256 then (if t.size < 140737488355328 then ((chars_Wrong.f (k + 300) (bytesOf t)).bind fun t116 => (some (decide (t116 < 0)))) else none) else some false) = some (decide (t.size ≤ 256) && decide (wrong (bytesOf t) < 0)) := by
    by_cases h : t.size ≤ 256
    · rw [if_pos (by omega), if_pos (by omega), (wrongs k t h).1]; simp [h]
    · rw [if_neg (by omega)]; simp [h]
  have e : t.toList = [] → (decide (t.size ≤ 256) && decide (wrong (bytesOf t) < 0)) = true := by
    intro h; rw [empty_of h, wrong_none]; rfl
  unfold value_Can.f canV
  simp only [show k + 301 = (k + 300) + 1 from rfl, value_Can.j0, tail, beq_nil, beq_self_eq_true, Bool.true_and, Bool.and_true]
  by_cases h0 : n = 0
  · rw [if_pos h0, if_pos h0]
    cases y <;> by_cases hi : i = 0 <;> cases ht : t.toList with
    | nil => simp [hi, e ht]
    | cons _ _ => simp [hi]
  · rw [if_neg h0, if_neg h0]
    by_cases h1 : n = 1
    · rw [if_pos h1, if_pos h1]
      cases y <;> cases ht : t.toList with
      | nil => simp [e ht]
      | cons _ _ => simp
    · rw [if_neg h1, if_neg h1]
      by_cases h2 : n = 2
      · rw [if_pos h2, if_pos h2]
        by_cases hi : i = 0 <;> cases ht : t.toList with
        | nil => simp [hi, e ht]
        | cons _ _ => simp [hi]
      · rw [if_neg h2, if_neg h2]
        by_cases h3 : n = 3
        · rw [if_pos h3, if_pos h3]
          cases y <;> by_cases hi : i = 0 <;> simp [hi]
        · rw [if_neg h3, if_neg h3]
set_option maxHeartbeats 1000000 in
theorem ref_Can_spec (k : Nat) (n i : Int) (y : Bool) (t : ByteArray) : dossierref07_Can.f (k + 301) n i y t = some (canV n i y t) := by
  have tail : (if (t.size : Int) ≤ 256 then (if t.size < 140737488355328 then ((dossierref01_Wrong.f (k + 301) (bytesOf t)).bind fun t116 => (some (decide (t116 < 0)))) else none) else some false) = some (decide (t.size ≤ 256) && decide (wrong (bytesOf t) < 0)) := by
    by_cases h : t.size ≤ 256
    · rw [if_pos (by omega), if_pos (by omega), (wrongs (k + 1) t h).2]; simp [h]
    · rw [if_neg (by omega)]; simp [h]
  unfold dossierref07_Can.f canV dossierref07_Int.f dossierref07_Bool.f dossierref07_Text.f
  simp only [Option.bind_some, tail, beq_nil, beq_self_eq_true, Bool.true_and, Bool.and_true]
  by_cases h0 : n = 0
  · rw [if_pos h0, if_pos h0]; simp [h0]
  · rw [if_neg h0, if_neg h0]
    by_cases h1 : n = 1
    · rw [if_pos h1, if_pos h1]; cases y <;> simp [h1]
    · rw [if_neg h1, if_neg h1]
      by_cases h2 : n = 2
      · rw [if_pos h2, if_pos h2]; simp [h2]
      · rw [if_neg h2, if_neg h2]
        by_cases h3 : n = 3
        · rw [if_pos h3, if_pos h3]
          cases y <;> by_cases hi : i = 0 <;> simp [hi, h3]
        · rw [if_neg h3, if_neg h3]
end Go.Proofs.YtifgpigicgaadaaGreatDoor.Values
end
section
namespace Go.Proofs.YtifgpigicgaadaaGreatDoor.Q
open Go.RowKit Go.Proofs.YtifgpigicgaadaaGreatDoorH Go.Proofs.YtifgpigicgaadaaGreatDoorW.PrintWords Go.Proofs.YtifgpigicgaadaaGreatDoorW.PrintLast Go.Proofs.YtifgpigicgaadaaGreatDoorW.PrintMore
attribute [local go_sem] max2_int min2_int max_two min_two max_three min_three max_four min_four
set_option linter.unusedVariables false
set_option linter.unusedSimpArgs false
section
/-! ### value_Int: function 6 -/
def value_Int.f (a0 : Int) : Option (Int × Int × Bool × ByteArray) := some (1,a0,false,(⟨#[]⟩ : ByteArray))
set_option maxHeartbeats 8000000 in
set_option maxRecDepth 100000 in
theorem value_Int.calls (a0 : Int) (r1 : Int) (r2 : Int) (r3 : Bool) (r4 : ByteArray) (w : World) (h : value_Int.f a0 = some (r1,r2,r3,r4)) :
 Calls Tryz.prog 6 #[.int .i64 a0] w fun e w' => e = .returned (.agg #[.int .i64 r1,.int .i64 r2,.bool r3,.string r4]) ∧ Below w.heap.size w w' := by
 have hu23 := Tryz.underlying23
 have HB := Aside0.mk (Below.refl w.heap.size w)
 have H : (some (1,a0,false,(⟨#[]⟩ : ByteArray))) = some (r1,r2,r3,r4) := h
 clear h
 simp only [Option.some.injEq,Prod.mk.injEq] at H
 obtain ⟨rfl,rfl,rfl,rfl⟩ := H
 go_enter Tryz.func6,Tryz.ntmps6
 go_wp2_with (first | ((with_reducible refine gate_dst (N := 2) rfl ?_); refine box_event ?hg (N := 2) ?hd (cs := #[.int .i64 0,.int .i64 0,.bool false,.string (⟨#[]⟩ : ByteArray)]) (t := 23) ?hr ?_; (case hd => rfl); (case hg => rfl); (case hr => first | (go_simp; done) | (go_simp; rfl)); intro gb101 hg w2 hbox hb; have n0_ := Aside0.mk (below_step (by repeat (first | (with_reducible first | exact HB.out | apply below_alloc | apply pw_below_drewN | apply below_drew1 | apply bytes_below1) | exact HB.out)) hb); have n1_ := Aside0.mk (hbox); have n2_ := Aside0.mk ((by rw [hg]; exact (below_size (by repeat (first | (with_reducible first | exact HB.out | apply below_alloc | apply pw_below_drewN | apply below_drew1 | apply bytes_below1) | exact HB.out))) : w.heap.size ≤ gb101)); have n3_ := Aside0.mk ((by rw [hg]; exact (below_size (by repeat (first | (with_reducible first | exact HB.out | apply below_alloc | apply pw_below_drewN | apply below_drew1 | apply bytes_below1) | exact HB.out))) : w.heap.size ≤ gb101)); clear HB; have HB := n0_; have BK101 := n1_; have GW101 := n2_; have GE101 := n3_; clear n0_ n1_ n2_ n3_; clear hb hbox hg; have hcz3_0 : w2.cell? ⟨gb101,0,none⟩ = some (.int .i64 0) := (blk_cell BK101.out 0).trans rfl; have hcz3_1 : w2.cell? ⟨gb101,1,none⟩ = some (.int .i64 0) := (blk_cell BK101.out 1).trans rfl; have hcz3_2 : w2.cell? ⟨gb101,2,none⟩ = some (.bool false) := (blk_cell BK101.out 2).trans rfl; have hcz3_3 : w2.cell? ⟨gb101,3,none⟩ = some (.string (⟨#[]⟩ : ByteArray)) := (blk_cell BK101.out 3).trans rfl; have hfz3_0 := blk_frozen BK101.out 0; have hfz3_1 := blk_frozen BK101.out 1; have hfz3_2 := blk_frozen BK101.out 2; have hfz3_3 := blk_frozen BK101.out 3))
 refine bodyPost_ret (results_cell_row rfl _ _ gb101 23 #[.int .i64 1,.int .i64 a0,.bool false,.string (⟨#[]⟩ : ByteArray)] (0,0) _ rfl (by (with_reducible repeat (first | refine blk_bytes ?_ _ _ | refine blk_drewN ?_ _ | refine blk_drew ?_ | refine blk_alloc ?_ _)); refine blk_put (cs := #[.int .i64 1,.int .i64 a0,.bool false,.string (⟨#[]⟩ : ByteArray)]) ?_ 3 _ rfl; (with_reducible repeat (first | refine blk_bytes ?_ _ _ | refine blk_drewN ?_ _ | refine blk_drew ?_ | refine blk_alloc ?_ _)); refine blk_put (cs := #[.int .i64 1,.int .i64 a0,.bool false,.string (⟨#[]⟩ : ByteArray)]) ?_ 2 _ rfl; (with_reducible repeat (first | refine blk_bytes ?_ _ _ | refine blk_drewN ?_ _ | refine blk_drew ?_ | refine blk_alloc ?_ _)); refine blk_put (cs := #[.int .i64 1,.int .i64 0,.bool false,.string (⟨#[]⟩ : ByteArray)]) ?_ 1 _ rfl; (with_reducible repeat (first | refine blk_bytes ?_ _ _ | refine blk_drewN ?_ _ | refine blk_drew ?_ | refine blk_alloc ?_ _)); refine blk_put (cs := #[.int .i64 0,.int .i64 0,.bool false,.string (⟨#[]⟩ : ByteArray)]) ?_ 0 _ rfl; (with_reducible repeat (first | refine blk_bytes ?_ _ _ | refine blk_drewN ?_ _ | refine blk_drew ?_ | refine blk_alloc ?_ _)); exact BK101.out) Tryz.underlying23 rfl (by kernel_rfl)) rfl ?_
 exact ⟨by first | rfl | (simp [errW_none,errW_some] <;> rfl) | (simp [*,errW_none,errW_some] <;> rfl),by repeat (first | (with_reducible first | exact HB.out | apply below_alloc | apply pw_below_drewN | apply below_drew1 | apply bytes_below1 | refine below_set ?_ GE101.out) | exact HB.out)⟩
end
section
/-! ### cmp_Or_int: function 80 -/
def cmp_Or_int.l0 : Nat → Int → List Int → Int → Int → Option (Int)
 | 0,_,_,_,_ => none
 | k + 1,x3,x6,x7,x8 => if x8 < x7 then (if 0 ≤ x8 then (if x8 < (x6.length : Int) then (if (rd x6 x8) = x3 then (cmp_Or_int.l0 k x3 x6 x7 (wrap64 (x8 + 1))) else (some (rd x6 x8))) else (none)) else (none)) else (some x3)
def cmp_Or_int.f (k : Nat) (l0 : List Int) : Option (Int) := cmp_Or_int.l0 k 0 l0 (l0.length : Int) 0
set_option maxHeartbeats 8000000 in
set_option maxRecDepth 100000 in
theorem cmp_Or_int.calls (k : Nat) (A0 : Option Addr) (c0 : Nat) (l0 : List Int) (r : Int) (w : World) (hr0 : Kd.C (Kd.int .i64) w A0 l0.length l0) (hc0 : l0.length ≤ c0) (h : cmp_Or_int.f k l0 = some r) :
 Calls Tryz.prog 80 #[.slice A0 l0.length c0] w fun e w' => e = .returned (.int .i64 r) ∧ Drawn0 w w' := by
 have HR0 := Aside0.mk hr0
 have HC0 := Aside0.mk hc0
 clear hr0 hc0
 have H : (cmp_Or_int.l0 k 0 l0 (l0.length : Int) 0) = some r := h
 clear h
 have H' := Aside0.mk H
 clear H
 go_enter Tryz.func80,Tryz.ntmps80
 go_wp2
 go_loopg [8] k (fun kq v8 w' => ∃ (x8_1 : Int),v8 = .int .i64 x8_1 ∧ Aside0 (cmp_Or_int.l0 kq 0 l0 (l0.length : Int) x8_1 = some r) ∧ Aside0 (kq ≤ k) ∧ Drawn0 w w')
 case atStart => exact ⟨(0),(by first | rfl | (simp; done) | (simp [*]; done)),H',⟨Nat.le_refl _⟩,by repeat (first | exact Drawn0.refl _ | apply Drawn0.step)⟩
 case round =>
  clear H'
  obtain ⟨x8_1,rfl,HA,HK1,⟨m1,rfl⟩⟩ := hrel
  cases gk with
  | zero => exact absurd HA.out (by simp [cmp_Or_int.l0])
  | succ k1 =>
   have H := HA.out
   clear HA
   simp only [cmp_Or_int.l0] at H
   by_cases c2 : x8_1 < (l0.length : Int)
   · rw [if_pos c2] at H
     have c2b0 : decide (x8_1 < (l0.length : Int)) = true := decide_eq_true c2
     clear c2
     by_cases c3 : 0 ≤ x8_1
     · rw [if_pos c3] at H
       have c3b0 : decide (0 ≤ x8_1) = true := decide_eq_true c3
       clear c3
       by_cases c4 : x8_1 < (l0.length : Int)
       · rw [if_pos c4] at H
         have c4b0 : decide (x8_1 < (l0.length : Int)) = true := decide_eq_true c4
         clear c4
         by_cases c5 : (rd l0 x8_1) = 0
         · rw [if_pos c5] at H
           have c5b0 : ((rd l0 x8_1) == 0) = true := beq_iff_eq.mpr c5
           have c5b1 : ((rd l0 x8_1) != 0) = false := bne_eq_false_iff_eq.mpr c5
           clear c5
           have H' := Aside0.mk H
           clear H
           have p266 : 0 ≤ (x8_1 : Int) := of_decide_eq_true (by first | (with_reducible assumption) | assumption)
           have q266 : x8_1 < (l0.length : Int) := of_decide_eq_true (by first | (with_reducible assumption) | assumption)
           obtain ⟨ad266,e266,hx266_0⟩ := Kd.at_int HR0.out x8_1 p266 q266
           cases e266
           replace p266 := eq_true p266
           replace q266 := eq_true q266
           go_wp2
           go_roundg k1
           case measure => have := HK1.out; omega
           case rel => exact ⟨(wrap64 (x8_1 + 1)),(by first | rfl | (simp; done) | (simp [*]; done)),H',⟨by have := HK1.out; omega⟩,by repeat (first | exact Drawn0.refl _ | apply Drawn0.step)⟩
         · rw [if_neg c5] at H
           have c5b0 : ((rd l0 x8_1) == 0) = false := beq_eq_false_iff_ne.mpr c5
           have c5b1 : ((rd l0 x8_1) != 0) = true := bne_iff_ne.mpr c5
           obtain rfl := Option.some.inj H
           have p266 : 0 ≤ (x8_1 : Int) := of_decide_eq_true (by first | (with_reducible assumption) | assumption)
           have q266 : x8_1 < (l0.length : Int) := of_decide_eq_true (by first | (with_reducible assumption) | assumption)
           obtain ⟨ad266,e266,hx266_0⟩ := Kd.at_int HR0.out x8_1 p266 q266
           cases e266
           replace p266 := eq_true p266
           replace q266 := eq_true q266
           go_wp2
           go_ret
           exact ⟨by first | rfl | (simp; done) | (simp [*]; done),by repeat (first | exact Drawn0.refl _ | apply Drawn0.step)⟩
       · rw [if_neg c4] at H
         exact absurd H (by simp)
     · rw [if_neg c3] at H
       exact absurd H (by simp)
   · rw [if_neg c2] at H
     have c2b0 : decide (x8_1 < (l0.length : Int)) = false := decide_eq_false c2
     clear c2
     obtain rfl := Option.some.inj H
     go_wp2
     go_ret
     exact ⟨by first | rfl | (simp; done) | (simp [*]; done),by repeat (first | exact Drawn0.refl _ | apply Drawn0.step)⟩
end
section
/-! ### cmp_isNaN_int: function 98 -/
def cmp_isNaN_int.f (a0 : Int) : Option (Bool) := some (a0 != a0)
set_option maxHeartbeats 8000000 in
set_option maxRecDepth 100000 in
theorem cmp_isNaN_int.calls (a0 : Int) (r : Bool) (w : World) (h : cmp_isNaN_int.f a0 = some r) :
 Calls Tryz.prog 98 #[.int .i64 a0] w fun e w' => e = .returned (.bool r) ∧ Drawn0 w w' := by
 have H : (some (a0 != a0)) = some r := h
 clear h
 obtain rfl := Option.some.inj H
 go_enter Tryz.func98,Tryz.ntmps98
 go_wp2
 go_ret
 exact ⟨by first | rfl | (simp; done) | (simp [*]; done),by repeat (first | exact Drawn0.refl _ | apply Drawn0.step)⟩
end
section
/-! ### cmp_Compare_int: function 81 -/
def cmp_Compare_int.f (a0 : Int) (a1 : Int) : Option (Int) := (cmp_isNaN_int.f a0).bind fun t267 => ((cmp_isNaN_int.f a1).bind fun t268 => (if t267 = true then (if t268 = true then (some 0) else (some (-1))) else (if t268 = true then (some 1) else (if a0 < a1 then (some (-1)) else (if a0 > a1 then (some 1) else (some 0))))))
set_option maxHeartbeats 8000000 in
set_option maxRecDepth 100000 in
theorem cmp_Compare_int.calls (a0 : Int) (a1 : Int) (r : Int) (w : World) (h : cmp_Compare_int.f a0 a1 = some r) :
 Calls Tryz.prog 81 #[.int .i64 a0,.int .i64 a1] w fun e w' => e = .returned (.int .i64 r) ∧ Drawn0 w w' := by
 have H : ((cmp_isNaN_int.f a0).bind fun t267 => ((cmp_isNaN_int.f a1).bind fun t268 => (if t267 = true then (if t268 = true then (some 0) else (some (-1))) else (if t268 = true then (some 1) else (if a0 < a1 then (some (-1)) else (if a0 > a1 then (some 1) else (some 0))))))) = some r := h
 clear h
 replace H := Option.bind_eq_some_iff.mp H
 obtain ⟨t267,A30,H⟩ := H
 replace H : ((cmp_isNaN_int.f a1).bind fun t268 => (if t267 = true then (if t268 = true then (some 0) else (some (-1))) else (if t268 = true then (some 1) else (if a0 < a1 then (some (-1)) else (if a0 > a1 then (some 1) else (some 0)))))) = some r := H
 have A3 := Aside0.mk A30
 clear A30
 replace H := Option.bind_eq_some_iff.mp H
 obtain ⟨t268,A40,H⟩ := H
 replace H : (if t267 = true then (if t268 = true then (some 0) else (some (-1))) else (if t268 = true then (some 1) else (if a0 < a1 then (some (-1)) else (if a0 > a1 then (some 1) else (some 0))))) = some r := H
 have A4 := Aside0.mk A40
 clear A40
 by_cases c5 : t267 = true
 · subst c5
   have H1 : (if t268 = true then (some 0) else (some (-1))) = some r := by rw [if_pos rfl] at H; exact H
   clear H
   have H := H1
   clear H1
   by_cases c6 : t268 = true
   · subst c6
     have H1 : (some 0) = some r := by rw [if_pos rfl] at H; exact H
     clear H
     have H := H1
     clear H1
     obtain rfl := Option.some.inj H
     go_enter Tryz.func81,Tryz.ntmps81
     go_wp2_with (first | ((with_reducible refine gate_callee (f := 98) rfl ?_); refine goesL_ (some 8) rfl rfl Tryz.func98 (by kernel_rfl) rfl #[.int .i64 a0] rfl (by (try simp only [List.map_toArray,List.map_cons,List.map_nil]); first | done | rfl | (simp only [List.length_drop,List.length_take]; rfl)) ?_; (with_reducible refine (cmp_isNaN_int.calls a0 true _ A3.out).mono ?_); rintro e w' ⟨rfl,⟨nd,rfl⟩⟩; refine ⟨_,rfl,?_⟩) | ((with_reducible refine gate_callee (f := 98) rfl ?_); refine goesL_ (some 10) rfl rfl Tryz.func98 (by kernel_rfl) rfl #[.int .i64 a1] rfl (by (try simp only [List.map_toArray,List.map_cons,List.map_nil]); first | done | rfl | (simp only [List.length_drop,List.length_take]; rfl)) ?_; (with_reducible refine (cmp_isNaN_int.calls a1 true _ A4.out).mono ?_); rintro e w' ⟨rfl,⟨nd,rfl⟩⟩; refine ⟨_,rfl,?_⟩))
     go_ret
     exact ⟨by first | rfl | (simp; done) | (simp [*]; done),by repeat (first | exact Drawn0.refl _ | apply Drawn0.step)⟩
   · replace c6 := Bool.eq_false_iff.mpr c6
     subst c6
     have H1 : (some (-1)) = some r := by rw [if_neg (show ¬ (false = true) by decide)] at H; exact H
     clear H
     have H := H1
     clear H1
     obtain rfl := Option.some.inj H
     go_enter Tryz.func81,Tryz.ntmps81
     go_wp2_with (first | ((with_reducible refine gate_callee (f := 98) rfl ?_); refine goesL_ (some 8) rfl rfl Tryz.func98 (by kernel_rfl) rfl #[.int .i64 a0] rfl (by (try simp only [List.map_toArray,List.map_cons,List.map_nil]); first | done | rfl | (simp only [List.length_drop,List.length_take]; rfl)) ?_; (with_reducible refine (cmp_isNaN_int.calls a0 true _ A3.out).mono ?_); rintro e w' ⟨rfl,⟨nd,rfl⟩⟩; refine ⟨_,rfl,?_⟩) | ((with_reducible refine gate_callee (f := 98) rfl ?_); refine goesL_ (some 10) rfl rfl Tryz.func98 (by kernel_rfl) rfl #[.int .i64 a1] rfl (by (try simp only [List.map_toArray,List.map_cons,List.map_nil]); first | done | rfl | (simp only [List.length_drop,List.length_take]; rfl)) ?_; (with_reducible refine (cmp_isNaN_int.calls a1 false _ A4.out).mono ?_); rintro e w' ⟨rfl,⟨nd,rfl⟩⟩; refine ⟨_,rfl,?_⟩))
     go_ret
     exact ⟨by first | rfl | (simp; done) | (simp [*]; done),by repeat (first | exact Drawn0.refl _ | apply Drawn0.step)⟩
 · replace c5 := Bool.eq_false_iff.mpr c5
   subst c5
   have H1 : (if t268 = true then (some 1) else (if a0 < a1 then (some (-1)) else (if a0 > a1 then (some 1) else (some 0)))) = some r := by rw [if_neg (show ¬ (false = true) by decide)] at H; exact H
   clear H
   have H := H1
   clear H1
   by_cases c7 : t268 = true
   · subst c7
     have H1 : (some 1) = some r := by rw [if_pos rfl] at H; exact H
     clear H
     have H := H1
     clear H1
     obtain rfl := Option.some.inj H
     go_enter Tryz.func81,Tryz.ntmps81
     go_wp2_with (first | ((with_reducible refine gate_callee (f := 98) rfl ?_); refine goesL_ (some 8) rfl rfl Tryz.func98 (by kernel_rfl) rfl #[.int .i64 a0] rfl (by (try simp only [List.map_toArray,List.map_cons,List.map_nil]); first | done | rfl | (simp only [List.length_drop,List.length_take]; rfl)) ?_; (with_reducible refine (cmp_isNaN_int.calls a0 false _ A3.out).mono ?_); rintro e w' ⟨rfl,⟨nd,rfl⟩⟩; refine ⟨_,rfl,?_⟩) | ((with_reducible refine gate_callee (f := 98) rfl ?_); refine goesL_ (some 10) rfl rfl Tryz.func98 (by kernel_rfl) rfl #[.int .i64 a1] rfl (by (try simp only [List.map_toArray,List.map_cons,List.map_nil]); first | done | rfl | (simp only [List.length_drop,List.length_take]; rfl)) ?_; (with_reducible refine (cmp_isNaN_int.calls a1 true _ A4.out).mono ?_); rintro e w' ⟨rfl,⟨nd,rfl⟩⟩; refine ⟨_,rfl,?_⟩))
     go_ret
     exact ⟨by first | rfl | (simp; done) | (simp [*]; done),by repeat (first | exact Drawn0.refl _ | apply Drawn0.step)⟩
   · replace c7 := Bool.eq_false_iff.mpr c7
     subst c7
     have H1 : (if a0 < a1 then (some (-1)) else (if a0 > a1 then (some 1) else (some 0))) = some r := by rw [if_neg (show ¬ (false = true) by decide)] at H; exact H
     clear H
     have H := H1
     clear H1
     by_cases c8 : a0 < a1
     · rw [if_pos c8] at H
       have c8b0 : decide (a0 < a1) = true := decide_eq_true c8
       clear c8
       obtain rfl := Option.some.inj H
       go_enter Tryz.func81,Tryz.ntmps81
       go_wp2_with (first | ((with_reducible refine gate_callee (f := 98) rfl ?_); refine goesL_ (some 8) rfl rfl Tryz.func98 (by kernel_rfl) rfl #[.int .i64 a0] rfl (by (try simp only [List.map_toArray,List.map_cons,List.map_nil]); first | done | rfl | (simp only [List.length_drop,List.length_take]; rfl)) ?_; (with_reducible refine (cmp_isNaN_int.calls a0 false _ A3.out).mono ?_); rintro e w' ⟨rfl,⟨nd,rfl⟩⟩; refine ⟨_,rfl,?_⟩) | ((with_reducible refine gate_callee (f := 98) rfl ?_); refine goesL_ (some 10) rfl rfl Tryz.func98 (by kernel_rfl) rfl #[.int .i64 a1] rfl (by (try simp only [List.map_toArray,List.map_cons,List.map_nil]); first | done | rfl | (simp only [List.length_drop,List.length_take]; rfl)) ?_; (with_reducible refine (cmp_isNaN_int.calls a1 false _ A4.out).mono ?_); rintro e w' ⟨rfl,⟨nd,rfl⟩⟩; refine ⟨_,rfl,?_⟩))
       go_ret
       exact ⟨by first | rfl | (simp; done) | (simp [*]; done),by repeat (first | exact Drawn0.refl _ | apply Drawn0.step)⟩
     · rw [if_neg c8] at H
       have c8b0 : decide (a0 < a1) = false := decide_eq_false c8
       clear c8
       by_cases c9 : a0 > a1
       · rw [if_pos c9] at H
         have c9b0 : decide (a1 < a0) = true := decide_eq_true c9
         clear c9
         obtain rfl := Option.some.inj H
         go_enter Tryz.func81,Tryz.ntmps81
         go_wp2_with (first | ((with_reducible refine gate_callee (f := 98) rfl ?_); refine goesL_ (some 8) rfl rfl Tryz.func98 (by kernel_rfl) rfl #[.int .i64 a0] rfl (by (try simp only [List.map_toArray,List.map_cons,List.map_nil]); first | done | rfl | (simp only [List.length_drop,List.length_take]; rfl)) ?_; (with_reducible refine (cmp_isNaN_int.calls a0 false _ A3.out).mono ?_); rintro e w' ⟨rfl,⟨nd,rfl⟩⟩; refine ⟨_,rfl,?_⟩) | ((with_reducible refine gate_callee (f := 98) rfl ?_); refine goesL_ (some 10) rfl rfl Tryz.func98 (by kernel_rfl) rfl #[.int .i64 a1] rfl (by (try simp only [List.map_toArray,List.map_cons,List.map_nil]); first | done | rfl | (simp only [List.length_drop,List.length_take]; rfl)) ?_; (with_reducible refine (cmp_isNaN_int.calls a1 false _ A4.out).mono ?_); rintro e w' ⟨rfl,⟨nd,rfl⟩⟩; refine ⟨_,rfl,?_⟩))
         go_ret
         exact ⟨by first | rfl | (simp; done) | (simp [*]; done),by repeat (first | exact Drawn0.refl _ | apply Drawn0.step)⟩
       · rw [if_neg c9] at H
         have c9b0 : decide (a1 < a0) = false := decide_eq_false c9
         clear c9
         obtain rfl := Option.some.inj H
         go_enter Tryz.func81,Tryz.ntmps81
         go_wp2_with (first | ((with_reducible refine gate_callee (f := 98) rfl ?_); refine goesL_ (some 8) rfl rfl Tryz.func98 (by kernel_rfl) rfl #[.int .i64 a0] rfl (by (try simp only [List.map_toArray,List.map_cons,List.map_nil]); first | done | rfl | (simp only [List.length_drop,List.length_take]; rfl)) ?_; (with_reducible refine (cmp_isNaN_int.calls a0 false _ A3.out).mono ?_); rintro e w' ⟨rfl,⟨nd,rfl⟩⟩; refine ⟨_,rfl,?_⟩) | ((with_reducible refine gate_callee (f := 98) rfl ?_); refine goesL_ (some 10) rfl rfl Tryz.func98 (by kernel_rfl) rfl #[.int .i64 a1] rfl (by (try simp only [List.map_toArray,List.map_cons,List.map_nil]); first | done | rfl | (simp only [List.length_drop,List.length_take]; rfl)) ?_; (with_reducible refine (cmp_isNaN_int.calls a1 false _ A4.out).mono ?_); rintro e w' ⟨rfl,⟨nd,rfl⟩⟩; refine ⟨_,rfl,?_⟩))
         go_ret
         exact ⟨by first | rfl | (simp; done) | (simp [*]; done),by repeat (first | exact Drawn0.refl _ | apply Drawn0.step)⟩
end
section
/-! ### strings_Compare: function 82 -/
def strings_Compare.f (a0 : ByteArray) (a1 : ByteArray) : Option Int := some (Lib.compareBytes a0.data.toList a1.data.toList)
theorem strings_Compare.calls (a0 : ByteArray) (a1 : ByteArray) (r : Int) (w : World) (h : strings_Compare.f a0 a1 = some r) :
 Calls Tryz.prog 82 #[.string a0,.string a1] w fun e w' => e = .returned (.int .i64 r) ∧ Drawn0 w w' := by
 obtain rfl := Option.some.inj h
 exact (Any.strings_Compare Tryz.layCompare a0 a1 w).mono fun e w' ⟨h1,h2⟩ => ⟨h1,h2 ▸ Drawn0.refl _⟩
end
end Go.Proofs.YtifgpigicgaadaaGreatDoor.Q
end
