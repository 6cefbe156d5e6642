/- Several texts in one, in their order. -/
import Derived.Test.YtfeidigongckhaaGreatDoorBModelEvents5
import Derived.Test.YtfeidigongckhaaGreatDoorBModelEvents6
import Derived.Tactics
import Derived.WalkKit
import Derived.KernelRfl
section
/- Go's library functions, as the evaluator asks for them: out of the shelf's contracts. -/
set_option linter.unusedVariables false
set_option linter.unusedSimpArgs false
namespace Go.Proofs.YtfeidigongckhaaGreatDoor.Ev
open Go Go.RowKit Go.Proofs.YtfeidigongckhaaGreatDoorH Go.Proofs.YtfeidigongckhaaGreatDoorW.PrintWords

section
variable {U : Nat → Type} {C : Codec U}

/-! ### strings -/
def trimF : List (AVal U) → Option (AVal U)
  | [.str s, .str t] => (Q.strings_TrimLeft.f s t).bind fun r => some (.str r)
  | _ => none
theorem trim_ok : CallOk (R := Rr U) Tryz.prog C 76 (asExt trimF) := by
  refine callOk_ext fun args v h g w cs ha hi hw => ?_
  unfold trimF at h
  split at h
  · rename_i s t
    obtain ⟨r, h1, h2⟩ := bind2 h
    obtain rfl := Option.some.inj h2
    obtain ⟨c, d, rfl, hc, hd⟩ := RelVs.two ha
    cases hc; cases hd
    unfold Q.strings_TrimLeft.f at h1
    by_cases hc : t.data.toList.all (fun b => decide (b.toNat < 128)) = true ∧ t.size < 4294967281
    · rw [if_pos hc] at h1
      obtain rfl := Option.some.inj h1
      refine (Any.strings_TrimLeft_laid Tryz.layTrimLeft (by kernel_rfl) s t w hc.2 fun j b hb => ?_).mono fun e w' ⟨h3, h4⟩ => ⟨_, h3, h4, .str _⟩
      have := List.all_eq_true.1 hc.1 b (List.mem_of_getElem? hb)
      simpa using this
    · rw [if_neg hc] at h1; cases h1
  · cases h

def indexByteF : List (AVal U) → Option (AVal U)
  | [.str s, .int .u8 x] => (Q.strings_IndexByte.f s x).bind fun r => some (.int .i64 r)
  | _ => none
theorem indexByte_ok : CallOk (R := Rr U) Tryz.prog C 73 (asExt indexByteF) := by
  refine callOk_ext fun args v h g w cs ha hi hw => ?_
  unfold indexByteF at h
  split at h
  · rename_i s x
    obtain ⟨r, h1, h2⟩ := bind2 h
    obtain rfl := Option.some.inj h2
    obtain ⟨c, d, rfl, hc, hd⟩ := RelVs.two ha
    cases hc; cases hd
    obtain rfl := Option.some.inj h1
    exact (Any.strings_IndexByte Tryz.layIndexByte s x w).mono fun e w' ⟨h3, h4⟩ => ⟨_, h3, h4 ▸ Below.refl _ _, .int _ _⟩
  · cases h

theorem join_extra : Builder.Extra Tryz.prog Tryz.layJoin_ren where
  sizeBuilder := by kernel_rfl
  liesBuilder := by kernel_rfl
  t5 := Tryz.underlying5
  a5 := Tryz.isAgg5
  z5 := Tryz.sizeOf5
  v5 := Tryz.zeroValue5
  infoByte := by kernel_rfl
  cellsByte := by kernel_rfl
  sizeByte := by kernel_rfl
  neB5 := by decide

theorem RelVs.strs {g : Gh} : ∀ {l : List ByteArray} {vs : List Value}, RelVs C g (cellsAll C .str l) vs → vs = l.map Value.string
  | [], vs, h => by cases h; rfl
  | s :: r, vs, h => by
    cases h with
    | cons hv hs => cases hv; rw [RelVs.strs hs]; rfl

def joinF : List (AVal U) → Option (AVal U)
  | [.sl .str l p, .str s] => (Q.strings_Join.f l s).bind fun r => some (.str r)
  | _ => none
theorem join_ok : CallOk (R := Rr U) Tryz.prog C 116 (asExt joinF) := by
  refine callOk_ext fun args v h g w cs ha hi hw => ?_
  unfold joinF at h
  split at h
  · rename_i l p s
    obtain ⟨r, h1, h2⟩ := bind2 h
    obtain rfl := Option.some.inj h2
    obtain ⟨c, d, rfl, hc, hd⟩ := RelVs.two ha
    cases hd
    unfold Q.strings_Join.f at h1
    by_cases hk : l.length ≤ 140737488355328 ∧ (Lib.join (l.map (·.data.toList)) s.data.toList).length ≤ 140737488355328
    · rw [if_pos hk] at h1
      obtain rfl := Option.some.inj h1
      cases hc with
      | sl0 => exact (Any.strings_Join_none Tryz.layJoin join_extra none 0 s w).mono fun e w' h3 => ⟨_, h3.1, h3.2 ▸ Below.refl _ _, .str _⟩
      | sl hs hm hl hp =>
        rename_i blk off cap vs
        obtain rfl := RelVs.strs hs
        cases l with
        | nil => exact (Any.strings_Join_none Tryz.layJoin join_extra (some ⟨blk, off, none⟩) cap s w).mono fun e w' h3 => ⟨_, h3.1, h3.2 ▸ Below.refl _ _, .str _⟩
        | cons x0 l0 =>
          have hcell : ∀ (j : Nat) (x : ByteArray), (x0 :: l0)[j]? = some x → w.cell? ⟨blk, off + j, none⟩ = some (.string x) := fun j x hx => hi _ _ _ (hm j (.string x) (by rw [List.getElem?_map, hx]; rfl))
          refine (Any.strings_Join Tryz.layJoin join_extra blk off cap (x0 :: l0) s w hcell ?_ hk.1 hl hk.2).mono fun e w' ⟨h3, h4⟩ => ⟨_, h3, h4, .str _⟩
          have h5 := hcell 0 x0 rfl
          have := World.block_lt_of_cell? w _ h5
          simpa using this
    · rw [if_neg hk] at h1; cases h1
  · cases h

/-! ### Go's decoder -/
set_option maxHeartbeats 2000000 in
set_option maxRecDepth 100000 in
theorem rune_slow_zero (A0 : Option Addr) (c0 : Nat) (w : World) :
    Calls Tryz.prog 74 #[.slice A0 0 c0] w fun e w' => e = .returned (.tuple #[.int .i32 65533, .int .i64 0]) ∧ w' = w := by
  go_enter Tryz.func74, Tryz.ntmps74
  go_wp2
  go_ret2
  exact ⟨rfl, rfl⟩
set_option maxHeartbeats 2000000 in
set_option maxRecDepth 100000 in
theorem rune_zero (A0 : Option Addr) (c0 : Nat) (w : World) :
    Calls Tryz.prog 59 #[.slice A0 0 c0] w fun e w' => e = .returned (.tuple #[.int .i32 65533, .int .i64 0]) ∧ w' = w := by
  go_enter Tryz.func59, Tryz.ntmps59
  go_wp2
  go_loop [8] (fun i => i = .int .i64 0) (fun _ => 0)
  case atStart => rfl
  case round =>
    subst hrel
    go_wp2_with (go_at_call 74; refine (rune_slow_zero _ _ _).mono ?_; rintro e w' ⟨rfl, rfl⟩)
    go_ret2
    exact ⟨rfl, rfl⟩

theorem RelVs.nums {g : Gh} {k : IntKind} : ∀ {l : List Int} {vs : List Value}, RelVs C g (cellsAll C (.int k) l) vs → vs = l.map (Value.int k)
  | [], vs, h => by cases h; rfl
  | s :: r, vs, h => by
    cases h with
    | cons hv hs => cases hv; rw [RelVs.nums hs]; rfl

def runeF : List (AVal U) → Option (AVal U)
  | [.sl (.int .u8) l p] => (Q.utf8_DecodeRune.f l).bind fun r => some (.tup [.int .i32 r.1, .int .i64 r.2])
  | _ => none
theorem rune_ok : CallOk (R := Rr U) Tryz.prog C 59 (asExt runeF) := by
  refine callOk_ext fun args v h g w cs ha hi hw => ?_
  unfold runeF at h
  split at h
  · rename_i l p
    obtain ⟨r, h1, h2⟩ := bind2 h
    obtain rfl := Option.some.inj h2
    obtain ⟨c, rfl, hc⟩ := RelVs.one ha
    obtain ⟨w0, hw1, hw2⟩ := hw
    have hL : Laid w := Laid_below hw2 hw1
    unfold Q.utf8_DecodeRune.f at h1
    by_cases hb : (l.all fun x => decide (0 ≤ x) && decide (x < 256)) = true
    · rw [if_pos hb] at h1
      obtain rfl := Option.some.inj h1
      have fin : ∀ {a b : Int} {g : Gh}, RelV C g (.tup [.int .i32 a, .int .i64 b]) (.tuple #[.int .i32 a, .int .i64 b]) := fun {a b g} => .tup (.cons (.int _ _) (.cons (.int _ _) .nil))
      cases hc with
      | sl0 => exact (rune_zero none 0 w).mono fun e w' ⟨h3, h4⟩ => ⟨_, h3, h4 ▸ Below.refl _ _, fin⟩
      | sl hs hm hl hp =>
        rename_i blk off cap vs
        obtain rfl := RelVs.nums hs
        have hsz : (strOfNums l).size = l.length := strOfNums_size l
        cases l with
        | nil => exact (rune_zero (some ⟨blk, off, none⟩) cap w).mono fun e w' ⟨h3, h4⟩ => ⟨_, h3, h4 ▸ Below.refl _ _, fin⟩
        | cons x0 l0 =>
          have hp : ∀ j, j < (strOfNums (x0 :: l0)).size → w.cell? ⟨blk, off + j, none⟩ = some (.int .u8 ((strOfNums (x0 :: l0)).get! j).toNat) := by
            intro j hj
            rw [hsz] at hj
            have hx : (x0 :: l0)[j]? = some (x0 :: l0)[j] := List.getElem?_eq_getElem hj
            rw [hi _ _ _ (hm j (.int .u8 (x0 :: l0)[j]) (by rw [List.getElem?_map, hx]; rfl))]
            have hq : 0 ≤ (x0 :: l0)[j] ∧ (x0 :: l0)[j] < 256 := by
              have := List.all_eq_true.1 hb _ (List.getElem_mem hj)
              simpa using this
            have key : ∀ z : Int, 0 ≤ z ∧ z < 256 → some (Value.int .u8 z) = some (Value.int .u8 ((UInt8.ofNat z.toNat).toNat : Int)) := by
              intro z hz
              simp
              omega
            rw [strOfNums_get! (x0 :: l0) j hj]
            exact key _ hq
          have C := Any7.utf8_DecodeRune Tryz.layDecodeRune (strOfNums (x0 :: l0)) blk off cap w hL hp
          rw [hsz] at C
          exact C.mono fun e w' ⟨h3, h4⟩ => ⟨_, h3, h4, fin⟩
    · rw [if_neg hb] at h1; cases h1
  · cases h

/-! ### their words -/
section
variable {R : Type}
def trimS : List (AVal U) → St U → (Res U → St U → Option R) → Option R := fun args st K => match args with
  | [.str s, .str t] => (Q.strings_TrimLeft.f s t).bind fun r => K (.ret (.str r)) st
  | _ => none
def indexByteS : List (AVal U) → St U → (Res U → St U → Option R) → Option R := fun args st K => match args with
  | [.str s, .int .u8 x] => (Q.strings_IndexByte.f s x).bind fun r => K (.ret (.int .i64 r)) st
  | _ => none
def joinS : List (AVal U) → St U → (Res U → St U → Option R) → Option R := fun args st K => match args with
  | [.sl .str l p, .str s] => (Q.strings_Join.f l s).bind fun r => K (.ret (.str r)) st
  | _ => none
def runeS : List (AVal U) → St U → (Res U → St U → Option R) → Option R := fun args st K => match args with
  | [.sl (.int .u8) l p] => (Q.utf8_DecodeRune.f l).bind fun r => K (.ret (.tup [.int .i32 r.1, .int .i64 r.2])) st
  | _ => none
end
theorem callOk_by {f : FuncId} {F : List (AVal U) → Option (AVal U)} {S : List (AVal U) → St U → (Res U → St U → Option (Rr U)) → Option (Rr U)} (h : CallOk (R := Rr U) Tryz.prog C f (asExt F)) (e : ∀ args st K r, S args st K = some r → asExt (R := Rr U) F args st K = some r) : CallOkL Tryz.prog C f S :=
  fun args cs n K r h1 => h args (lcSt cs n) K r (e _ _ _ _ h1)
theorem trimS_ok : CallOkL (R := Rr U) Tryz.prog C 76 trimS := callOk_by trim_ok fun args st K r h => by
  unfold trimS at h
  unfold asExt trimF
  split at h
  · obtain ⟨v, h1, h2⟩ := bind2 h
    simp [h1, h2]
  · cases h
theorem indexByteS_ok : CallOkL (R := Rr U) Tryz.prog C 73 indexByteS := callOk_by indexByte_ok fun args st K r h => by
  unfold indexByteS at h
  unfold asExt indexByteF
  split at h
  · obtain ⟨v, h1, h2⟩ := bind2 h
    simp [h1, h2]
  · cases h
theorem joinS_ok : CallOkL (R := Rr U) Tryz.prog C 116 joinS := callOk_by join_ok fun args st K r h => by
  unfold joinS at h
  unfold asExt joinF
  split at h
  · obtain ⟨v, h1, h2⟩ := bind2 h
    simp [h1, h2]
  · cases h
theorem runeS_ok : CallOkL (R := Rr U) Tryz.prog C 59 runeS := callOk_by rune_ok fun args st K r h => by
  unfold runeS at h
  unfold asExt runeF
  split at h
  · obtain ⟨v, h1, h2⟩ := bind2 h
    simp [h1, h2]
  · cases h
end
end Go.Proofs.YtfeidigongckhaaGreatDoor.Ev
end
section
/- What the lists of functions share: words of functions, contexts, rounds. -/
set_option linter.unusedVariables false
namespace Go.Proofs.YtfeidigongckhaaGreatDoor.Ev
open Go
abbrev W : Ty := .pair (.int .i64) (.pair .str (.int .i64))
abbrev Spec := List (AVal U0) → St U0 → (Res U0 → St U0 → Option (Rr U0)) → Option (Rr U0)
def extL : List (FuncId × Bool × Spec) → FuncId → Option (Bool × Spec)
  | [], _ => none
  | s :: r, f => match Nat.beq s.1 f with
    | true => some s.2
    | false => extL r f
noncomputable def cxOf (l : List (FuncId × Bool × Spec)) : Cx U0 (Rr U0) := ⟨TT U0, FT, extL l, live0, C0, eqs0⟩
/-- Functions that call each other. -/
def recL : List (FuncId × Spec) → FuncId → Spec
  | [], _ => fun _ _ _ => none
  | s :: r, f => match Nat.beq s.1 f with
    | true => s.2
    | false => recL r f
open Classical in
/-- What a function with so many rounds at most comes to. -/
noncomputable def lim {α : Type} (X : Nat → Option α) : Option α := if h : ∃ k v, k ≤ 1000000 ∧ X k = some v then X h.choose else none
def specs_lib0 : List (FuncId × Bool × Spec) := [(76, false, trimS), (73, false, indexByteS), (116, false, joinS), (59, false, runeS)]
end Go.Proofs.YtfeidigongckhaaGreatDoor.Ev
end
section
/- How the evaluator's trees are the functions that were printed: what both proofs share. -/
set_option linter.unusedVariables false
namespace Go.Proofs.YtfeidigongckhaaGreatDoor.Ev
open Go Go.RowKit Go.Proofs.YtfeidigongckhaaGreatDoorW.PrintWords

theorem seq_list (x y : ByteArray) : (seq x y = true) = (x.toList = y.toList) := by
  rw [ByteArray.toList_eq, ByteArray.toList_eq]
  unfold seq
  simp
theorem seq_false (x y : ByteArray) : (seq x y = false) = ¬ (x.toList = y.toList) := by
  rw [← seq_list]
  cases seq x y <;> simp
theorem ba_list (l : List UInt8) : (ByteArray.mk ⟨l⟩).toList = l := by rw [ByteArray.toList_eq]
theorem ite_or (c : Prop) [Decidable c] (b : Bool) : ((if c then true else b) = true) = (c ∨ b = true) := by by_cases h : c <;> simp [h]
theorem ite_and (c : Prop) [Decidable c] (b : Bool) : ((if c then b else false) = true) = (c ∧ b = true) := by by_cases h : c <;> simp [h]
theorem wrap_64 (x : Int) : IntKind.i64.wrap x = wrap64 x := by
  unfold wrap64; exact IntKind.wrap_i64 x
theorem bt_eq (s : ByteArray) (i : Int) : Ev.bt s i = Go.Proofs.YtfeidigongckhaaGreatDoorW.PrintWords.bt s i := rfl
theorem nth_bind {β : Type} (l : List Int) (i : Int) (f : Int → Option β) (h0 : 0 ≤ i) (h1 : i < l.length) : (nth l i.toNat).bind f = f (rd l i) := by
  rw [nth_get]
  unfold rd
  rw [List.getD_eq_getElem?_getD]
  have : i.toNat < l.length := by omega
  rw [List.getElem?_eq_getElem this]
  rfl

theorem toBytes_len (s : ByteArray) : (toBytes s).length = s.size := by
  unfold toBytes
  rw [List.length_map, Array.length_toList]
  rfl
theorem nth_bytes (s : ByteArray) (i : Int) (h0 : 0 ≤ i) (h1 : i < (s.size : Int)) : nth (toBytes s) i.toNat = some (Go.Proofs.YtfeidigongckhaaGreatDoorW.PrintWords.bt s i) := by
  have hlt : i.toNat < s.size := by omega
  rw [nth_get]
  unfold toBytes Go.Proofs.YtfeidigongckhaaGreatDoorW.PrintWords.bt
  rw [List.getElem?_map, dif_pos hlt, Array.getElem?_toList]
  have : s.data[i.toNat]? = some (s[i.toNat]'hlt) := by
    rw [Array.getElem?_eq_getElem (by exact hlt)]
    rfl
  rw [this]
  rfl
theorem wrap_8 (x : Int) : IntKind.u8.wrap x = x % 256 := IntKind.wrap_u8 x
theorem wrap_u64_mod (x : Int) : IntKind.u64.wrap (x % 256) = x % 256 := by
  rw [IntKind.wrap_u64]; omega
theorem ofBytes_eq (l : List Int) : ofBytes l = strOfNums l := rfl
theorem false_or_b (b : Bool) : ((if false = true then true else b) = true) = (b = true) := by simp
theorem true_and_b (b : Bool) : ((if true = true then b else false) = true) = (b = true) := by simp
theorem shr_6 (r : Int) : r.fdiv ((2 : Int) ^ min (Int.toNat (6 : Int)) IntKind.i64.bits) = r / 64 := by
  rw [show ((2 : Int) ^ min (Int.toNat (6 : Int)) IntKind.i64.bits) = 64 from by decide]; exact Int.fdiv_eq_ediv_of_nonneg r (by decide)
theorem shr_12 (r : Int) : r.fdiv ((2 : Int) ^ min (Int.toNat (12 : Int)) IntKind.i64.bits) = r / 4096 := by
  rw [show ((2 : Int) ^ min (Int.toNat (12 : Int)) IntKind.i64.bits) = 4096 from by decide]; exact Int.fdiv_eq_ediv_of_nonneg r (by decide)
theorem shr_18 (r : Int) : r.fdiv ((2 : Int) ^ min (Int.toNat (18 : Int)) IntKind.i64.bits) = r / 262144 := by
  rw [show ((2 : Int) ^ min (Int.toNat (18 : Int)) IntKind.i64.bits) = 262144 from by decide]; exact Int.fdiv_eq_ediv_of_nonneg r (by decide)
theorem wrap64_mod (x : Int) : wrap64 (x % 256) = x % 256 := by unfold wrap64; omega
theorem nth_rd (l : List Int) (i : Int) (h0 : 0 ≤ i) (h1 : i < l.length) : nth l i.toNat = some (rd l i) := by
  have := nth_bind l i some h0 h1
  cases e : nth l i.toNat with
  | none => rw [e] at this; cases this
  | some x => rw [e] at this; exact this
theorem nth_strs (l : List ByteArray) (i : Int) (h0 : 0 ≤ i) (h1 : i < l.length) : nth l i.toNat = some (rdOf ByteArray.empty l i) := by
  have hlt : i.toNat < l.length := by omega
  rw [nth_get, List.getElem?_eq_getElem hlt]
  unfold rdOf
  rw [List.getD_eq_getElem?_getD, List.getElem?_eq_getElem hlt]
  rfl
theorem toBytes_eq (s : ByteArray) : toBytes s = Go.Proofs.YtfeidigongckhaaGreatDoorW.PrintWords.bytesOf s := rfl
theorem toNat0 : Int.toNat 0 = 0 := rfl
theorem toNat1 : Int.toNat 1 = 1 := rfl
theorem toNat2 : Int.toNat 2 = 2 := rfl
theorem nth_rd0 (l : List Int) (h1 : 0 < (l.length : Int)) : nth l 0 = some (rd l 0) := nth_rd l 0 (by omega) h1
theorem bindE {α β : Type} {o : Option α} {f : α → Option β} {v : β} (h : o.bind f = some v) : ∃ a, o = some a ∧ f a = some v := Option.bind_eq_some_iff.1 h
theorem lim_some {α : Type} {X : Nat → Option α} {v : α} (h : lim X = some v) : ∃ k, k ≤ 1000000 ∧ X k = some v := by
  unfold lim at h
  split at h
  · rename_i q
    obtain ⟨v', h1, h2⟩ := q.choose_spec
    exact ⟨_, h1, h⟩
  · cases h
theorem leO_le {α : Type} {X : Nat → Option α} (hm : ∀ k, LeO (X k) (X (k + 1))) {v : α} : ∀ {d k : Nat}, X k = some v → X (k + d) = some v
  | 0, _, h => h
  | d + 1, k, h => hm (k + d) _ (leO_le hm h)
theorem lim_of {α : Type} {X : Nat → Option α} (hm : ∀ k, LeO (X k) (X (k + 1))) {v : α} {k : Nat} (hk : k ≤ 1000000) (h : X k = some v) : lim X = some v := by
  unfold lim
  have q : ∃ k v, k ≤ 1000000 ∧ X k = some v := ⟨k, v, hk, h⟩
  rw [dif_pos q]
  obtain ⟨v', h1, h2⟩ := q.choose_spec
  generalize q.choose = k' at h1 h2
  have e1 := leO_le hm (d := k') h
  have e2 := leO_le hm (d := k) h2
  rw [Nat.add_comm, e1] at e2
  rw [h2, e2]

def AllOk (l : List (FuncId × Bool × Spec)) : Prop := ∀ x ∈ l, FnOk Tryz.prog x.1 ∧ CallOkL Tryz.prog C0 x.1 x.2.2
theorem extL_ok : ∀ {l : List (FuncId × Bool × Spec)}, AllOk l → ∀ f s, extL l f = some s → FnOk Tryz.prog f ∧ CallOkL Tryz.prog C0 f s.2
  | [], _, f, s, h => by cases h
  | x :: r, ha, f, s, h => by
    unfold extL at h
    cases e : Nat.beq x.1 f with
    | true =>
      rw [e] at h
      obtain rfl := Option.some.inj h
      rw [← Nat.eq_of_beq_eq_true e]
      exact ha x (List.mem_cons_self ..)
    | false =>
      rw [e] at h
      exact extL_ok (fun y hy => ha y (List.mem_cons_of_mem _ hy)) f s h

theorem funcs_find {f : FuncId} {fn : Func} (h : FT f = some fn) : Tryz.prog.funcs[f]? = some fn ∧ (fn.name == "runtime.NumGoroutine") = false := ft_ok ft_holds f fn h

theorem ok_ext (e : FuncId → Option (Bool × Spec)) : Ok Tryz.prog (⟨TT U0, FT, e, live0, C0, eqs0⟩ : Cx U0 (Rr U0)) where
  tt := tt_all tt_holds
  codec := codecOf_ok shapes
  eqs := eqs_ok eqs_holds
  ft := fun f fn h => funcs_find h
  mixed := by kernel_rfl

theorem cok_of {l : List (FuncId × Bool × Spec)} (h : AllOk l) : Calls.Ok Tryz.prog (cxOf l) noCalls := noCalls_ok fun f s hs => extL_ok h f s hs

theorem fnOk_of {f : FuncId} (h : ((FT f).bind (·.body)).isSome = true) : FnOk Tryz.prog f := by
  cases e : FT f with
  | none => rw [e] at h; cases h
  | some fn =>
    rw [e] at h
    obtain ⟨h1, h2⟩ := funcs_find e
    exact ⟨fn, h1, h2, h⟩

theorem lib_ok0 : AllOk specs_lib0 := by
  intro x hx
  unfold specs_lib0 at hx
  simp only [List.mem_cons, List.not_mem_nil, or_false] at hx
  rcases hx with rfl | rfl | rfl | rfl
  · exact ⟨fnOk_of (by kernel_rfl), trimS_ok⟩
  · exact ⟨fnOk_of (by kernel_rfl), indexByteS_ok⟩
  · exact ⟨fnOk_of (by kernel_rfl), joinS_ok⟩
  · exact ⟨fnOk_of (by kernel_rfl), runeS_ok⟩

theorem allOk_cons {f : FuncId} {kp : Bool} {S : Spec} {l : List (FuncId × Bool × Spec)} (h : AllOk l) (h1 : FnOk Tryz.prog f) (h2 : CallOkL Tryz.prog C0 f S) : AllOk ((f, kp, S) :: l) := by
  intro x hx
  rcases List.mem_cons.1 hx with rfl | hx
  · exact ⟨h1, h2⟩
  · exact h x hx
theorem recL_ok : ∀ {l : List (FuncId × Spec)} {f : FuncId}, (∀ x ∈ l, FnOk Tryz.prog x.1 ∧ CallOkL Tryz.prog C0 x.1 x.2) → CallOkL Tryz.prog C0 f (recL l f) ∧ ∀ args st K r, recL l f args st K = some r → FnOk Tryz.prog f
  | [], f, _ => ⟨fun args cs n K r h => (by cases h), fun args st K r h => (by cases h)⟩
  | s :: l, f, hl => by
    have ih := recL_ok (l := l) (f := f) fun x hx => hl x (List.mem_cons_of_mem _ hx)
    have e0 : recL (s :: l) f = (match Nat.beq s.1 f with | true => s.2 | false => recL l f) := rfl
    cases e : Nat.beq s.1 f with
    | true =>
      rw [e] at e0
      have h1 := hl s (List.mem_cons_self ..)
      rw [Nat.eq_of_beq_eq_true e] at h1
      rw [e0]
      exact ⟨h1.2, fun _ _ _ _ _ => h1.1⟩
    | false =>
      rw [e] at e0
      rw [e0]
      exact ih
theorem rec_cok {l : List (FuncId × Spec)} {L : List (FuncId × Bool × Spec)} (h : AllOk L) (hl : ∀ x ∈ l, FnOk Tryz.prog x.1 ∧ CallOkL Tryz.prog C0 x.1 x.2) : Calls.Ok Tryz.prog (cxOf L) (recL l) :=
  ⟨fun f s hs => extL_ok h f s hs, fun f => (recL_ok hl).1, fun f args st K r h => (recL_ok hl).2 args st K r h⟩
end Go.Proofs.YtfeidigongckhaaGreatDoor.Ev
end
section
/- slices.Clone, at each type; and the words that all lists begin with. -/
set_option linter.unusedVariables false
namespace Go.Proofs.YtfeidigongckhaaGreatDoor.Ev
open Go Go.RowKit
def cloneS (ty : Ty) (bytes : Nat) : Spec := fun args st K => match args with
  | [.sl t l _] => (recast t ty l).bind fun l => if (0 + l.length) * bytes ≤ most then K (.ret (.sl ty l (.tok st.nt))) (newTok st) else none
  | _ => none
theorem clone_of {F : FuncId} {ty : Ty} {bytes m : Nat}
    (h1 : ∀ (x : ty.den U0) (r : List (ty.den U0)) (p : Perm) (cs : List (List (AVal U0))) (n : Nat), fnF (cxOf []) noCalls m F [.sl ty (x :: r) p] (lcSt cs n) out = if (0 + (x :: r).length) * bytes ≤ most then some (.ret (.sl ty (x :: r) (.tok n)), newTok (lcSt cs n)) else none)
    (h2 : ∀ (cs : List (List (AVal U0))) (n : Nat), fnF (cxOf []) noCalls m F [.sl ty [] .nn] (lcSt cs n) out = some (.ret (.sl ty [] (.tok n)), newTok (lcSt cs n)))
    (h3 : ∀ (cs : List (List (AVal U0))) (n : Nat), fnF (cxOf []) noCalls m F [.sl ty [] .nil] (lcSt cs n) out = some (.ret (.sl ty [] .exact), lcSt cs n)) : CallOkL Tryz.prog C0 F (cloneS ty bytes) := by
  have nil_ok : AllOk ([] : List (FuncId × Bool × Spec)) := fun x hx => by cases hx
  have run := fnF_ok (ok_ext _) (cok_of nil_ok) m F
  intro args cs n K r h S w0 g w vs ha hS
  unfold cloneS at h
  split at h
  · rename_i t l p
    obtain ⟨l', h4, hh⟩ := bind2 h
    clear h
    obtain ⟨rfl, rfl⟩ := recast_eq h4
    have h := hh
    clear hh h4
    split at h
    · rename_i hm
      cases ha with
      | cons hv hs =>
        cases hs
        rename_i c
        cases l' with
        | cons x q =>
          refine (run [.sl t (x :: q) p] (lcSt cs n) out _ ((h1 x q p cs n).trans (if_pos hm)) S w0 g w [c] (.cons hv .nil) hS).mono fun e w' ⟨res, st', g', k1, k2, k3, k4, k5⟩ => ?_
          obtain ⟨rfl, rfl⟩ := Prod.mk.inj (Option.some.inj k1)
          exact ⟨_, _, g', h, k2, k3, k4, k5⟩
        | nil =>
          have hc : RelV C0 g (.sl t [] .nn) c ∨ RelV C0 g (.sl t [] .nil) c := by
            cases hv with
            | sl0 hz => exact .inr (.sl0 rfl)
            | sl a b d e => exact .inl (.sl a b d trivial)
          rcases hc with hc | hc
          · refine (run [.sl t [] .nn] (lcSt cs n) out _ (h2 cs n) S w0 g w [c] (.cons hc .nil) hS).mono fun e w' ⟨res, st', g', k1, k2, k3, k4, k5⟩ => ?_
            obtain ⟨rfl, rfl⟩ := Prod.mk.inj (Option.some.inj k1)
            exact ⟨_, _, g', h, k2, k3, k4, k5⟩
          · refine (run [.sl t [] .nil] (lcSt cs n) out _ (h3 cs n) S w0 g w [c] (.cons hc .nil) hS).mono fun e w' ⟨res, st', g', k1, k2, k3, k4, k5⟩ => ?_
            obtain ⟨rfl, rfl⟩ := Prod.mk.inj (Option.some.inj k1)
            refine ⟨_, _, g', h, k2, k3.tokEmpty, Same.newTok _, ?_⟩
            cases k5 with
            | ret hr =>
              refine .ret ?_
              cases hr with
              | sl0 hz => exact .sl0 rfl
              | sl a b d e => exact .sl a b d (.inr e)
    · cases h
  · cases h
set_option maxRecDepth 100000
theorem clone31_ok : CallOkL Tryz.prog C0 31 (cloneS (.str) 16) := clone_of (m := 0) (fun x r p cs n => by kernel_rfl) (fun cs n => by kernel_rfl) (fun cs n => by kernel_rfl)
def specs_clone : List (FuncId × Bool × Spec) := [(31, true, cloneS (.str) 16)]
def specs_lib : List (FuncId × Bool × Spec) := specs_lib0 ++ specs_clone
theorem lib_ok : AllOk specs_lib := by
  intro x hx
  rcases List.mem_append.1 hx with hx | hx
  · exact lib_ok0 x hx
  · unfold specs_clone at hx
    simp only [List.mem_cons, List.not_mem_nil, or_false] at hx
    rcases hx with rfl
    · exact ⟨fnOk_of (by kernel_rfl), clone31_ok⟩
end Go.Proofs.YtfeidigongckhaaGreatDoor.Ev
end
section
/- What is known of each function: its word; and the contexts in which it is reckoned. -/
-- prev lib
set_option linter.unusedVariables false
namespace Go.Proofs.YtfeidigongckhaaGreatDoor.Ev
open Go
def evNames : List ByteArray := [(⟨#[]⟩ : ByteArray), (⟨#[99, 114, 101, 97, 116, 101]⟩ : ByteArray), (⟨#[101, 110, 97, 98, 108, 101]⟩ : ByteArray), (⟨#[100, 105, 115, 97, 98, 108, 101]⟩ : ByteArray), (⟨#[114, 101, 101, 110, 97, 98, 108, 101]⟩ : ByteArray), (⟨#[115, 116, 97, 114, 116]⟩ : ByteArray), (⟨#[109, 97, 110, 117, 97, 108, 83, 116, 97, 114, 116]⟩ : ByteArray), (⟨#[99, 111, 109, 112, 108, 101, 116, 101]⟩ : ByteArray), (⟨#[102, 97, 117, 108, 116]⟩ : ByteArray), (⟨#[114, 101, 97, 99, 116, 105, 118, 97, 116, 101]⟩ : ByteArray), (⟨#[115, 117, 115, 112, 101, 110, 100]⟩ : ByteArray), (⟨#[114, 101, 115, 117, 109, 101]⟩ : ByteArray), (⟨#[116, 101, 114, 109, 105, 110, 97, 116, 101]⟩ : ByteArray), (⟨#[101, 120, 105, 116]⟩ : ByteArray), (⟨#[112, 97, 114, 101, 110, 116, 84, 101, 114, 109, 105, 110, 97, 116, 101]⟩ : ByteArray), (⟨#[112, 97, 114, 101, 110, 116, 83, 117, 115, 112, 101, 110, 100]⟩ : ByteArray), (⟨#[112, 97, 114, 101, 110, 116, 82, 101, 115, 117, 109, 101]⟩ : ByteArray), (⟨#[111, 99, 99, 117, 114]⟩ : ByteArray), (⟨#[99, 108, 111, 115, 101]⟩ : ByteArray), (⟨#[]⟩ : ByteArray), (⟨#[]⟩ : ByteArray), (⟨#[114, 101, 112, 108, 97, 99, 101]⟩ : ByteArray), (⟨#[117, 112, 100, 97, 116, 101]⟩ : ByteArray), (⟨#[100, 101, 108, 101, 116, 101]⟩ : ByteArray), (⟨#[97, 100, 100, 67, 104, 105, 108, 100]⟩ : ByteArray), (⟨#[114, 101, 109, 111, 118, 101, 67, 104, 105, 108, 100]⟩ : ByteArray), (⟨#[97, 100, 100, 82, 101, 102, 101, 114, 101, 110, 99, 101]⟩ : ByteArray), (⟨#[114, 101, 109, 111, 118, 101, 82, 101, 102, 101, 114, 101, 110, 99, 101]⟩ : ByteArray)]
def nameE (e : Int) : ByteArray := if e < 0 then (⟨#[]⟩ : ByteArray) else if 28 ≤ e then (⟨#[]⟩ : ByteArray) else evNames.getD e.toNat (⟨#[]⟩ : ByteArray)
def idxE (s : ByteArray) : List ByteArray → Int → Int
  | [], _ => 0
  | x :: r, i => if seq x (⟨#[]⟩ : ByteArray) = false ∧ seq x s = true then i else idxE s r (i + 1)
def evOf (s : ByteArray) : Int := idxE s evNames 0
def taskB (k : Int) : Bool := decide (1 ≤ k ∧ k ≤ 4)
def worksB (k : Int) : Bool := decide (0 ≤ k ∧ k ≤ 4)
def evsB (k e : Int) : Bool := if 0 ≤ k ∧ k ≤ 4 then decide (1 ≤ e ∧ e ≤ 16) else if k < 5 ∨ 7 < k then false else decide (e = 1 ∨ e = 10 ∨ e = 11 ∨ e = 12 ∨ e = 14 ∨ e = 15 ∨ e = 16 ∨ e = 17)
def fileB (e : Int) : Bool := decide (e = 1 ∨ (21 ≤ e ∧ e ≤ 27))
def hasZ (z : Int) : List Int → Int → Int
  | [], _ => -1
  | x :: r, i => if z = x then i else hasZ z r (i + 1)
-- irreducible nameE evOf taskB worksB evsB fileB hasZ

noncomputable def cx_model_EventName : Cx U0 (Rr U0) := cxOf specs_lib
noncomputable def model_EventName.spec : Spec := fun args st K => match args, st.box, st.nt with
  | [.int .i64 z], [], 0 => (some (nameE z)).bind fun v => K (.ret (.str v)) (lcRet [] [] 0)
  | _, _, _ => none
noncomputable def specs_model_EventName : List (FuncId × Bool × Spec) := (6, false, model_EventName.spec) :: specs_lib
noncomputable def cx_ref_names : Cx U0 (Rr U0) := cxOf specs_model_EventName
noncomputable def ref_names.spec : Spec := fun args st K => match args, st.box, st.nt with
  | [], [], 0 => (some evNames).bind fun v => K (.ret (.sl .str (v) .no)) (lcRet [] [] 0)
  | _, _, _ => none
noncomputable def specs_ref_names : List (FuncId × Bool × Spec) := (15, false, ref_names.spec) :: specs_model_EventName
noncomputable def cx_ref_EventName : Cx U0 (Rr U0) := cxOf specs_ref_names
noncomputable def ref_EventName.spec : Spec := fun args st K => match args, st.box, st.nt with
  | [.int .i64 z], [], 0 => (some (nameE z)).bind fun v => K (.ret (.str v)) (lcRet [] [] 0)
  | _, _, _ => none
noncomputable def specs_ref_EventName : List (FuncId × Bool × Spec) := (7, false, ref_EventName.spec) :: specs_ref_names
noncomputable def cx_model_EventOf : Cx U0 (Rr U0) := cxOf specs_ref_EventName
noncomputable def model_EventOf.spec : Spec := fun args st K => match args, st.box, st.nt with
  | [.str s], [], 0 => (some (evOf s, decide (1 ≤ evOf s))).bind fun v => K (.ret (.tup [.int .i64 v.1, .bool v.2])) (lcRet [] [] 0)
  | _, _, _ => none
noncomputable def specs_model_EventOf : List (FuncId × Bool × Spec) := (4, false, model_EventOf.spec) :: specs_ref_EventName
noncomputable def cx_ref_EventOf : Cx U0 (Rr U0) := cxOf specs_model_EventOf
noncomputable def ref_EventOf.spec : Spec := fun args st K => match args, st.box, st.nt with
  | [.str s], [], 0 => (some (evOf s, decide (1 ≤ evOf s))).bind fun v => K (.ret (.tup [.int .i64 v.1, .bool v.2])) (lcRet [] [] 0)
  | _, _, _ => none
noncomputable def specs_ref_EventOf : List (FuncId × Bool × Spec) := (5, false, ref_EventOf.spec) :: specs_model_EventOf
noncomputable def cx_model_Task : Cx U0 (Rr U0) := cxOf specs_ref_EventOf
noncomputable def model_Task.spec : Spec := fun args st K => match args, st.box, st.nt with
  | [.int .i64 z], [], 0 => (some (taskB z)).bind fun v => K (.ret (.bool v)) (lcRet [] [] 0)
  | _, _, _ => none
noncomputable def specs_model_Task : List (FuncId × Bool × Spec) := (12, false, model_Task.spec) :: specs_ref_EventOf
noncomputable def cx_ref_Task : Cx U0 (Rr U0) := cxOf specs_model_Task
noncomputable def ref_Task.spec : Spec := fun args st K => match args, st.box, st.nt with
  | [.int .i64 z], [], 0 => (some (taskB z)).bind fun v => K (.ret (.bool v)) (lcRet [] [] 0)
  | _, _, _ => none
noncomputable def specs_ref_Task : List (FuncId × Bool × Spec) := (13, false, ref_Task.spec) :: specs_model_Task
noncomputable def cx_model_Works : Cx U0 (Rr U0) := cxOf specs_ref_Task
noncomputable def model_Works.spec : Spec := fun args st K => match args, st.box, st.nt with
  | [.int .i64 z], [], 0 => (some (worksB z)).bind fun v => K (.ret (.bool v)) (lcRet [] [] 0)
  | _, _, _ => none
noncomputable def specs_model_Works : List (FuncId × Bool × Spec) := (16, false, model_Works.spec) :: specs_ref_Task
noncomputable def cx_ref_works : Cx U0 (Rr U0) := cxOf specs_model_Works
noncomputable def ref_works.spec : Spec := fun args st K => match args, st.box, st.nt with
  | [.int .i64 z], [], 0 => (some (worksB z)).bind fun v => K (.ret (.bool v)) (lcRet [] [] 0)
  | _, _, _ => none
noncomputable def specs_ref_works : List (FuncId × Bool × Spec) := (18, false, ref_works.spec) :: specs_model_Works
noncomputable def cx_slices_IndexI : Cx U0 (Rr U0) := cxOf specs_ref_works
noncomputable def slices_IndexI.spec : Spec := fun args st K => match args, st.box, st.nt with
  | [.sl (.int .i64) a .no, .int .i64 z], [], 0 => (if a.length ≤ 1000 then some (hasZ z a 0) else none).bind fun v => K (.ret (.int .i64 v)) (lcRet [] [] 0)
  | _, _, _ => none
noncomputable def specs_slices_IndexI : List (FuncId × Bool × Spec) := (20, false, slices_IndexI.spec) :: specs_ref_works
noncomputable def cx_slices_ContainsI : Cx U0 (Rr U0) := cxOf specs_slices_IndexI
noncomputable def slices_ContainsI.spec : Spec := fun args st K => match args, st.box, st.nt with
  | [.sl (.int .i64) a .no, .int .i64 z], [], 0 => (if a.length ≤ 1000 then some (decide (0 ≤ hasZ z a 0)) else none).bind fun v => K (.ret (.bool v)) (lcRet [] [] 0)
  | _, _, _ => none
noncomputable def specs_slices_ContainsI : List (FuncId × Bool × Spec) := (17, false, slices_ContainsI.spec) :: specs_slices_IndexI
noncomputable def cx_model_Events : Cx U0 (Rr U0) := cxOf specs_slices_ContainsI
noncomputable def model_Events.spec : Spec := fun args st K => match args, st.box, st.nt with
  | [.int .i64 k, .int .i64 e], [], 0 => (some (evsB k e)).bind fun v => K (.ret (.bool v)) (lcRet [] [] 0)
  | _, _, _ => none
noncomputable def specs_model_Events : List (FuncId × Bool × Spec) := (8, false, model_Events.spec) :: specs_slices_ContainsI
noncomputable def cx_ref_Events : Cx U0 (Rr U0) := cxOf specs_model_Events
noncomputable def ref_Events.spec : Spec := fun args st K => match args, st.box, st.nt with
  | [.int .i64 k, .int .i64 e], [], 0 => (some (evsB k e)).bind fun v => K (.ret (.bool v)) (lcRet [] [] 0)
  | _, _, _ => none
noncomputable def specs_ref_Events : List (FuncId × Bool × Spec) := (9, false, ref_Events.spec) :: specs_model_Events
noncomputable def cx_model_FileEvent : Cx U0 (Rr U0) := cxOf specs_ref_Events
noncomputable def model_FileEvent.spec : Spec := fun args st K => match args, st.box, st.nt with
  | [.int .i64 e], [], 0 => (some (fileB e)).bind fun v => K (.ret (.bool v)) (lcRet [] [] 0)
  | _, _, _ => none
noncomputable def specs_model_FileEvent : List (FuncId × Bool × Spec) := (10, false, model_FileEvent.spec) :: specs_ref_Events
noncomputable def cx_ref_FileEvent : Cx U0 (Rr U0) := cxOf specs_model_FileEvent
noncomputable def ref_FileEvent.spec : Spec := fun args st K => match args, st.box, st.nt with
  | [.int .i64 e], [], 0 => (some (fileB e)).bind fun v => K (.ret (.bool v)) (lcRet [] [] 0)
  | _, _, _ => none
noncomputable def specs_ref_FileEvent : List (FuncId × Bool × Spec) := (11, false, ref_FileEvent.spec) :: specs_model_FileEvent
noncomputable def cx_law_awake : Cx U0 (Rr U0) := cxOf specs_ref_FileEvent
noncomputable def law_awake.spec : Spec := fun args st K => match args, st.box, st.nt with
  | [], [], 0 => (some true).bind fun v => K (.ret (.bool v)) (lcRet [] [] 0)
  | _, _, _ => none
noncomputable def specs_law_awake : List (FuncId × Bool × Spec) := (14, false, law_awake.spec) :: specs_ref_FileEvent
noncomputable def cx_law_Events : Cx U0 (Rr U0) := cxOf specs_law_awake
noncomputable def law_Events.spec : Spec := fun args st K => match args, st.box, st.nt with
  | [.int .i64 k, .int .i64 e, .str s], [], 0 => (some true).bind fun v => K (.ret (.bool v)) (lcRet [] [] 0)
  | _, _, _ => none
noncomputable def specs_law_Events : List (FuncId × Bool × Spec) := (3, false, law_Events.spec) :: specs_law_awake
end Go.Proofs.YtfeidigongckhaaGreatDoor.Ev
end
section
/- What each function comes to, one step of it at a time: the kernel's own reckoning. -/
set_option linter.unusedVariables false
set_option maxRecDepth 100000
namespace Go.Proofs.YtfeidigongckhaaGreatDoor.Ev
open Go Go.RowKit
def model_EventName.bs : List Nat := []
theorem model_EventName.top (n : Nat) (z : Int) : callX false (fnF cx_model_EventName noCalls n 6) ([AVal.int IntKind.i64 z]) (lcSt ([]) (0 : Nat)) out = (if (if decide (z < (0 : Int)) = true then true else decide (z ≥ (28 : Int))) = true then some (Res.ret (AVal.str (ByteArray.mk #[])), lcRet ([]) ([]) ((0 : Nat))) else (if z = (↑(27 : Nat) : Int) then some (Res.ret (AVal.str (ByteArray.mk #[(114 : UInt8), (101 : UInt8), (109 : UInt8), (111 : UInt8), (118 : UInt8), (101 : UInt8), (82 : UInt8), (101 : UInt8), (102 : UInt8), (101 : UInt8), (114 : UInt8), (101 : UInt8), (110 : UInt8), (99 : UInt8), (101 : UInt8)])), lcRet ([]) ([]) ((0 : Nat))) else (if z = (↑(26 : Nat) : Int) then some (Res.ret (AVal.str (ByteArray.mk #[(97 : UInt8), (100 : UInt8), (100 : UInt8), (82 : UInt8), (101 : UInt8), (102 : UInt8), (101 : UInt8), (114 : UInt8), (101 : UInt8), (110 : UInt8), (99 : UInt8), (101 : UInt8)])), lcRet ([]) ([]) ((0 : Nat))) else (if z = (↑(25 : Nat) : Int) then some (Res.ret (AVal.str (ByteArray.mk #[(114 : UInt8), (101 : UInt8), (109 : UInt8), (111 : UInt8), (118 : UInt8), (101 : UInt8), (67 : UInt8), (104 : UInt8), (105 : UInt8), (108 : UInt8), (100 : UInt8)])), lcRet ([]) ([]) ((0 : Nat))) else (if z = (↑(24 : Nat) : Int) then some (Res.ret (AVal.str (ByteArray.mk #[(97 : UInt8), (100 : UInt8), (100 : UInt8), (67 : UInt8), (104 : UInt8), (105 : UInt8), (108 : UInt8), (100 : UInt8)])), lcRet ([]) ([]) ((0 : Nat))) else (if z = (↑(23 : Nat) : Int) then some (Res.ret (AVal.str (ByteArray.mk #[(100 : UInt8), (101 : UInt8), (108 : UInt8), (101 : UInt8), (116 : UInt8), (101 : UInt8)])), lcRet ([]) ([]) ((0 : Nat))) else (if z = (↑(22 : Nat) : Int) then some (Res.ret (AVal.str (ByteArray.mk #[(117 : UInt8), (112 : UInt8), (100 : UInt8), (97 : UInt8), (116 : UInt8), (101 : UInt8)])), lcRet ([]) ([]) ((0 : Nat))) else (if z = (↑(21 : Nat) : Int) then some (Res.ret (AVal.str (ByteArray.mk #[(114 : UInt8), (101 : UInt8), (112 : UInt8), (108 : UInt8), (97 : UInt8), (99 : UInt8), (101 : UInt8)])), lcRet ([]) ([]) ((0 : Nat))) else (if z = (↑(20 : Nat) : Int) then some (Res.ret (AVal.str (ByteArray.mk #[])), lcRet ([]) ([]) ((0 : Nat))) else (if z = (↑(19 : Nat) : Int) then some (Res.ret (AVal.str (ByteArray.mk #[])), lcRet ([]) ([]) ((0 : Nat))) else (if z = (↑(18 : Nat) : Int) then some (Res.ret (AVal.str (ByteArray.mk #[(99 : UInt8), (108 : UInt8), (111 : UInt8), (115 : UInt8), (101 : UInt8)])), lcRet ([]) ([]) ((0 : Nat))) else (if z = (↑(17 : Nat) : Int) then some (Res.ret (AVal.str (ByteArray.mk #[(111 : UInt8), (99 : UInt8), (99 : UInt8), (117 : UInt8), (114 : UInt8)])), lcRet ([]) ([]) ((0 : Nat))) else (if z = (↑(16 : Nat) : Int) then some (Res.ret (AVal.str (ByteArray.mk #[(112 : UInt8), (97 : UInt8), (114 : UInt8), (101 : UInt8), (110 : UInt8), (116 : UInt8), (82 : UInt8), (101 : UInt8), (115 : UInt8), (117 : UInt8), (109 : UInt8), (101 : UInt8)])), lcRet ([]) ([]) ((0 : Nat))) else (if z = (↑(15 : Nat) : Int) then some (Res.ret (AVal.str (ByteArray.mk #[(112 : UInt8), (97 : UInt8), (114 : UInt8), (101 : UInt8), (110 : UInt8), (116 : UInt8), (83 : UInt8), (117 : UInt8), (115 : UInt8), (112 : UInt8), (101 : UInt8), (110 : UInt8), (100 : UInt8)])), lcRet ([]) ([]) ((0 : Nat))) else (if z = (↑(14 : Nat) : Int) then some (Res.ret (AVal.str (ByteArray.mk #[(112 : UInt8), (97 : UInt8), (114 : UInt8), (101 : UInt8), (110 : UInt8), (116 : UInt8), (84 : UInt8), (101 : UInt8), (114 : UInt8), (109 : UInt8), (105 : UInt8), (110 : UInt8), (97 : UInt8), (116 : UInt8), (101 : UInt8)])), lcRet ([]) ([]) ((0 : Nat))) else (if z = (↑(13 : Nat) : Int) then some (Res.ret (AVal.str (ByteArray.mk #[(101 : UInt8), (120 : UInt8), (105 : UInt8), (116 : UInt8)])), lcRet ([]) ([]) ((0 : Nat))) else (if z = (↑(12 : Nat) : Int) then some (Res.ret (AVal.str (ByteArray.mk #[(116 : UInt8), (101 : UInt8), (114 : UInt8), (109 : UInt8), (105 : UInt8), (110 : UInt8), (97 : UInt8), (116 : UInt8), (101 : UInt8)])), lcRet ([]) ([]) ((0 : Nat))) else (if z = (↑(11 : Nat) : Int) then some (Res.ret (AVal.str (ByteArray.mk #[(114 : UInt8), (101 : UInt8), (115 : UInt8), (117 : UInt8), (109 : UInt8), (101 : UInt8)])), lcRet ([]) ([]) ((0 : Nat))) else (if z = (↑(10 : Nat) : Int) then some (Res.ret (AVal.str (ByteArray.mk #[(115 : UInt8), (117 : UInt8), (115 : UInt8), (112 : UInt8), (101 : UInt8), (110 : UInt8), (100 : UInt8)])), lcRet ([]) ([]) ((0 : Nat))) else (if z = (↑(9 : Nat) : Int) then some (Res.ret (AVal.str (ByteArray.mk #[(114 : UInt8), (101 : UInt8), (97 : UInt8), (99 : UInt8), (116 : UInt8), (105 : UInt8), (118 : UInt8), (97 : UInt8), (116 : UInt8), (101 : UInt8)])), lcRet ([]) ([]) ((0 : Nat))) else (if z = (↑(8 : Nat) : Int) then some (Res.ret (AVal.str (ByteArray.mk #[(102 : UInt8), (97 : UInt8), (117 : UInt8), (108 : UInt8), (116 : UInt8)])), lcRet ([]) ([]) ((0 : Nat))) else (if z = (↑(7 : Nat) : Int) then some (Res.ret (AVal.str (ByteArray.mk #[(99 : UInt8), (111 : UInt8), (109 : UInt8), (112 : UInt8), (108 : UInt8), (101 : UInt8), (116 : UInt8), (101 : UInt8)])), lcRet ([]) ([]) ((0 : Nat))) else (if z = (↑(6 : Nat) : Int) then some (Res.ret (AVal.str (ByteArray.mk #[(109 : UInt8), (97 : UInt8), (110 : UInt8), (117 : UInt8), (97 : UInt8), (108 : UInt8), (83 : UInt8), (116 : UInt8), (97 : UInt8), (114 : UInt8), (116 : UInt8)])), lcRet ([]) ([]) ((0 : Nat))) else (if z = (↑(5 : Nat) : Int) then some (Res.ret (AVal.str (ByteArray.mk #[(115 : UInt8), (116 : UInt8), (97 : UInt8), (114 : UInt8), (116 : UInt8)])), lcRet ([]) ([]) ((0 : Nat))) else (if z = (↑(4 : Nat) : Int) then some (Res.ret (AVal.str (ByteArray.mk #[(114 : UInt8), (101 : UInt8), (101 : UInt8), (110 : UInt8), (97 : UInt8), (98 : UInt8), (108 : UInt8), (101 : UInt8)])), lcRet ([]) ([]) ((0 : Nat))) else (if z = (↑(3 : Nat) : Int) then some (Res.ret (AVal.str (ByteArray.mk #[(100 : UInt8), (105 : UInt8), (115 : UInt8), (97 : UInt8), (98 : UInt8), (108 : UInt8), (101 : UInt8)])), lcRet ([]) ([]) ((0 : Nat))) else (if z = (↑(2 : Nat) : Int) then some (Res.ret (AVal.str (ByteArray.mk #[(101 : UInt8), (110 : UInt8), (97 : UInt8), (98 : UInt8), (108 : UInt8), (101 : UInt8)])), lcRet ([]) ([]) ((0 : Nat))) else (if z = (↑(1 : Nat) : Int) then some (Res.ret (AVal.str (ByteArray.mk #[(99 : UInt8), (114 : UInt8), (101 : UInt8), (97 : UInt8), (116 : UInt8), (101 : UInt8)])), lcRet ([]) ([]) ((0 : Nat))) else (if z = (↑(0 : Nat) : Int) then some (Res.ret (AVal.str (ByteArray.mk #[])), lcRet ([]) ([]) ((0 : Nat))) else none))))))))))))))))))))))))))))) := by kernel_rfl


def ref_works.bs : List Nat := []
theorem ref_works.top (n : Nat) (z : Int) : callX false (fnF cx_ref_works noCalls n 18) ([AVal.int IntKind.i64 z]) (lcSt ([]) (0 : Nat)) out = (if (z == (0 : Int)) = true then some (Res.ret (AVal.bool true), lcRet ([]) ([]) ((0 : Nat))) else some (Res.ret (AVal.bool (if false = true then true else taskB z)), lcRet ([]) ([]) ((0 : Nat)))) := by kernel_rfl


def law_Events.bs : List Nat := []
theorem law_Events.top (n : Nat) (k : Int) (e : Int) (s : ByteArray) : callX false (fnF cx_law_Events noCalls n 3) ([AVal.int IntKind.i64 k, AVal.int IntKind.i64 e, AVal.str s]) (lcSt ([]) (0 : Nat)) out = (if (if (if seq (nameE e) (nameE e) = true then evOf s == evOf s else false) = true then decide ((1 : Int) ≤ evOf s) == decide ((1 : Int) ≤ evOf s) else false) = true then (if (if true = true then evsB k e == evsB k e else false) = true then (if (if true = true then fileB e == fileB e else false) = true then (if (if true = true then taskB k == taskB k else false) = true then some (Res.ret (AVal.bool true), lcRet ([]) ([]) ((0 : Nat))) else some (Res.ret (AVal.bool false), lcRet ([]) ([]) ((0 : Nat)))) else some (Res.ret (AVal.bool false), lcRet ([]) ([]) ((0 : Nat)))) else some (Res.ret (AVal.bool false), lcRet ([]) ([]) ((0 : Nat)))) else some (Res.ret (AVal.bool false), lcRet ([]) ([]) ((0 : Nat)))) := by kernel_rfl


def ref_names.bs : List Nat := []
theorem ref_names.top (n : Nat)  : callX false (fnF cx_ref_names noCalls n 15) ([]) (lcSt ([]) (0 : Nat)) out = some (Res.ret (AVal.sl Ty.str [ByteArray.mk #[], ByteArray.mk #[(99 : UInt8), (114 : UInt8), (101 : UInt8), (97 : UInt8), (116 : UInt8), (101 : UInt8)], ByteArray.mk #[(101 : UInt8), (110 : UInt8), (97 : UInt8), (98 : UInt8), (108 : UInt8), (101 : UInt8)], ByteArray.mk #[(100 : UInt8), (105 : UInt8), (115 : UInt8), (97 : UInt8), (98 : UInt8), (108 : UInt8), (101 : UInt8)], ByteArray.mk #[(114 : UInt8), (101 : UInt8), (101 : UInt8), (110 : UInt8), (97 : UInt8), (98 : UInt8), (108 : UInt8), (101 : UInt8)], ByteArray.mk #[(115 : UInt8), (116 : UInt8), (97 : UInt8), (114 : UInt8), (116 : UInt8)], ByteArray.mk #[(109 : UInt8), (97 : UInt8), (110 : UInt8), (117 : UInt8), (97 : UInt8), (108 : UInt8), (83 : UInt8), (116 : UInt8), (97 : UInt8), (114 : UInt8), (116 : UInt8)], ByteArray.mk #[(99 : UInt8), (111 : UInt8), (109 : UInt8), (112 : UInt8), (108 : UInt8), (101 : UInt8), (116 : UInt8), (101 : UInt8)], ByteArray.mk #[(102 : UInt8), (97 : UInt8), (117 : UInt8), (108 : UInt8), (116 : UInt8)], ByteArray.mk #[(114 : UInt8), (101 : UInt8), (97 : UInt8), (99 : UInt8), (116 : UInt8), (105 : UInt8), (118 : UInt8), (97 : UInt8), (116 : UInt8), (101 : UInt8)], ByteArray.mk #[(115 : UInt8), (117 : UInt8), (115 : UInt8), (112 : UInt8), (101 : UInt8), (110 : UInt8), (100 : UInt8)], ByteArray.mk #[(114 : UInt8), (101 : UInt8), (115 : UInt8), (117 : UInt8), (109 : UInt8), (101 : UInt8)], ByteArray.mk #[(116 : UInt8), (101 : UInt8), (114 : UInt8), (109 : UInt8), (105 : UInt8), (110 : UInt8), (97 : UInt8), (116 : UInt8), (101 : UInt8)], ByteArray.mk #[(101 : UInt8), (120 : UInt8), (105 : UInt8), (116 : UInt8)], ByteArray.mk #[(112 : UInt8), (97 : UInt8), (114 : UInt8), (101 : UInt8), (110 : UInt8), (116 : UInt8), (84 : UInt8), (101 : UInt8), (114 : UInt8), (109 : UInt8), (105 : UInt8), (110 : UInt8), (97 : UInt8), (116 : UInt8), (101 : UInt8)], ByteArray.mk #[(112 : UInt8), (97 : UInt8), (114 : UInt8), (101 : UInt8), (110 : UInt8), (116 : UInt8), (83 : UInt8), (117 : UInt8), (115 : UInt8), (112 : UInt8), (101 : UInt8), (110 : UInt8), (100 : UInt8)], ByteArray.mk #[(112 : UInt8), (97 : UInt8), (114 : UInt8), (101 : UInt8), (110 : UInt8), (116 : UInt8), (82 : UInt8), (101 : UInt8), (115 : UInt8), (117 : UInt8), (109 : UInt8), (101 : UInt8)], ByteArray.mk #[(111 : UInt8), (99 : UInt8), (99 : UInt8), (117 : UInt8), (114 : UInt8)], ByteArray.mk #[(99 : UInt8), (108 : UInt8), (111 : UInt8), (115 : UInt8), (101 : UInt8)], ByteArray.mk #[], ByteArray.mk #[], ByteArray.mk #[(114 : UInt8), (101 : UInt8), (112 : UInt8), (108 : UInt8), (97 : UInt8), (99 : UInt8), (101 : UInt8)], ByteArray.mk #[(117 : UInt8), (112 : UInt8), (100 : UInt8), (97 : UInt8), (116 : UInt8), (101 : UInt8)], ByteArray.mk #[(100 : UInt8), (101 : UInt8), (108 : UInt8), (101 : UInt8), (116 : UInt8), (101 : UInt8)], ByteArray.mk #[(97 : UInt8), (100 : UInt8), (100 : UInt8), (67 : UInt8), (104 : UInt8), (105 : UInt8), (108 : UInt8), (100 : UInt8)], ByteArray.mk #[(114 : UInt8), (101 : UInt8), (109 : UInt8), (111 : UInt8), (118 : UInt8), (101 : UInt8), (67 : UInt8), (104 : UInt8), (105 : UInt8), (108 : UInt8), (100 : UInt8)], ByteArray.mk #[(97 : UInt8), (100 : UInt8), (100 : UInt8), (82 : UInt8), (101 : UInt8), (102 : UInt8), (101 : UInt8), (114 : UInt8), (101 : UInt8), (110 : UInt8), (99 : UInt8), (101 : UInt8)], ByteArray.mk #[(114 : UInt8), (101 : UInt8), (109 : UInt8), (111 : UInt8), (118 : UInt8), (101 : UInt8), (82 : UInt8), (101 : UInt8), (102 : UInt8), (101 : UInt8), (114 : UInt8), (101 : UInt8), (110 : UInt8), (99 : UInt8), (101 : UInt8)]] Perm.no), lcRet ([]) ([]) ((0 : Nat))) := by kernel_rfl


def slices_IndexI.bs : List Nat := []
noncomputable def slices_IndexI.L0 (n  k0 : Nat) (a : List Int) (z : Int) (x0_0 : List Int) (x1_1 : Int) (x7_2 : Int) (x8_3 : Int) : Option (Rr U0) := loopF cx_slices_IndexI noCalls k0 ((0 : Nat)) ([((0 : Nat), false), ((1 : Nat), false), ((7 : Nat), false), ((8 : Nat), false)]) ((siteC (Tryz.f20.body.getD .skip) [1, 0, 1, 0]).getD .skip) (siteK cx_slices_IndexI noCalls n [] (Tryz.f20.body.getD .skip) [1, 0, 1, 0] (bodyK cx_slices_IndexI Tryz.f20 (lcSt ([]) (0 : Nat)) (callK false slices_IndexI.bs [] (lcSt ([]) (0 : Nat)) out))) (St.mk [((0 : Nat), AVal.sl (Ty.int IntKind.i64) x0_0 Perm.no), ((1 : Nat), AVal.int IntKind.i64 x1_1), ((7 : Nat), AVal.int IntKind.i64 x7_2), ((8 : Nat), AVal.int IntKind.i64 x8_3)] [] [] (0 : Nat) (0 : Nat) (0 : Nat) (0 : Nat) (0 : Nat) (20 : Nat) [] (19 : Nat))
theorem slices_IndexI.L0_s (n  k0 : Nat) (a : List Int) (z : Int) (x0_0 : List Int) (x1_1 : Int) (x7_2 : Int) (x8_3 : Int) : slices_IndexI.L0 n  (k0 + 1) a z x0_0 x1_1 x7_2 x8_3 = (if decide (x8_3 < x7_2) = true then (if (0 : Int) ≤ x8_3 then ((nth x0_0 x8_3.toNat).bind fun v0 => (if (x1_1 == v0) = true then some (Res.ret (AVal.int IntKind.i64 x8_3), lcRet ([]) ([]) ((0 : Nat))) else (slices_IndexI.L0 (n) (k0) (a) (z) (x0_0) (x1_1) (x7_2) (IntKind.i64.wrap (x8_3 + (1 : Int)))))) else none) else some (Res.ret (AVal.int IntKind.i64 (-1 : Int)), lcRet ([]) ([]) ((0 : Nat)))) := by kernel_rfl
theorem slices_IndexI.top (n : Nat) (a : List Int) (z : Int) : callX false (fnF cx_slices_IndexI noCalls n 20) ([AVal.sl (Ty.int IntKind.i64) a Perm.no, AVal.int IntKind.i64 z]) (lcSt ([]) (0 : Nat)) out = (slices_IndexI.L0 (n) (n) (a) (z) (a) (z) ((↑a.length : Int)) ((0 : Int))) := by kernel_rfl


def ref_EventName.bs : List Nat := []
theorem ref_EventName.top (n : Nat) (z : Int) : callX false (fnF cx_ref_EventName noCalls n 7) ([AVal.int IntKind.i64 z]) (lcSt ([]) (0 : Nat)) out = (if decide (z < (0 : Int)) = true then some (Res.ret (AVal.str (ByteArray.mk #[])), lcRet ([]) ([]) ((0 : Nat))) else (if (if false = true then true else decide (z ≥ (28 : Int))) = true then some (Res.ret (AVal.str (ByteArray.mk #[])), lcRet ([]) ([]) ((0 : Nat))) else (if (0 : Int) ≤ z then ((nth [ByteArray.mk #[], ByteArray.mk #[(99 : UInt8), (114 : UInt8), (101 : UInt8), (97 : UInt8), (116 : UInt8), (101 : UInt8)], ByteArray.mk #[(101 : UInt8), (110 : UInt8), (97 : UInt8), (98 : UInt8), (108 : UInt8), (101 : UInt8)], ByteArray.mk #[(100 : UInt8), (105 : UInt8), (115 : UInt8), (97 : UInt8), (98 : UInt8), (108 : UInt8), (101 : UInt8)], ByteArray.mk #[(114 : UInt8), (101 : UInt8), (101 : UInt8), (110 : UInt8), (97 : UInt8), (98 : UInt8), (108 : UInt8), (101 : UInt8)], ByteArray.mk #[(115 : UInt8), (116 : UInt8), (97 : UInt8), (114 : UInt8), (116 : UInt8)], ByteArray.mk #[(109 : UInt8), (97 : UInt8), (110 : UInt8), (117 : UInt8), (97 : UInt8), (108 : UInt8), (83 : UInt8), (116 : UInt8), (97 : UInt8), (114 : UInt8), (116 : UInt8)], ByteArray.mk #[(99 : UInt8), (111 : UInt8), (109 : UInt8), (112 : UInt8), (108 : UInt8), (101 : UInt8), (116 : UInt8), (101 : UInt8)], ByteArray.mk #[(102 : UInt8), (97 : UInt8), (117 : UInt8), (108 : UInt8), (116 : UInt8)], ByteArray.mk #[(114 : UInt8), (101 : UInt8), (97 : UInt8), (99 : UInt8), (116 : UInt8), (105 : UInt8), (118 : UInt8), (97 : UInt8), (116 : UInt8), (101 : UInt8)], ByteArray.mk #[(115 : UInt8), (117 : UInt8), (115 : UInt8), (112 : UInt8), (101 : UInt8), (110 : UInt8), (100 : UInt8)], ByteArray.mk #[(114 : UInt8), (101 : UInt8), (115 : UInt8), (117 : UInt8), (109 : UInt8), (101 : UInt8)], ByteArray.mk #[(116 : UInt8), (101 : UInt8), (114 : UInt8), (109 : UInt8), (105 : UInt8), (110 : UInt8), (97 : UInt8), (116 : UInt8), (101 : UInt8)], ByteArray.mk #[(101 : UInt8), (120 : UInt8), (105 : UInt8), (116 : UInt8)], ByteArray.mk #[(112 : UInt8), (97 : UInt8), (114 : UInt8), (101 : UInt8), (110 : UInt8), (116 : UInt8), (84 : UInt8), (101 : UInt8), (114 : UInt8), (109 : UInt8), (105 : UInt8), (110 : UInt8), (97 : UInt8), (116 : UInt8), (101 : UInt8)], ByteArray.mk #[(112 : UInt8), (97 : UInt8), (114 : UInt8), (101 : UInt8), (110 : UInt8), (116 : UInt8), (83 : UInt8), (117 : UInt8), (115 : UInt8), (112 : UInt8), (101 : UInt8), (110 : UInt8), (100 : UInt8)], ByteArray.mk #[(112 : UInt8), (97 : UInt8), (114 : UInt8), (101 : UInt8), (110 : UInt8), (116 : UInt8), (82 : UInt8), (101 : UInt8), (115 : UInt8), (117 : UInt8), (109 : UInt8), (101 : UInt8)], ByteArray.mk #[(111 : UInt8), (99 : UInt8), (99 : UInt8), (117 : UInt8), (114 : UInt8)], ByteArray.mk #[(99 : UInt8), (108 : UInt8), (111 : UInt8), (115 : UInt8), (101 : UInt8)], ByteArray.mk #[], ByteArray.mk #[], ByteArray.mk #[(114 : UInt8), (101 : UInt8), (112 : UInt8), (108 : UInt8), (97 : UInt8), (99 : UInt8), (101 : UInt8)], ByteArray.mk #[(117 : UInt8), (112 : UInt8), (100 : UInt8), (97 : UInt8), (116 : UInt8), (101 : UInt8)], ByteArray.mk #[(100 : UInt8), (101 : UInt8), (108 : UInt8), (101 : UInt8), (116 : UInt8), (101 : UInt8)], ByteArray.mk #[(97 : UInt8), (100 : UInt8), (100 : UInt8), (67 : UInt8), (104 : UInt8), (105 : UInt8), (108 : UInt8), (100 : UInt8)], ByteArray.mk #[(114 : UInt8), (101 : UInt8), (109 : UInt8), (111 : UInt8), (118 : UInt8), (101 : UInt8), (67 : UInt8), (104 : UInt8), (105 : UInt8), (108 : UInt8), (100 : UInt8)], ByteArray.mk #[(97 : UInt8), (100 : UInt8), (100 : UInt8), (82 : UInt8), (101 : UInt8), (102 : UInt8), (101 : UInt8), (114 : UInt8), (101 : UInt8), (110 : UInt8), (99 : UInt8), (101 : UInt8)], ByteArray.mk #[(114 : UInt8), (101 : UInt8), (109 : UInt8), (111 : UInt8), (118 : UInt8), (101 : UInt8), (82 : UInt8), (101 : UInt8), (102 : UInt8), (101 : UInt8), (114 : UInt8), (101 : UInt8), (110 : UInt8), (99 : UInt8), (101 : UInt8)]] z.toNat).bind fun v0 => some (Res.ret (AVal.str v0), lcRet ([]) ([]) ((0 : Nat)))) else none))) := by kernel_rfl


def slices_ContainsI.bs : List Nat := []
theorem slices_ContainsI.top (n : Nat) (a : List Int) (z : Int) : callX false (fnF cx_slices_ContainsI noCalls n 17) ([AVal.sl (Ty.int IntKind.i64) a Perm.no, AVal.int IntKind.i64 z]) (lcSt ([]) (0 : Nat)) out = ((if a.length ≤ (1000 : Nat) then some (hasZ z a (0 : Int)) else none).bind fun v0 => some (Res.ret (AVal.bool (decide (v0 ≥ (0 : Int)))), lcRet ([]) ([]) ((0 : Nat)))) := by kernel_rfl


def model_EventOf.bs : List Nat := []
noncomputable def model_EventOf.L0 (n  k0 : Nat) (s : ByteArray) (x0_0 : ByteArray) (x4_1 : Int) : Option (Rr U0) := loopF cx_model_EventOf noCalls k0 ((0 : Nat)) ([((0 : Nat), false), ((4 : Nat), false)]) ((siteC (Tryz.f4.body.getD .skip) [1, 0, 1, 0]).getD .skip) (siteK cx_model_EventOf noCalls n [] (Tryz.f4.body.getD .skip) [1, 0, 1, 0] (bodyK cx_model_EventOf Tryz.f4 (lcSt ([]) (0 : Nat)) (callK false model_EventOf.bs [] (lcSt ([]) (0 : Nat)) out))) (St.mk [((0 : Nat), AVal.str x0_0), ((4 : Nat), AVal.int IntKind.i64 x4_1)] [] [] (0 : Nat) (0 : Nat) (0 : Nat) (0 : Nat) (0 : Nat) (4 : Nat) [] (18 : Nat))
theorem model_EventOf.L0_s (n  k0 : Nat) (s : ByteArray) (x0_0 : ByteArray) (x4_1 : Int) : model_EventOf.L0 n  (k0 + 1) s x0_0 x4_1 = (if decide (x4_1 ≤ (27 : Int)) = true then (if (!seq x0_0 (ByteArray.mk #[])) = true then (if (if true = true then seq (nameE x4_1) x0_0 else false) = true then some (Res.ret (AVal.tup [AVal.int IntKind.i64 x4_1, AVal.bool true]), lcRet ([]) ([]) ((0 : Nat))) else (model_EventOf.L0 (n) (k0) (s) (x0_0) (IntKind.i64.wrap (x4_1 + (1 : Int))))) else (model_EventOf.L0 (n) (k0) (s) (x0_0) (IntKind.i64.wrap (x4_1 + (1 : Int))))) else some (Res.ret (AVal.tup [AVal.int IntKind.i64 (0 : Int), AVal.bool false]), lcRet ([]) ([]) ((0 : Nat)))) := by kernel_rfl
theorem model_EventOf.top (n : Nat) (s : ByteArray) : callX false (fnF cx_model_EventOf noCalls n 4) ([AVal.str s]) (lcSt ([]) (0 : Nat)) out = (model_EventOf.L0 (n) (n) (s) (s) ((1 : Int))) := by kernel_rfl


def model_Events.bs : List Nat := []
theorem model_Events.top (n : Nat) (k : Int) (e : Int) : callX false (fnF cx_model_Events noCalls n 8) ([AVal.int IntKind.i64 k, AVal.int IntKind.i64 e]) (lcSt ([]) (0 : Nat)) out = (if worksB k = true then some (Res.ret (AVal.bool (if decide (e ≥ (1 : Int)) = true then decide (e ≤ (16 : Int)) else false)), lcRet ([]) ([]) ((0 : Nat))) else (if (if (if (k != (5 : Int)) = true then k != (6 : Int) else false) = true then k != (7 : Int) else false) = true then some (Res.ret (AVal.bool false), lcRet ([]) ([]) ((0 : Nat))) else some (Res.ret (AVal.bool (decide ((0 : Int) ≤ hasZ e [(1 : Int), (10 : Int), (11 : Int), (12 : Int), (14 : Int), (15 : Int), (16 : Int), (17 : Int)] (0 : Int)))), lcRet ([]) ([]) ((0 : Nat))))) := by kernel_rfl


def ref_EventOf.bs : List Nat := []
noncomputable def ref_EventOf.L0 (n  k0 : Nat) (s : ByteArray) (x0_0 : ByteArray) (x6_1 : List ByteArray) (x7_2 : Int) (x8_3 : Int) : Option (Rr U0) := loopF cx_ref_EventOf noCalls k0 ((0 : Nat)) ([((0 : Nat), false), ((6 : Nat), false), ((7 : Nat), false), ((8 : Nat), false)]) ((siteC (Tryz.f5.body.getD .skip) [1, 0, 1, 0]).getD .skip) (siteK cx_ref_EventOf noCalls n [] (Tryz.f5.body.getD .skip) [1, 0, 1, 0] (bodyK cx_ref_EventOf Tryz.f5 (lcSt ([]) (0 : Nat)) (callK false ref_EventOf.bs [] (lcSt ([]) (0 : Nat)) out))) (St.mk [((0 : Nat), AVal.str x0_0), ((6 : Nat), AVal.sl Ty.str x6_1 Perm.no), ((7 : Nat), AVal.int IntKind.i64 x7_2), ((8 : Nat), AVal.int IntKind.i64 x8_3)] [] [] (0 : Nat) (0 : Nat) (0 : Nat) (0 : Nat) (0 : Nat) (5 : Nat) [] (22 : Nat))
theorem ref_EventOf.L0_s (n  k0 : Nat) (s : ByteArray) (x0_0 : ByteArray) (x6_1 : List ByteArray) (x7_2 : Int) (x8_3 : Int) : ref_EventOf.L0 n  (k0 + 1) s x0_0 x6_1 x7_2 x8_3 = (if decide (x8_3 < x7_2) = true then (if (0 : Int) ≤ x8_3 then ((nth x6_1 x8_3.toNat).bind fun v0 => (if (if (!seq v0 (ByteArray.mk #[])) = true then seq v0 x0_0 else false) = true then some (Res.ret (AVal.tup [AVal.int IntKind.i64 x8_3, AVal.bool true]), lcRet ([]) ([]) ((0 : Nat))) else (ref_EventOf.L0 (n) (k0) (s) (x0_0) (x6_1) (x7_2) (IntKind.i64.wrap (x8_3 + (1 : Int)))))) else none) else some (Res.ret (AVal.tup [AVal.int IntKind.i64 (0 : Int), AVal.bool false]), lcRet ([]) ([]) ((0 : Nat)))) := by kernel_rfl
theorem ref_EventOf.top (n : Nat) (s : ByteArray) : callX false (fnF cx_ref_EventOf noCalls n 5) ([AVal.str s]) (lcSt ([]) (0 : Nat)) out = (ref_EventOf.L0 (n) (n) (s) (s) ([ByteArray.mk #[], ByteArray.mk #[(99 : UInt8), (114 : UInt8), (101 : UInt8), (97 : UInt8), (116 : UInt8), (101 : UInt8)], ByteArray.mk #[(101 : UInt8), (110 : UInt8), (97 : UInt8), (98 : UInt8), (108 : UInt8), (101 : UInt8)], ByteArray.mk #[(100 : UInt8), (105 : UInt8), (115 : UInt8), (97 : UInt8), (98 : UInt8), (108 : UInt8), (101 : UInt8)], ByteArray.mk #[(114 : UInt8), (101 : UInt8), (101 : UInt8), (110 : UInt8), (97 : UInt8), (98 : UInt8), (108 : UInt8), (101 : UInt8)], ByteArray.mk #[(115 : UInt8), (116 : UInt8), (97 : UInt8), (114 : UInt8), (116 : UInt8)], ByteArray.mk #[(109 : UInt8), (97 : UInt8), (110 : UInt8), (117 : UInt8), (97 : UInt8), (108 : UInt8), (83 : UInt8), (116 : UInt8), (97 : UInt8), (114 : UInt8), (116 : UInt8)], ByteArray.mk #[(99 : UInt8), (111 : UInt8), (109 : UInt8), (112 : UInt8), (108 : UInt8), (101 : UInt8), (116 : UInt8), (101 : UInt8)], ByteArray.mk #[(102 : UInt8), (97 : UInt8), (117 : UInt8), (108 : UInt8), (116 : UInt8)], ByteArray.mk #[(114 : UInt8), (101 : UInt8), (97 : UInt8), (99 : UInt8), (116 : UInt8), (105 : UInt8), (118 : UInt8), (97 : UInt8), (116 : UInt8), (101 : UInt8)], ByteArray.mk #[(115 : UInt8), (117 : UInt8), (115 : UInt8), (112 : UInt8), (101 : UInt8), (110 : UInt8), (100 : UInt8)], ByteArray.mk #[(114 : UInt8), (101 : UInt8), (115 : UInt8), (117 : UInt8), (109 : UInt8), (101 : UInt8)], ByteArray.mk #[(116 : UInt8), (101 : UInt8), (114 : UInt8), (109 : UInt8), (105 : UInt8), (110 : UInt8), (97 : UInt8), (116 : UInt8), (101 : UInt8)], ByteArray.mk #[(101 : UInt8), (120 : UInt8), (105 : UInt8), (116 : UInt8)], ByteArray.mk #[(112 : UInt8), (97 : UInt8), (114 : UInt8), (101 : UInt8), (110 : UInt8), (116 : UInt8), (84 : UInt8), (101 : UInt8), (114 : UInt8), (109 : UInt8), (105 : UInt8), (110 : UInt8), (97 : UInt8), (116 : UInt8), (101 : UInt8)], ByteArray.mk #[(112 : UInt8), (97 : UInt8), (114 : UInt8), (101 : UInt8), (110 : UInt8), (116 : UInt8), (83 : UInt8), (117 : UInt8), (115 : UInt8), (112 : UInt8), (101 : UInt8), (110 : UInt8), (100 : UInt8)], ByteArray.mk #[(112 : UInt8), (97 : UInt8), (114 : UInt8), (101 : UInt8), (110 : UInt8), (116 : UInt8), (82 : UInt8), (101 : UInt8), (115 : UInt8), (117 : UInt8), (109 : UInt8), (101 : UInt8)], ByteArray.mk #[(111 : UInt8), (99 : UInt8), (99 : UInt8), (117 : UInt8), (114 : UInt8)], ByteArray.mk #[(99 : UInt8), (108 : UInt8), (111 : UInt8), (115 : UInt8), (101 : UInt8)], ByteArray.mk #[], ByteArray.mk #[], ByteArray.mk #[(114 : UInt8), (101 : UInt8), (112 : UInt8), (108 : UInt8), (97 : UInt8), (99 : UInt8), (101 : UInt8)], ByteArray.mk #[(117 : UInt8), (112 : UInt8), (100 : UInt8), (97 : UInt8), (116 : UInt8), (101 : UInt8)], ByteArray.mk #[(100 : UInt8), (101 : UInt8), (108 : UInt8), (101 : UInt8), (116 : UInt8), (101 : UInt8)], ByteArray.mk #[(97 : UInt8), (100 : UInt8), (100 : UInt8), (67 : UInt8), (104 : UInt8), (105 : UInt8), (108 : UInt8), (100 : UInt8)], ByteArray.mk #[(114 : UInt8), (101 : UInt8), (109 : UInt8), (111 : UInt8), (118 : UInt8), (101 : UInt8), (67 : UInt8), (104 : UInt8), (105 : UInt8), (108 : UInt8), (100 : UInt8)], ByteArray.mk #[(97 : UInt8), (100 : UInt8), (100 : UInt8), (82 : UInt8), (101 : UInt8), (102 : UInt8), (101 : UInt8), (114 : UInt8), (101 : UInt8), (110 : UInt8), (99 : UInt8), (101 : UInt8)], ByteArray.mk #[(114 : UInt8), (101 : UInt8), (109 : UInt8), (111 : UInt8), (118 : UInt8), (101 : UInt8), (82 : UInt8), (101 : UInt8), (102 : UInt8), (101 : UInt8), (114 : UInt8), (101 : UInt8), (110 : UInt8), (99 : UInt8), (101 : UInt8)]]) ((28 : Int)) ((0 : Int))) := by kernel_rfl


def ref_Events.bs : List Nat := []
theorem ref_Events.top (n : Nat) (k : Int) (e : Int) : callX false (fnF cx_ref_Events noCalls n 9) ([AVal.int IntKind.i64 k, AVal.int IntKind.i64 e]) (lcSt ([]) (0 : Nat)) out = (if worksB k = true then some (Res.ret (AVal.bool (if decide (e ≥ (1 : Int)) = true then decide (e ≤ (16 : Int)) else false)), lcRet ([]) ([]) ((0 : Nat))) else (if (if decide (k < (5 : Int)) = true then true else decide (k > (7 : Int))) = true then some (Res.ret (AVal.bool false), lcRet ([]) ([]) ((0 : Nat))) else (if (if (e == (1 : Int)) = true then true else if (e == (10 : Int)) = true then true else if (e == (11 : Int)) = true then true else if (e == (12 : Int)) = true then true else if (e == (14 : Int)) = true then true else if (e == (15 : Int)) = true then true else if (e == (16 : Int)) = true then true else e == (17 : Int)) = true then some (Res.ret (AVal.bool true), lcRet ([]) ([]) ((0 : Nat))) else some (Res.ret (AVal.bool false), lcRet ([]) ([]) ((0 : Nat)))))) := by kernel_rfl


def model_Task.bs : List Nat := []
theorem model_Task.top (n : Nat) (z : Int) : callX false (fnF cx_model_Task noCalls n 12) ([AVal.int IntKind.i64 z]) (lcSt ([]) (0 : Nat)) out = (if (if (z == (1 : Int)) = true then true else if (z == (2 : Int)) = true then true else if (z == (3 : Int)) = true then true else z == (4 : Int)) = true then some (Res.ret (AVal.bool true), lcRet ([]) ([]) ((0 : Nat))) else some (Res.ret (AVal.bool false), lcRet ([]) ([]) ((0 : Nat)))) := by kernel_rfl


def model_FileEvent.bs : List Nat := []
theorem model_FileEvent.top (n : Nat) (e : Int) : callX false (fnF cx_model_FileEvent noCalls n 10) ([AVal.int IntKind.i64 e]) (lcSt ([]) (0 : Nat)) out = some (Res.ret (AVal.bool (if (e == (1 : Int)) = true then true else if decide (e ≥ (21 : Int)) = true then decide (e ≤ (27 : Int)) else false)), lcRet ([]) ([]) ((0 : Nat))) := by kernel_rfl


def ref_Task.bs : List Nat := []
theorem ref_Task.top (n : Nat) (z : Int) : callX false (fnF cx_ref_Task noCalls n 13) ([AVal.int IntKind.i64 z]) (lcSt ([]) (0 : Nat)) out = some (Res.ret (AVal.bool (if decide (z ≥ (1 : Int)) = true then decide (z ≤ (4 : Int)) else false)), lcRet ([]) ([]) ((0 : Nat))) := by kernel_rfl


def ref_FileEvent.bs : List Nat := []
theorem ref_FileEvent.top (n : Nat) (e : Int) : callX false (fnF cx_ref_FileEvent noCalls n 11) ([AVal.int IntKind.i64 e]) (lcSt ([]) (0 : Nat)) out = some (Res.ret (AVal.bool (if (e == (1 : Int)) = true then true else if decide (e ≥ (21 : Int)) = true then decide (e ≤ (27 : Int)) else false)), lcRet ([]) ([]) ((0 : Nat))) := by kernel_rfl


def model_Works.bs : List Nat := []
theorem model_Works.top (n : Nat) (z : Int) : callX false (fnF cx_model_Works noCalls n 16) ([AVal.int IntKind.i64 z]) (lcSt ([]) (0 : Nat)) out = (if (z == (0 : Int)) = true then some (Res.ret (AVal.bool true), lcRet ([]) ([]) ((0 : Nat))) else some (Res.ret (AVal.bool (if false = true then true else taskB z)), lcRet ([]) ([]) ((0 : Nat)))) := by kernel_rfl


end Go.Proofs.YtfeidigongckhaaGreatDoor.Ev
end
section
/- Runs of the evaluator on given data: a function's answer, reckoned. -/
set_option linter.unusedVariables false
namespace Go.Proofs.YtfeidigongckhaaGreatDoor.Ev
open Go Go.RowKit
/-- Calls that are run themselves, so deep. -/
def runR (cx : Cx U0 (Rr U0)) (n : Nat) : Nat → CallR U0 (Rr U0)
  | 0 => noCalls
  | k + 1 => fnF cx (runR cx n k) n
theorem runR_ok {L : List (FuncId × Bool × Spec)} (h : AllOk L) (n : Nat) : ∀ k, Calls.Ok Tryz.prog (cxOf L) (runR (cxOf L) n k)
  | 0 => cok_of h
  | k + 1 => ⟨fun f s hs => extL_ok h f s hs, fun f => (fnF_ok (ok_ext _) (runR_ok h n k) n f).l, fun f args st K r hr => fnF_some (ok_ext _) hr⟩
/-- Does a run end in true? -/
def isTrueR : Option (Rr U0) → Bool
  | some (.ret (.bool true), _) => true
  | _ => false
end Go.Proofs.YtfeidigongckhaaGreatDoor.Ev
end
section
/- The evaluator's trees are the words. -/
set_option linter.unusedVariables false
set_option linter.unusedSimpArgs false
namespace Go.Proofs.YtfeidigongckhaaGreatDoor.Ev
open Go Go.RowKit Go.Proofs.YtfeidigongckhaaGreatDoorW.PrintWords
theorem wrL (i : Int) (h : 0 ≤ i) (h' : i ≤ 1000000) : IntKind.i64.wrap i = i := by rw [wrap_64]; unfold wrap64; omega
theorem nth_at {α : Type} {l : List α} {i : Nat} (h : i < l.length) : nth l i = some l[i] := by rw [nth_get, List.getElem?_eq_getElem h]

theorem model_EventName.ev (z : Int) (v : ByteArray) (h : (some (nameE z)) = some v) : ∃ m, callX false (fnF cx_model_EventName noCalls m 6) [.int .i64 z] (lcSt [] 0) out = some (.ret (.str v), lcRet [] [] 0) := by
  obtain rfl := Option.some.inj h
  refine ⟨0, ?_⟩
  rw [model_EventName.top]
  unfold nameE
  simp only [ite_or, decide_eq_true_eq]
  by_cases h1 : z < 0
  · rw [if_pos (.inl h1), if_pos h1]
  by_cases h2 : 28 ≤ z
  · rw [if_pos (.inr h2), if_neg h1, if_pos h2]
  rw [if_neg (by omega), if_neg h1, if_neg h2]
  have : z = 0 ∨ z = 1 ∨ z = 2 ∨ z = 3 ∨ z = 4 ∨ z = 5 ∨ z = 6 ∨ z = 7 ∨ z = 8 ∨ z = 9 ∨ z = 10 ∨ z = 11 ∨ z = 12 ∨ z = 13 ∨ z = 14 ∨ z = 15 ∨ z = 16 ∨ z = 17 ∨ z = 18 ∨ z = 19 ∨ z = 20 ∨ z = 21 ∨ z = 22 ∨ z = 23 ∨ z = 24 ∨ z = 25 ∨ z = 26 ∨ z = 27 := by omega
  rcases this with rfl | rfl | rfl | rfl | rfl | rfl | rfl | rfl | rfl | rfl | rfl | rfl | rfl | rfl | rfl | rfl | rfl | rfl | rfl | rfl | rfl | rfl | rfl | rfl | rfl | rfl | rfl | rfl <;> rfl
theorem model_EventName.ok : AllOk specs_model_EventName := allOk_cons lib_ok (fnOk_of (by kernel_rfl)) (sealed_of (kp := false) (ok_ext _) (cok_of lib_ok) fun args cs n K r h => by
  unfold model_EventName.spec at h
  dsimp only [lcSt] at h
  split at h
  · obtain ⟨v, h1, h2⟩ := bind2 h
    obtain ⟨m, h4⟩ := model_EventName.ev _ v h1
    exact ⟨m, _, _, h4, h2⟩
  · cases h)
theorem ref_names.ev  (v : List (ByteArray)) (h : (some evNames) = some v) : ∃ m, callX false (fnF cx_ref_names noCalls m 15) [] (lcSt [] 0) out = some (.ret (.sl .str (v) .no), lcRet [] [] 0) := by
  obtain rfl := Option.some.inj h
  exact ⟨0, ref_names.top 0⟩
theorem ref_names.ok : AllOk specs_ref_names := allOk_cons model_EventName.ok (fnOk_of (by kernel_rfl)) (sealed_of (kp := false) (ok_ext _) (cok_of model_EventName.ok) fun args cs n K r h => by
  unfold ref_names.spec at h
  dsimp only [lcSt] at h
  split at h
  · obtain ⟨v, h1, h2⟩ := bind2 h
    obtain ⟨m, h4⟩ := ref_names.ev  v h1
    exact ⟨m, _, _, h4, h2⟩
  · cases h)
theorem ref_EventName.ev (z : Int) (v : ByteArray) (h : (some (nameE z)) = some v) : ∃ m, callX false (fnF cx_ref_EventName noCalls m 7) [.int .i64 z] (lcSt [] 0) out = some (.ret (.str v), lcRet [] [] 0) := by
  obtain rfl := Option.some.inj h
  refine ⟨0, ?_⟩
  rw [ref_EventName.top]
  unfold nameE
  by_cases h1 : z < 0
  · rw [if_pos (by simpa using h1), if_pos h1]
  by_cases h2 : 28 ≤ z
  · rw [if_neg (by simpa using h1), if_pos (by simpa using h2), if_neg h1, if_pos h2]
  rw [if_neg (by simpa using h1), if_neg (by simpa using h2), if_neg h1, if_neg h2]
  have : z = 0 ∨ z = 1 ∨ z = 2 ∨ z = 3 ∨ z = 4 ∨ z = 5 ∨ z = 6 ∨ z = 7 ∨ z = 8 ∨ z = 9 ∨ z = 10 ∨ z = 11 ∨ z = 12 ∨ z = 13 ∨ z = 14 ∨ z = 15 ∨ z = 16 ∨ z = 17 ∨ z = 18 ∨ z = 19 ∨ z = 20 ∨ z = 21 ∨ z = 22 ∨ z = 23 ∨ z = 24 ∨ z = 25 ∨ z = 26 ∨ z = 27 := by omega
  rcases this with rfl | rfl | rfl | rfl | rfl | rfl | rfl | rfl | rfl | rfl | rfl | rfl | rfl | rfl | rfl | rfl | rfl | rfl | rfl | rfl | rfl | rfl | rfl | rfl | rfl | rfl | rfl | rfl <;> rfl
theorem ref_EventName.ok : AllOk specs_ref_EventName := allOk_cons ref_names.ok (fnOk_of (by kernel_rfl)) (sealed_of (kp := false) (ok_ext _) (cok_of ref_names.ok) fun args cs n K r h => by
  unfold ref_EventName.spec at h
  dsimp only [lcSt] at h
  split at h
  · obtain ⟨v, h1, h2⟩ := bind2 h
    obtain ⟨m, h4⟩ := ref_EventName.ev _ v h1
    exact ⟨m, _, _, h4, h2⟩
  · cases h)
theorem idxE_bd (s : ByteArray) : ∀ (l : List ByteArray) (i : Int), 0 ≤ i → idxE s l i = 0 ∨ (i ≤ idxE s l i ∧ idxE s l i < i + l.length)
  | [], i, h => .inl rfl
  | x :: r, i, h => by
    unfold idxE
    split
    · right; simp only [List.length_cons]; omega
    · rcases idxE_bd s r (i + 1) (by omega) with h1 | h1
      · exact .inl h1
      · right; simp only [List.length_cons]; omega
theorem seq_eq (x y : ByteArray) : (seq x y = true) = (x = y) := by
  rw [seq_list, ByteArray.toList_eq, ByteArray.toList_eq]
  apply propext
  constructor
  · intro h
    cases x; cases y
    congr 1
    exact Array.toList_inj.1 h
  · intro h; rw [h]
theorem nameE_at (i : Nat) (h : i < evNames.length) : nameE i = evNames[i] := by
  have h' : i < 28 := h
  unfold nameE
  rw [if_neg (by omega), if_neg (by omega)]
  have e : ((i : Int)).toNat = i := by omega
  rw [e, List.getD_eq_getElem?_getD, List.getElem?_eq_getElem h]
  rfl
theorem model_EventOf.l_ev (n : Nat) (s : ByteArray) : ∀ (k m i : Nat), 1 ≤ i → i + k = 28 → k + 1 ≤ m → model_EventOf.L0 n m s s (i : Int) = some (.ret (.tup [.int .i64 (idxE s (evNames.drop i) i), .bool (decide (1 ≤ idxE s (evNames.drop i) i))]), lcRet [] [] 0) := by
  intro k
  induction k with
  | zero =>
    intro m i h0 h1 h2
    obtain ⟨m, rfl⟩ : ∃ m', m = m' + 1 := ⟨m - 1, by omega⟩
    obtain rfl : i = 28 := by omega
    rw [model_EventOf.L0_s]
    rfl
  | succ k ih =>
    intro m i h0 h1 h2
    obtain ⟨m, rfl⟩ : ∃ m', m = m' + 1 := ⟨m - 1, by omega⟩
    have hlt : i < evNames.length := by show i < 28; omega
    rw [model_EventOf.L0_s, if_pos (by simp; omega)]
    have e := ih m (i + 1) (by omega) (by omega) (by omega)
    have e1 : IntKind.i64.wrap ((i : Int) + 1) = ((i + 1 : Nat) : Int) := by rw [wrL _ (by omega) (by omega)]; omega
    rw [e1, e, List.drop_eq_getElem_cons hlt, idxE, nameE_at i hlt]
    have e2 : (i : Int) + 1 = ((i + 1 : Nat) : Int) := by omega
    by_cases h3 : seq s (⟨#[]⟩ : ByteArray) = true
    · rw [if_neg (by rw [h3]; decide)]
      rw [if_neg]
      · rw [e2]
      · rintro ⟨h4, h5⟩
        rw [seq_eq] at h5
        rw [h5, h3] at h4
        cases h4
    · have h3' : seq s (⟨#[]⟩ : ByteArray) = false := by simpa using h3
      rw [if_pos (by rw [h3']; rfl)]
      by_cases h4 : seq evNames[i] s = true
      · rw [if_pos (show (if true = true then seq evNames[i] s else false) = true from h4), if_pos ⟨by rw [show evNames[i] = s from by rw [← seq_eq]; exact h4]; exact h3', h4⟩]
        rw [show decide ((1 : Int) ≤ (i : Int)) = true by simp; omega]
      · rw [if_neg (show ¬ (if true = true then seq evNames[i] s else false) = true from h4), if_neg (fun x => h4 x.2), e2]
theorem model_EventOf.ev (s : ByteArray) (v : Int × Bool) (h : (some (evOf s, decide (1 ≤ evOf s))) = some v) : ∃ m, callX false (fnF cx_model_EventOf noCalls m 4) [.str s] (lcSt [] 0) out = some (.ret (.tup [.int .i64 v.1, .bool v.2]), lcRet [] [] 0) := by
  obtain rfl := Option.some.inj h
  refine ⟨28, ?_⟩
  rw [model_EventOf.top]
  exact model_EventOf.l_ev _ s 27 28 1 (by omega) (by omega) (by omega)
theorem model_EventOf.ok : AllOk specs_model_EventOf := allOk_cons ref_EventName.ok (fnOk_of (by kernel_rfl)) (sealed_of (kp := false) (ok_ext _) (cok_of ref_EventName.ok) fun args cs n K r h => by
  unfold model_EventOf.spec at h
  dsimp only [lcSt] at h
  split at h
  · obtain ⟨v, h1, h2⟩ := bind2 h
    obtain ⟨m, h4⟩ := model_EventOf.ev _ v h1
    exact ⟨m, _, _, h4, h2⟩
  · cases h)
theorem ref_EventOf.l_ev (n : Nat) (s : ByteArray) : ∀ (k m i : Nat), i + k = 28 → k + 1 ≤ m → ref_EventOf.L0 n m s s evNames 28 (i : Int) = some (.ret (.tup [.int .i64 (idxE s (evNames.drop i) i), .bool (decide (1 ≤ idxE s (evNames.drop i) i))]), lcRet [] [] 0) := by
  intro k
  induction k with
  | zero =>
    intro m i h1 h2
    obtain ⟨m, rfl⟩ : ∃ m', m = m' + 1 := ⟨m - 1, by omega⟩
    obtain rfl : i = 28 := by omega
    rw [ref_EventOf.L0_s]
    rfl
  | succ k ih =>
    intro m i h1 h2
    obtain ⟨m, rfl⟩ : ∃ m', m = m' + 1 := ⟨m - 1, by omega⟩
    have hlt : i < evNames.length := by show i < 28; omega
    rw [ref_EventOf.L0_s, if_pos (by simp; omega), if_pos (by omega), show ((i : Int)).toNat = i from by omega, nth_at hlt]
    have e := ih m (i + 1) (by omega) (by omega)
    have e1 : IntKind.i64.wrap ((i : Int) + 1) = ((i + 1 : Nat) : Int) := by rw [wrL _ (by omega) (by omega)]; omega
    rw [e1, e, List.drop_eq_getElem_cons hlt, idxE]
    have e2 : (i : Int) + 1 = ((i + 1 : Nat) : Int) := by omega
    simp only [Option.bind_some]
    by_cases h3 : seq evNames[i] (⟨#[]⟩ : ByteArray) = true
    · rw [if_neg (by rw [h3]; simp), if_neg (fun x => by rw [h3] at x; cases x.1), e2]
    · have h3' : seq evNames[i] (⟨#[]⟩ : ByteArray) = false := by simpa using h3
      by_cases h4 : seq evNames[i] s = true
      · rw [if_pos (by rw [h3', h4]; rfl), if_pos ⟨h3', h4⟩]
        rw [show decide ((1 : Int) ≤ (i : Int)) = true by
          cases i with
          | zero => exact absurd (show seq evNames[0] (⟨#[]⟩ : ByteArray) = true from rfl) h3
          | succ j => simp; omega]
      · rw [if_neg (by rw [h3']; simpa using h4), if_neg (fun x => h4 x.2), e2]
theorem ref_EventOf.ev (s : ByteArray) (v : Int × Bool) (h : (some (evOf s, decide (1 ≤ evOf s))) = some v) : ∃ m, callX false (fnF cx_ref_EventOf noCalls m 5) [.str s] (lcSt [] 0) out = some (.ret (.tup [.int .i64 v.1, .bool v.2]), lcRet [] [] 0) := by
  obtain rfl := Option.some.inj h
  refine ⟨29, ?_⟩
  rw [ref_EventOf.top]
  exact ref_EventOf.l_ev _ s 28 29 0 (by omega) (by omega)
theorem ref_EventOf.ok : AllOk specs_ref_EventOf := allOk_cons model_EventOf.ok (fnOk_of (by kernel_rfl)) (sealed_of (kp := false) (ok_ext _) (cok_of model_EventOf.ok) fun args cs n K r h => by
  unfold ref_EventOf.spec at h
  dsimp only [lcSt] at h
  split at h
  · obtain ⟨v, h1, h2⟩ := bind2 h
    obtain ⟨m, h4⟩ := ref_EventOf.ev _ v h1
    exact ⟨m, _, _, h4, h2⟩
  · cases h)
theorem model_Task.ev (z : Int) (v : Bool) (h : (some (taskB z)) = some v) : ∃ m, callX false (fnF cx_model_Task noCalls m 12) [.int .i64 z] (lcSt [] 0) out = some (.ret (.bool v), lcRet [] [] 0) := by
  obtain rfl := Option.some.inj h
  refine ⟨0, ?_⟩
  rw [model_Task.top]
  unfold taskB
  simp only [ite_or, beq_iff_eq]
  by_cases h1 : 1 ≤ z ∧ z ≤ 4
  · rw [if_pos (by omega), decide_eq_true h1]
  · rw [if_neg (by omega), decide_eq_false h1]
theorem model_Task.ok : AllOk specs_model_Task := allOk_cons ref_EventOf.ok (fnOk_of (by kernel_rfl)) (sealed_of (kp := false) (ok_ext _) (cok_of ref_EventOf.ok) fun args cs n K r h => by
  unfold model_Task.spec at h
  dsimp only [lcSt] at h
  split at h
  · obtain ⟨v, h1, h2⟩ := bind2 h
    obtain ⟨m, h4⟩ := model_Task.ev _ v h1
    exact ⟨m, _, _, h4, h2⟩
  · cases h)
theorem ref_Task.ev (z : Int) (v : Bool) (h : (some (taskB z)) = some v) : ∃ m, callX false (fnF cx_ref_Task noCalls m 13) [.int .i64 z] (lcSt [] 0) out = some (.ret (.bool v), lcRet [] [] 0) := by
  obtain rfl := Option.some.inj h
  refine ⟨0, ?_⟩
  rw [ref_Task.top]
  unfold taskB
  rw [show (if decide (z ≥ (1 : Int)) = true then decide (z ≤ (4 : Int)) else false) = decide (1 ≤ z ∧ z ≤ 4) from by
    rw [Bool.eq_iff_iff]
    simp only [ite_and, decide_eq_true_eq]
    try omega]
theorem ref_Task.ok : AllOk specs_ref_Task := allOk_cons model_Task.ok (fnOk_of (by kernel_rfl)) (sealed_of (kp := false) (ok_ext _) (cok_of model_Task.ok) fun args cs n K r h => by
  unfold ref_Task.spec at h
  dsimp only [lcSt] at h
  split at h
  · obtain ⟨v, h1, h2⟩ := bind2 h
    obtain ⟨m, h4⟩ := ref_Task.ev _ v h1
    exact ⟨m, _, _, h4, h2⟩
  · cases h)
theorem model_Works.ev (z : Int) (v : Bool) (h : (some (worksB z)) = some v) : ∃ m, callX false (fnF cx_model_Works noCalls m 16) [.int .i64 z] (lcSt [] 0) out = some (.ret (.bool v), lcRet [] [] 0) := by
  obtain rfl := Option.some.inj h
  refine ⟨0, ?_⟩
  rw [model_Works.top]
  unfold worksB taskB
  by_cases h1 : z = 0
  · subst h1; rfl
  · rw [if_neg (by simpa using h1)]
    rw [show (if false = true then true else decide (1 ≤ z ∧ z ≤ 4)) = decide (0 ≤ z ∧ z ≤ 4) from decide_eq_decide.2 (by omega)]
theorem model_Works.ok : AllOk specs_model_Works := allOk_cons ref_Task.ok (fnOk_of (by kernel_rfl)) (sealed_of (kp := false) (ok_ext _) (cok_of ref_Task.ok) fun args cs n K r h => by
  unfold model_Works.spec at h
  dsimp only [lcSt] at h
  split at h
  · obtain ⟨v, h1, h2⟩ := bind2 h
    obtain ⟨m, h4⟩ := model_Works.ev _ v h1
    exact ⟨m, _, _, h4, h2⟩
  · cases h)
theorem ref_works.ev (z : Int) (v : Bool) (h : (some (worksB z)) = some v) : ∃ m, callX false (fnF cx_ref_works noCalls m 18) [.int .i64 z] (lcSt [] 0) out = some (.ret (.bool v), lcRet [] [] 0) := by
  obtain rfl := Option.some.inj h
  refine ⟨0, ?_⟩
  rw [ref_works.top]
  unfold worksB taskB
  by_cases h1 : z = 0
  · subst h1; rfl
  · rw [if_neg (by simpa using h1)]
    rw [show (if false = true then true else decide (1 ≤ z ∧ z ≤ 4)) = decide (0 ≤ z ∧ z ≤ 4) from decide_eq_decide.2 (by omega)]
theorem ref_works.ok : AllOk specs_ref_works := allOk_cons model_Works.ok (fnOk_of (by kernel_rfl)) (sealed_of (kp := false) (ok_ext _) (cok_of model_Works.ok) fun args cs n K r h => by
  unfold ref_works.spec at h
  dsimp only [lcSt] at h
  split at h
  · obtain ⟨v, h1, h2⟩ := bind2 h
    obtain ⟨m, h4⟩ := ref_works.ev _ v h1
    exact ⟨m, _, _, h4, h2⟩
  · cases h)
theorem slices_IndexI.l_ev (n : Nat) (a0 : List Int) (z0 z : Int) (a : List Int) (ha : a.length ≤ 1000) : ∀ (k m : Nat) (i : Int), 0 ≤ i → k + i = a.length → k + 1 ≤ m → slices_IndexI.L0 n m a0 z0 a z a.length i = some (.ret (.int .i64 (hasZ z (a.drop i.toNat) i)), lcRet [] [] 0) := by
  intro k
  induction k with
  | zero =>
    intro m i h0 h1 h2
    obtain ⟨m, rfl⟩ : ∃ m', m = m' + 1 := ⟨m - 1, by omega⟩
    rw [slices_IndexI.L0_s, List.drop_eq_nil_of_le (by omega)]
    rw [if_neg (by simp; omega)]
    rfl
  | succ k ih =>
    intro m i h0 h1 h2
    obtain ⟨m, rfl⟩ : ∃ m', m = m' + 1 := ⟨m - 1, by omega⟩
    have hlt : i.toNat < a.length := by omega
    rw [slices_IndexI.L0_s, if_pos (by simp; omega), if_pos h0, nth_at hlt, List.drop_eq_getElem_cons hlt, hasZ]
    have e := ih m (i + 1) (by omega) (by omega) (by omega)
    rw [show (i + 1).toNat = i.toNat + 1 from by omega] at e
    rw [wrL (i + 1) (by omega) (by omega), e]
    simp only [Option.bind_some, beq_iff_eq]
    split <;> rfl
theorem slices_IndexI.ev (a : List (Int)) (z : Int) (v : Int) (h : (if a.length ≤ 1000 then some (hasZ z a 0) else none) = some v) : ∃ m, callX false (fnF cx_slices_IndexI noCalls m 20) [.sl (.int .i64) a .no, .int .i64 z] (lcSt [] 0) out = some (.ret (.int .i64 v), lcRet [] [] 0) := by
  refine ⟨a.length + 1, ?_⟩
  rw [slices_IndexI.top]
  split at h
  · rename_i ha
    obtain rfl := Option.some.inj h
    exact slices_IndexI.l_ev _ a z z a ha a.length _ 0 (by omega) (by omega) (Nat.le_refl _)
  · cases h
theorem slices_IndexI.ok : AllOk specs_slices_IndexI := allOk_cons ref_works.ok (fnOk_of (by kernel_rfl)) (sealed_of (kp := false) (ok_ext _) (cok_of ref_works.ok) fun args cs n K r h => by
  unfold slices_IndexI.spec at h
  dsimp only [lcSt] at h
  split at h
  · obtain ⟨v, h1, h2⟩ := bind2 h
    obtain ⟨m, h4⟩ := slices_IndexI.ev _ _ v h1
    exact ⟨m, _, _, h4, h2⟩
  · cases h)
theorem slices_ContainsI.ev (a : List (Int)) (z : Int) (v : Bool) (h : (if a.length ≤ 1000 then some (decide (0 ≤ hasZ z a 0)) else none) = some v) : ∃ m, callX false (fnF cx_slices_ContainsI noCalls m 17) [.sl (.int .i64) a .no, .int .i64 z] (lcSt [] 0) out = some (.ret (.bool v), lcRet [] [] 0) := by
  refine ⟨0, ?_⟩
  rw [slices_ContainsI.top]
  split at h
  · rename_i ha
    obtain rfl := Option.some.inj h
    rw [if_pos ha]
    rfl
  · cases h
theorem slices_ContainsI.ok : AllOk specs_slices_ContainsI := allOk_cons slices_IndexI.ok (fnOk_of (by kernel_rfl)) (sealed_of (kp := false) (ok_ext _) (cok_of slices_IndexI.ok) fun args cs n K r h => by
  unfold slices_ContainsI.spec at h
  dsimp only [lcSt] at h
  split at h
  · obtain ⟨v, h1, h2⟩ := bind2 h
    obtain ⟨m, h4⟩ := slices_ContainsI.ev _ _ v h1
    exact ⟨m, _, _, h4, h2⟩
  · cases h)
theorem model_Events.ev (k : Int) (e : Int) (v : Bool) (h : (some (evsB k e)) = some v) : ∃ m, callX false (fnF cx_model_Events noCalls m 8) [.int .i64 k, .int .i64 e] (lcSt [] 0) out = some (.ret (.bool v), lcRet [] [] 0) := by
  obtain rfl := Option.some.inj h
  refine ⟨0, ?_⟩
  rw [model_Events.top]
  unfold evsB worksB
  by_cases h1 : 0 ≤ k ∧ k ≤ 4
  · rw [if_pos (by simpa using h1), if_pos h1]
    rw [show (if decide (e ≥ (1 : Int)) = true then decide (e ≤ (16 : Int)) else false) = decide (1 ≤ e ∧ e ≤ 16) from by
      rw [Bool.eq_iff_iff]
      simp only [ite_and, decide_eq_true_eq]
      try omega]
  · rw [if_neg (by simpa using h1), if_neg h1]
    by_cases h2 : k < 5 ∨ 7 < k
    · rw [if_pos (by simp only [ite_and, bne_iff_ne]; omega), if_pos h2]
    · rw [if_neg (by simp only [ite_and, bne_iff_ne]; omega), if_neg h2]
      rw [show decide ((0 : Int) ≤ hasZ e [1, 10, 11, 12, 14, 15, 16, 17] 0) = decide (e = 1 ∨ e = 10 ∨ e = 11 ∨ e = 12 ∨ e = 14 ∨ e = 15 ∨ e = 16 ∨ e = 17) from by
        apply decide_eq_decide.2
        simp only [hasZ]
        repeat' split
        all_goals omega]
theorem model_Events.ok : AllOk specs_model_Events := allOk_cons slices_ContainsI.ok (fnOk_of (by kernel_rfl)) (sealed_of (kp := false) (ok_ext _) (cok_of slices_ContainsI.ok) fun args cs n K r h => by
  unfold model_Events.spec at h
  dsimp only [lcSt] at h
  split at h
  · obtain ⟨v, h1, h2⟩ := bind2 h
    obtain ⟨m, h4⟩ := model_Events.ev _ _ v h1
    exact ⟨m, _, _, h4, h2⟩
  · cases h)
theorem ref_Events.ev (k : Int) (e : Int) (v : Bool) (h : (some (evsB k e)) = some v) : ∃ m, callX false (fnF cx_ref_Events noCalls m 9) [.int .i64 k, .int .i64 e] (lcSt [] 0) out = some (.ret (.bool v), lcRet [] [] 0) := by
  obtain rfl := Option.some.inj h
  refine ⟨0, ?_⟩
  rw [ref_Events.top]
  unfold evsB worksB
  by_cases h1 : 0 ≤ k ∧ k ≤ 4
  · rw [if_pos (by simpa using h1), if_pos h1]
    rw [show (if decide (e ≥ (1 : Int)) = true then decide (e ≤ (16 : Int)) else false) = decide (1 ≤ e ∧ e ≤ 16) from by
      rw [Bool.eq_iff_iff]
      simp only [ite_and, decide_eq_true_eq]
      try omega]
  · rw [if_neg (by simpa using h1), if_neg h1]
    by_cases h2 : k < 5 ∨ 7 < k
    · rw [if_pos (by simp only [ite_or, decide_eq_true_eq]; omega), if_pos h2]
    · rw [if_neg (by simp only [ite_or, decide_eq_true_eq]; omega), if_neg h2]
      simp only [ite_or, beq_iff_eq]
      by_cases h3 : e = 1 ∨ e = 10 ∨ e = 11 ∨ e = 12 ∨ e = 14 ∨ e = 15 ∨ e = 16 ∨ e = 17
      · rw [if_pos h3, decide_eq_true h3]
      · rw [if_neg h3, decide_eq_false h3]
theorem ref_Events.ok : AllOk specs_ref_Events := allOk_cons model_Events.ok (fnOk_of (by kernel_rfl)) (sealed_of (kp := false) (ok_ext _) (cok_of model_Events.ok) fun args cs n K r h => by
  unfold ref_Events.spec at h
  dsimp only [lcSt] at h
  split at h
  · obtain ⟨v, h1, h2⟩ := bind2 h
    obtain ⟨m, h4⟩ := ref_Events.ev _ _ v h1
    exact ⟨m, _, _, h4, h2⟩
  · cases h)
theorem model_FileEvent.ev (e : Int) (v : Bool) (h : (some (fileB e)) = some v) : ∃ m, callX false (fnF cx_model_FileEvent noCalls m 10) [.int .i64 e] (lcSt [] 0) out = some (.ret (.bool v), lcRet [] [] 0) := by
  obtain rfl := Option.some.inj h
  refine ⟨0, ?_⟩
  rw [model_FileEvent.top]
  unfold fileB
  rw [show (if (e == (1 : Int)) = true then true else if decide (e ≥ (21 : Int)) = true then decide (e ≤ (27 : Int)) else false) = decide (e = 1 ∨ (21 ≤ e ∧ e ≤ 27)) from by
    rw [Bool.eq_iff_iff]
    simp only [ite_or, ite_and, decide_eq_true_eq, beq_iff_eq]
    try omega]
theorem model_FileEvent.ok : AllOk specs_model_FileEvent := allOk_cons ref_Events.ok (fnOk_of (by kernel_rfl)) (sealed_of (kp := false) (ok_ext _) (cok_of ref_Events.ok) fun args cs n K r h => by
  unfold model_FileEvent.spec at h
  dsimp only [lcSt] at h
  split at h
  · obtain ⟨v, h1, h2⟩ := bind2 h
    obtain ⟨m, h4⟩ := model_FileEvent.ev _ v h1
    exact ⟨m, _, _, h4, h2⟩
  · cases h)
theorem ref_FileEvent.ev (e : Int) (v : Bool) (h : (some (fileB e)) = some v) : ∃ m, callX false (fnF cx_ref_FileEvent noCalls m 11) [.int .i64 e] (lcSt [] 0) out = some (.ret (.bool v), lcRet [] [] 0) := by
  obtain rfl := Option.some.inj h
  refine ⟨0, ?_⟩
  rw [ref_FileEvent.top]
  unfold fileB
  rw [show (if (e == (1 : Int)) = true then true else if decide (e ≥ (21 : Int)) = true then decide (e ≤ (27 : Int)) else false) = decide (e = 1 ∨ (21 ≤ e ∧ e ≤ 27)) from by
    rw [Bool.eq_iff_iff]
    simp only [ite_or, ite_and, decide_eq_true_eq, beq_iff_eq]
    try omega]
theorem ref_FileEvent.ok : AllOk specs_ref_FileEvent := allOk_cons model_FileEvent.ok (fnOk_of (by kernel_rfl)) (sealed_of (kp := false) (ok_ext _) (cok_of model_FileEvent.ok) fun args cs n K r h => by
  unfold ref_FileEvent.spec at h
  dsimp only [lcSt] at h
  split at h
  · obtain ⟨v, h1, h2⟩ := bind2 h
    obtain ⟨m, h4⟩ := ref_FileEvent.ev _ v h1
    exact ⟨m, _, _, h4, h2⟩
  · cases h)
set_option maxRecDepth 100000 in
theorem law_awake.run : callX false (fnF (cxOf specs_lib) (runR (cxOf specs_lib) 60 40) 60 14) [] (lcSt [] 0) out = (fun v => (some (.ret (.bool v), lcRet [] [] 0) : Option (Rr U0))) (true) := by kernel_rfl
theorem law_awake.ok : AllOk specs_law_awake := allOk_cons ref_FileEvent.ok (fnOk_of (by kernel_rfl)) (sealed_of (kp := false) (ok_ext _) (runR_ok lib_ok 60 40) fun args cs n K r h => by
  unfold law_awake.spec at h
  dsimp only [lcSt] at h
  split at h
  · exact ⟨60, _, _, law_awake.run, h⟩
  · cases h)
theorem law_Events.ev (k : Int) (e : Int) (s : ByteArray) (v : Bool) (h : (some true) = some v) : ∃ m, callX false (fnF cx_law_Events noCalls m 3) [.int .i64 k, .int .i64 e, .str s] (lcSt [] 0) out = some (.ret (.bool v), lcRet [] [] 0) := by
  obtain rfl := Option.some.inj h
  refine ⟨0, ?_⟩
  rw [law_Events.top]
  have e : ∀ x : ByteArray, seq x x = true := fun x => by simp [seq]
  simp [e]
theorem law_Events.ok : AllOk specs_law_Events := allOk_cons law_awake.ok (fnOk_of (by kernel_rfl)) (sealed_of (kp := false) (ok_ext _) (cok_of law_awake.ok) fun args cs n K r h => by
  unfold law_Events.spec at h
  dsimp only [lcSt] at h
  split at h
  · obtain ⟨v, h1, h2⟩ := bind2 h
    obtain ⟨m, h4⟩ := law_Events.ev _ _ _ v h1
    exact ⟨m, _, _, h4, h2⟩
  · cases h)
end Go.Proofs.YtfeidigongckhaaGreatDoor.Ev
end
section
/- ModelEvents, as a call from any memory. -/
set_option linter.unusedVariables false
namespace Go.Proofs.YtfeidigongckhaaGreatDoor.Ev
open Go Go.RowKit Go.Proofs.YtfeidigongckhaaGreatDoorW.PrintWords
theorem law_of {f : FuncId} {spec : Spec} {args : List (AVal U0)} {st' : St U0} {w : World} (hs : CallOkL Tryz.prog C0 f spec) (h : spec args (lcSt [] 0) out = some (.ret (.bool true), st')) (hA : Assumed w) (cs : List Value) (ha : RelVs C0 (g0 w) args cs) :
    Calls Tryz.prog f cs.toArray w fun e w' => e = .returned (.bool true) ∧ RowKit.Below w.heap.size w w' :=
  (hs args [] 0 out _ h _ w (g0 w) w cs ha (srel0 hA 0)).mono fun e w' ⟨res, st', g', h1, h2, h3, h4, h5⟩ => by
    refine ⟨?_, below_of' h3⟩
    obtain ⟨rfl, _⟩ := Prod.mk.inj (Option.some.inj h1)
    cases h5 with
    | ret hv => cases hv; rfl
theorem ModelEvents_calls (k e : Int) (s : ByteArray) {w : World} (hA : Assumed w) : Calls Tryz.prog 3 #[.int .i64 k, .int .i64 e, .string s] w fun e w' => e = .returned (.bool true) ∧ RowKit.Below w.heap.size w w' :=
  law_of (spec := law_Events.spec) (args := [.int .i64 k, .int .i64 e, .str s]) (st' := lcRet [] [] 0) (law_Events.ok _ (List.mem_cons_self ..)).2 rfl hA [.int .i64 k, .int .i64 e, .string s] (.cons (.int _ _) (.cons (.int _ _) (.cons (.str _) .nil)))
end Go.Proofs.YtfeidigongckhaaGreatDoor.Ev
end
