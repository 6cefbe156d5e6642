/- Several texts in one, in their order. -/
import Derived.Test.YtbcpnpbkbndkjaaGreatDoorBCheckTruths4
import Derived.Test.YtbcpnpbkbndkjaaGreatDoorBCheckTruths5
import Derived.Shelf.Lays7
import Derived.Shelf.Spec.DecodeRune
import Derived.Shelf.Spec.NilArms
import Derived.Shelf.Small.Strs
import Derived.Shelf.Strings.SlTrimAscii
import Derived.Shelf.Bits.Mul64
import Derived.Shelf.Strings.SplitShaped
import Derived.Shelf.Strings.Shaped
import Derived.Test.YtbcpnpbkbndkjaaGreatDoorProg
import Derived.Shelf.Strings.OnBuilder
import Derived.Tactics
import Derived.WalkKit
import Derived.KernelRfl
import Derived.Laws.NewBlocks
section
/- What the program's library functions are, against the shelf's own bodies: a table of numbers and one theorem for each, by the kernel's comparison. Written by the kit's lay-plain.mjs for this seat. -/
namespace Go.Proofs
open Go.Shelf
def Tryz.layDecodeRune_ren : Go.Shelf.Ren := ⟨fun | 32 => 166 | 49 => 174 | n => n, fun | 30 => 139 | 21 => 21 | 3 => 3 | 0 => 0 | 5 => 5 | 4 => 4 | 33 => 134 | 66 => 173 | 25 => 174 | 69 => 177 | 68 => 176 | n => n, fun | 2 => 0 | 3 => 1 | n => n⟩
theorem Tryz.layDecodeRune : Go.Proofs.Lays7.n32 Tryz.prog Tryz.layDecodeRune_ren := {
  mixed := by kernel_rfl
  f32 := Tryz.func166.trans (congrArg some (by kernel_rfl))
  f49 := Tryz.func174.trans (congrArg some (by kernel_rfl))
  t0 := Tryz.underlying0
  a0 := Tryz.isAgg0
  z0 := Tryz.sizeOf0
  v0 := Tryz.zeroValue0
  i0 := by kernel_rfl
  t3 := Tryz.underlying3
  a3 := Tryz.isAgg3
  z3 := Tryz.sizeOf3
  v3 := Tryz.zeroValue3
  i3 := by kernel_rfl
  t4 := Tryz.underlying4
  a4 := Tryz.isAgg4
  z4 := Tryz.sizeOf4
  v4 := Tryz.zeroValue4
  i4 := by kernel_rfl
  t5 := Tryz.underlying5
  a5 := Tryz.isAgg5
  z5 := Tryz.sizeOf5
  v5 := Tryz.zeroValue5
  i5 := by kernel_rfl
  t21 := Tryz.underlying21
  a21 := Tryz.isAgg21
  z21 := Tryz.sizeOf21
  v21 := Tryz.zeroValue21
  i21 := by kernel_rfl
  t25 := Tryz.underlying174
  a25 := Tryz.isAgg174
  z25 := Tryz.sizeOf174
  v25 := Tryz.zeroValue174
  i25 := by kernel_rfl
  t30 := Tryz.underlying139
  a30 := Tryz.isAgg139
  z30 := Tryz.sizeOf139
  v30 := Tryz.zeroValue139
  i30 := by kernel_rfl
  t33 := Tryz.underlying134
  a33 := Tryz.isAgg134
  z33 := Tryz.sizeOf134
  v33 := Tryz.zeroValue134
  i33 := by kernel_rfl
  t66 := Tryz.underlying173
  a66 := Tryz.isAgg173
  z66 := Tryz.sizeOf173
  t68 := Tryz.underlying176
  a68 := Tryz.isAgg176
  z68 := Tryz.sizeOf176
  v68 := Tryz.zeroValue176
  i68 := by kernel_rfl
  t69 := Tryz.underlying177
  a69 := Tryz.isAgg177
  z69 := Tryz.sizeOf177
  v69 := Tryz.zeroValue177
  i69 := by kernel_rfl
  g2 := by kernel_rfl
  g3 := by kernel_rfl }
def Tryz.layCompare_ren : Go.Shelf.Ren := ⟨fun | 106 => 136 | 213 => 159 | 265 => 173 | n => n, fun | 9 => 9 | 3 => 3 | n => n, fun | n => n⟩
def Tryz.layIndexByte_ren : Go.Shelf.Ren := ⟨fun | 137 => 114 | 217 => 143 | 266 => 165 | n => n, fun | 9 => 9 | 5 => 5 | 3 => 3 | n => n, fun | n => n⟩
theorem Tryz.layIndexByte : Go.Proofs.Lays.n137 Tryz.prog Tryz.layIndexByte_ren := {
  mixed := by kernel_rfl
  f137 := Tryz.func114.trans (congrArg some (by kernel_rfl))
  f217 := Tryz.func143.trans (congrArg some (by kernel_rfl))
  f266 := Tryz.func165.trans (congrArg some (by kernel_rfl))
  t3 := Tryz.underlying3
  a3 := Tryz.isAgg3
  z3 := Tryz.sizeOf3
  v3 := Tryz.zeroValue3
  t5 := Tryz.underlying5
  a5 := Tryz.isAgg5
  z5 := Tryz.sizeOf5
  v5 := Tryz.zeroValue5
  t9 := Tryz.underlying9
  a9 := Tryz.isAgg9
  z9 := Tryz.sizeOf9
  v9 := Tryz.zeroValue9 }
def Tryz.layTrimLeft_ren : Go.Shelf.Ren := ⟨fun | 161 => 36 | 231 => 64 | 227 => 65 | 233 => 66 | 235 => 67 | 228 => 111 | 197 => 112 | 151 => 113 | 260 => 141 | 152 => 142 | 137 => 114 | 119 => 162 | 224 => 163 | 225 => 164 | 217 => 143 | 266 => 165 | n => n, fun | 9 => 9 | 4 => 4 | 3 => 3 | 5 => 5 | 117 => 106 | 116 => 105 | 0 => 0 | 124 => 109 | 105 => 134 | 21 => 21 | 119 => 173 | 46 => 174 | 139 => 177 | 138 => 176 | n => n, fun | 3 => 0 | 4 => 1 | n => n⟩
theorem Tryz.layTrimLeft : Go.Proofs.Lays.n161 Tryz.prog Tryz.layTrimLeft_ren := {
  mixed := by kernel_rfl
  f119 := Tryz.func162.trans (congrArg some (by kernel_rfl))
  f137 := Tryz.func114.trans (congrArg some (by kernel_rfl))
  f151 := Tryz.func113.trans (congrArg some (by kernel_rfl))
  f152 := Tryz.func142.trans (congrArg some (by kernel_rfl))
  f161 := Tryz.func36.trans (congrArg some (by kernel_rfl))
  f197 := Tryz.func112.trans (congrArg some (by kernel_rfl))
  f217 := Tryz.func143.trans (congrArg some (by kernel_rfl))
  f224 := Tryz.func163.trans (congrArg some (by kernel_rfl))
  f225 := Tryz.func164.trans (congrArg some (by kernel_rfl))
  f227 := Tryz.func65.trans (congrArg some (by kernel_rfl))
  f228 := Tryz.func111.trans (congrArg some (by kernel_rfl))
  f231 := Tryz.func64.trans (congrArg some (by kernel_rfl))
  f233 := Tryz.func66.trans (congrArg some (by kernel_rfl))
  f235 := Tryz.func67.trans (congrArg some (by kernel_rfl))
  f260 := Tryz.func141.trans (congrArg some (by kernel_rfl))
  f266 := Tryz.func165.trans (congrArg some (by kernel_rfl))
  t0 := Tryz.underlying0
  a0 := Tryz.isAgg0
  z0 := Tryz.sizeOf0
  v0 := Tryz.zeroValue0
  t3 := Tryz.underlying3
  a3 := Tryz.isAgg3
  z3 := Tryz.sizeOf3
  v3 := Tryz.zeroValue3
  t4 := Tryz.underlying4
  a4 := Tryz.isAgg4
  z4 := Tryz.sizeOf4
  v4 := Tryz.zeroValue4
  t5 := Tryz.underlying5
  a5 := Tryz.isAgg5
  z5 := Tryz.sizeOf5
  v5 := Tryz.zeroValue5
  t9 := Tryz.underlying9
  a9 := Tryz.isAgg9
  z9 := Tryz.sizeOf9
  v9 := Tryz.zeroValue9
  t21 := Tryz.underlying21
  a21 := Tryz.isAgg21
  z21 := Tryz.sizeOf21
  v21 := Tryz.zeroValue21
  t46 := Tryz.underlying174
  a46 := Tryz.isAgg174
  z46 := Tryz.sizeOf174
  v46 := Tryz.zeroValue174
  t105 := Tryz.underlying134
  a105 := Tryz.isAgg134
  z105 := Tryz.sizeOf134
  v105 := Tryz.zeroValue134
  t116 := Tryz.underlying105
  a116 := Tryz.isAgg105
  z116 := Tryz.sizeOf105
  t117 := Tryz.underlying106
  a117 := Tryz.isAgg106
  z117 := Tryz.sizeOf106
  v117 := Tryz.zeroValue106
  t119 := Tryz.underlying173
  a119 := Tryz.isAgg173
  z119 := Tryz.sizeOf173
  t124 := Tryz.underlying109
  a124 := Tryz.isAgg109
  z124 := Tryz.sizeOf109
  v124 := Tryz.zeroValue109
  t138 := Tryz.underlying176
  a138 := Tryz.isAgg176
  z138 := Tryz.sizeOf176
  v138 := Tryz.zeroValue176
  t139 := Tryz.underlying177
  a139 := Tryz.isAgg177
  z139 := Tryz.sizeOf177
  v139 := Tryz.zeroValue177
  g3 := by kernel_rfl
  g4 := by kernel_rfl }
def Tryz.layMul64_ren : Go.Shelf.Ren := ⟨fun | 264 => 161 | n => n, fun | 53 => 138 | 46 => 174 | n => n, fun | n => n⟩
def Tryz.laySplit_ren : Go.Shelf.Ren := ⟨fun | 146 => 87 | 221 => 121 | 268 => 149 | 138 => 150 | 143 => 151 | 195 => 170 | 197 => 112 | 218 => 171 | 219 => 172 | 260 => 141 | 217 => 143 | 225 => 164 | 224 => 163 | 267 => 177 | 266 => 165 | 314 => 178 | n => n, fun | 9 => 9 | 31 => 23 | 3 => 3 | 4 => 4 | 0 => 0 | 105 => 134 | 21 => 21 | 5 => 5 | 46 => 174 | 119 => 173 | 139 => 177 | 138 => 176 | 146 => 189 | 51 => 188 | n => n, fun | 1 => 2 | 3 => 0 | 4 => 1 | n => n⟩
theorem Tryz.laySplit : Go.Proofs.LaysM.n146 Tryz.prog Tryz.laySplit_ren := {
  mixed := by kernel_rfl
  f138 := Tryz.func150.trans (congrArg some (by kernel_rfl))
  f143 := Tryz.func151.trans (congrArg some (by kernel_rfl))
  f146 := Tryz.func87.trans (congrArg some (by kernel_rfl))
  f195 := Tryz.func170.trans (congrArg some (by kernel_rfl))
  f197 := Tryz.func112.trans (congrArg some (by kernel_rfl))
  f217 := Tryz.func143.trans (congrArg some (by kernel_rfl))
  f218 := Tryz.func171.trans (congrArg some (by kernel_rfl))
  f219 := Tryz.func172.trans (congrArg some (by kernel_rfl))
  f221 := Tryz.func121.trans (congrArg some (by kernel_rfl))
  f224 := Tryz.func163.trans (congrArg some (by kernel_rfl))
  f225 := Tryz.func164.trans (congrArg some (by kernel_rfl))
  f260 := Tryz.func141.trans (congrArg some (by kernel_rfl))
  f266 := Tryz.func165.trans (congrArg some (by kernel_rfl))
  f267 := Tryz.func177.trans (congrArg some (by kernel_rfl))
  f268 := Tryz.func149.trans (congrArg some (by kernel_rfl))
  f314 := Tryz.func178.trans (congrArg some (by kernel_rfl))
  t0 := Tryz.underlying0
  a0 := Tryz.isAgg0
  z0 := Tryz.sizeOf0
  v0 := Tryz.zeroValue0
  t3 := Tryz.underlying3
  a3 := Tryz.isAgg3
  z3 := Tryz.sizeOf3
  v3 := Tryz.zeroValue3
  t4 := Tryz.underlying4
  a4 := Tryz.isAgg4
  z4 := Tryz.sizeOf4
  v4 := Tryz.zeroValue4
  t5 := Tryz.underlying5
  a5 := Tryz.isAgg5
  z5 := Tryz.sizeOf5
  v5 := Tryz.zeroValue5
  t9 := Tryz.underlying9
  a9 := Tryz.isAgg9
  z9 := Tryz.sizeOf9
  v9 := Tryz.zeroValue9
  t21 := Tryz.underlying21
  a21 := Tryz.isAgg21
  z21 := Tryz.sizeOf21
  v21 := Tryz.zeroValue21
  t31 := Tryz.underlying23
  a31 := Tryz.isAgg23
  z31 := Tryz.sizeOf23
  v31 := Tryz.zeroValue23
  t46 := Tryz.underlying174
  a46 := Tryz.isAgg174
  z46 := Tryz.sizeOf174
  v46 := Tryz.zeroValue174
  t51 := Tryz.underlying188
  a51 := Tryz.isAgg188
  z51 := Tryz.sizeOf188
  v51 := Tryz.zeroValue188
  t105 := Tryz.underlying134
  a105 := Tryz.isAgg134
  z105 := Tryz.sizeOf134
  v105 := Tryz.zeroValue134
  t119 := Tryz.underlying173
  a119 := Tryz.isAgg173
  z119 := Tryz.sizeOf173
  t138 := Tryz.underlying176
  a138 := Tryz.isAgg176
  z138 := Tryz.sizeOf176
  v138 := Tryz.zeroValue176
  t139 := Tryz.underlying177
  a139 := Tryz.isAgg177
  z139 := Tryz.sizeOf177
  v139 := Tryz.zeroValue177
  t146 := Tryz.underlying189
  a146 := Tryz.isAgg189
  z146 := Tryz.sizeOf189
  v146 := Tryz.zeroValue189
  g1 := by kernel_rfl
  g3 := by kernel_rfl
  g4 := by kernel_rfl
  i0 := by kernel_rfl
  i3 := by kernel_rfl
  i4 := by kernel_rfl
  i5 := by kernel_rfl
  i9 := by kernel_rfl
  i21 := by kernel_rfl
  i31 := by kernel_rfl
  i46 := by kernel_rfl
  i51 := by kernel_rfl
  i105 := by kernel_rfl
  i138 := by kernel_rfl
  i139 := by kernel_rfl
  i146 := by kernel_rfl
  m1 := by kernel_rfl
  s1_3 := fun w h => Go.Proofs.cell_of_shapedOpen_int (zero := #[.int .i64 0]) (t := 3) h (of_decide_eq_true (by kernel_rfl)) (by kernel_rfl) rfl (by kernel_rfl) (by kernel_rfl) Tryz.underlying3
  m3 := by kernel_rfl
  m4 := by kernel_rfl }
def Tryz.layCut_ren : Go.Shelf.Ren := ⟨fun | 145 => 133 | 220 => 157 | 219 => 172 | 217 => 143 | 225 => 164 | 224 => 163 | 267 => 177 | 266 => 165 | 314 => 178 | n => n, fun | 9 => 9 | 4 => 4 | 59 => 150 | 3 => 3 | 5 => 5 | 46 => 174 | 146 => 189 | 51 => 188 | n => n, fun | 1 => 2 | n => n⟩
theorem Tryz.layCut : Go.Proofs.LaysM.n145 Tryz.prog Tryz.layCut_ren := {
  mixed := by kernel_rfl
  f145 := Tryz.func133.trans (congrArg some (by kernel_rfl))
  f217 := Tryz.func143.trans (congrArg some (by kernel_rfl))
  f219 := Tryz.func172.trans (congrArg some (by kernel_rfl))
  f220 := Tryz.func157.trans (congrArg some (by kernel_rfl))
  f224 := Tryz.func163.trans (congrArg some (by kernel_rfl))
  f225 := Tryz.func164.trans (congrArg some (by kernel_rfl))
  f266 := Tryz.func165.trans (congrArg some (by kernel_rfl))
  f267 := Tryz.func177.trans (congrArg some (by kernel_rfl))
  f314 := Tryz.func178.trans (congrArg some (by kernel_rfl))
  t3 := Tryz.underlying3
  a3 := Tryz.isAgg3
  z3 := Tryz.sizeOf3
  v3 := Tryz.zeroValue3
  t4 := Tryz.underlying4
  a4 := Tryz.isAgg4
  z4 := Tryz.sizeOf4
  v4 := Tryz.zeroValue4
  t5 := Tryz.underlying5
  a5 := Tryz.isAgg5
  z5 := Tryz.sizeOf5
  v5 := Tryz.zeroValue5
  t9 := Tryz.underlying9
  a9 := Tryz.isAgg9
  z9 := Tryz.sizeOf9
  v9 := Tryz.zeroValue9
  t46 := Tryz.underlying174
  a46 := Tryz.isAgg174
  z46 := Tryz.sizeOf174
  v46 := Tryz.zeroValue174
  t51 := Tryz.underlying188
  a51 := Tryz.isAgg188
  z51 := Tryz.sizeOf188
  v51 := Tryz.zeroValue188
  t59 := Tryz.underlying150
  a59 := Tryz.isAgg150
  z59 := Tryz.sizeOf150
  v59 := Tryz.zeroValue150
  t146 := Tryz.underlying189
  a146 := Tryz.isAgg189
  z146 := Tryz.sizeOf189
  v146 := Tryz.zeroValue189
  g1 := by kernel_rfl
  i3 := by kernel_rfl
  i4 := by kernel_rfl
  i5 := by kernel_rfl
  i9 := by kernel_rfl
  i46 := by kernel_rfl
  i51 := by kernel_rfl
  i59 := by kernel_rfl
  i146 := by kernel_rfl
  m1 := by kernel_rfl
  s1_3 := fun w h => Go.Proofs.cell_of_shapedOpen_int (zero := #[.int .i64 0]) (t := 3) h (of_decide_eq_true (by kernel_rfl)) (by kernel_rfl) rfl (by kernel_rfl) (by kernel_rfl) Tryz.underlying3 }
end Go.Proofs
end
section
/- What the program's library functions are, against the shelf's own bodies: a table of numbers and one theorem for each, by the kernel's comparison. Written by the kit's lay-plain.mjs for this seat. -/
namespace Go.Proofs
open Go.Shelf
def Tryz.layJoin_ren : Go.Shelf.Ren := ⟨fun | 156 => 117 | 165 => 146 | 166 => 147 | 169 => 148 | 240 => 168 | 241 => 169 | 276 => 175 | 277 => 176 | n => n, fun | 31 => 23 | 9 => 9 | 3 => 3 | 4 => 4 | 0 => 0 | 20 => 20 | 72 => 160 | 76 => 164 | 70 => 158 | 37 => 139 | 75 => 163 | 127 => 184 | 164 => 186 | 5 => 5 | 80 => 116 | n => n, fun | n => n⟩
theorem Tryz.layJoin : Go.Proofs.Lays.n156 Tryz.prog Tryz.layJoin_ren := {
  mixed := by kernel_rfl
  f156 := Tryz.func117.trans (congrArg some (by kernel_rfl))
  f165 := Tryz.func146.trans (congrArg some (by kernel_rfl))
  f166 := Tryz.func147.trans (congrArg some (by kernel_rfl))
  f169 := Tryz.func148.trans (congrArg some (by kernel_rfl))
  f240 := Tryz.func168.trans (congrArg some (by kernel_rfl))
  f241 := Tryz.func169.trans (congrArg some (by kernel_rfl))
  f276 := Tryz.func175.trans (congrArg some (by kernel_rfl))
  f277 := Tryz.func176.trans (congrArg some (by kernel_rfl))
  t0 := Tryz.underlying0
  a0 := Tryz.isAgg0
  z0 := Tryz.sizeOf0
  v0 := Tryz.zeroValue0
  t3 := Tryz.underlying3
  a3 := Tryz.isAgg3
  z3 := Tryz.sizeOf3
  v3 := Tryz.zeroValue3
  t4 := Tryz.underlying4
  a4 := Tryz.isAgg4
  z4 := Tryz.sizeOf4
  v4 := Tryz.zeroValue4
  t9 := Tryz.underlying9
  a9 := Tryz.isAgg9
  z9 := Tryz.sizeOf9
  v9 := Tryz.zeroValue9
  t20 := Tryz.underlying20
  a20 := Tryz.isAgg20
  z20 := Tryz.sizeOf20
  v20 := Tryz.zeroValue20
  t31 := Tryz.underlying23
  a31 := Tryz.isAgg23
  z31 := Tryz.sizeOf23
  v31 := Tryz.zeroValue23
  t37 := Tryz.underlying139
  a37 := Tryz.isAgg139
  z37 := Tryz.sizeOf139
  v37 := Tryz.zeroValue139
  t70 := Tryz.underlying158
  a70 := Tryz.isAgg158
  z70 := Tryz.sizeOf158
  v70 := Tryz.zeroValue158
  t72 := Tryz.underlying160
  a72 := Tryz.isAgg160
  z72 := Tryz.sizeOf160
  v72 := Tryz.zeroValue160
  t75 := Tryz.underlying163
  a75 := Tryz.isAgg163
  z75 := Tryz.sizeOf163
  v75 := Tryz.zeroValue163
  t76 := Tryz.underlying164
  a76 := Tryz.isAgg164
  z76 := Tryz.sizeOf164
  v76 := Tryz.zeroValue164
  t127 := Tryz.underlying184
  a127 := Tryz.isAgg184
  z127 := Tryz.sizeOf184
  v127 := Tryz.zeroValue184
  t164 := Tryz.underlying186
  a164 := Tryz.isAgg186
  z164 := Tryz.sizeOf186
  v164 := Tryz.zeroValue186 }
end Go.Proofs
end
section
/- Go's library functions, as the evaluator asks for them: out of the shelf's contracts. -/
set_option linter.unusedVariables false
set_option linter.unusedSimpArgs false
namespace Go.Proofs.YtbcpnpbkbndkjaaGreatDoor.Ev
open Go Go.RowKit Go.Proofs.YtbcpnpbkbndkjaaGreatDoorH Go.Proofs.YtbcpnpbkbndkjaaGreatDoorW.PrintWords
section
variable {U : Nat → Type} {C : Codec U}
/-! ### strings -/
def trimF : List (AVal U) → Option (AVal U)
 | [.str s,.str t] => (Q.strings_TrimLeft.f s t).bind fun r => some (.str r)
 | _ => none
theorem trim_ok : CallOk (R := Rr U) Tryz.prog C 36 (asExt trimF) := by
 refine callOk_ext fun args v h g w cs ha hi hw => ?_
 unfold trimF at h
 split at h
 · rename_i s t
   obtain ⟨r,h1,h2⟩ := bind2 h
   obtain rfl := Option.some.inj h2
   obtain ⟨c,d,rfl,hc,hd⟩ := RelVs.two ha
   cases hc; cases hd
   unfold Q.strings_TrimLeft.f at h1
   by_cases hc : t.data.toList.all (fun b => decide (b.toNat < 128)) = true ∧ t.size < 4294967281
   · rw [if_pos hc] at h1
     obtain rfl := Option.some.inj h1
     refine (Any.strings_TrimLeft_laid Tryz.layTrimLeft (by kernel_rfl) s t w hc.2 fun j b hb => ?_).mono fun e w' ⟨h3,h4⟩ => ⟨_,h3,h4,.str _⟩
     have := List.all_eq_true.1 hc.1 b (List.mem_of_getElem? hb)
     simpa using this
   · rw [if_neg hc] at h1; cases h1
 · cases h
def indexByteF : List (AVal U) → Option (AVal U)
 | [.str s,.int .u8 x] => (Q.strings_IndexByte.f s x).bind fun r => some (.int .i64 r)
 | _ => none
theorem indexByte_ok : CallOk (R := Rr U) Tryz.prog C 114 (asExt indexByteF) := by
 refine callOk_ext fun args v h g w cs ha hi hw => ?_
 unfold indexByteF at h
 split at h
 · rename_i s x
   obtain ⟨r,h1,h2⟩ := bind2 h
   obtain rfl := Option.some.inj h2
   obtain ⟨c,d,rfl,hc,hd⟩ := RelVs.two ha
   cases hc; cases hd
   obtain rfl := Option.some.inj h1
   exact (Any.strings_IndexByte Tryz.layIndexByte s x w).mono fun e w' ⟨h3,h4⟩ => ⟨_,h3,h4 ▸ Below.refl _ _,.int _ _⟩
 · cases h
theorem join_extra : Builder.Extra Tryz.prog Tryz.layJoin_ren where
 sizeBuilder := by kernel_rfl
 liesBuilder := by kernel_rfl
 t5 := Tryz.underlying5
 a5 := Tryz.isAgg5
 z5 := Tryz.sizeOf5
 v5 := Tryz.zeroValue5
 infoByte := by kernel_rfl
 cellsByte := by kernel_rfl
 sizeByte := by kernel_rfl
 neB5 := by decide
theorem RelVs.strs {g : Gh} : ∀ {l : List ByteArray} {vs : List Value},RelVs C g (cellsAll C .str l) vs → vs = l.map Value.string
 | [],vs,h => by cases h; rfl
 | s :: r,vs,h => by
  cases h with
  | cons hv hs => cases hv; rw [RelVs.strs hs]; rfl
def joinF : List (AVal U) → Option (AVal U)
 | [.sl .str l p,.str s] => (Q.strings_Join.f l s).bind fun r => some (.str r)
 | _ => none
theorem join_ok : CallOk (R := Rr U) Tryz.prog C 117 (asExt joinF) := by
 refine callOk_ext fun args v h g w cs ha hi hw => ?_
 unfold joinF at h
 split at h
 · rename_i l p s
   obtain ⟨r,h1,h2⟩ := bind2 h
   obtain rfl := Option.some.inj h2
   obtain ⟨c,d,rfl,hc,hd⟩ := RelVs.two ha
   cases hd
   unfold Q.strings_Join.f at h1
   by_cases hk : l.length ≤ 140737488355328 ∧ (Lib.join (l.map (·.data.toList)) s.data.toList).length ≤ 140737488355328
   · rw [if_pos hk] at h1
     obtain rfl := Option.some.inj h1
     cases hc with
     | sle => exact (Any.strings_Join_none Tryz.layJoin join_extra (some _) 0 s w).mono fun e w' h3 => ⟨_,h3.1,h3.2 ▸ Below.refl _ _,.str _⟩
     | sl0 => exact (Any.strings_Join_none Tryz.layJoin join_extra none 0 s w).mono fun e w' h3 => ⟨_,h3.1,h3.2 ▸ Below.refl _ _,.str _⟩
     | sl hs hm hl hp =>
      rename_i blk off cap vs
      obtain rfl := RelVs.strs hs
      cases l with
      | nil => exact (Any.strings_Join_none Tryz.layJoin join_extra (some ⟨blk,off,none⟩) cap s w).mono fun e w' h3 => ⟨_,h3.1,h3.2 ▸ Below.refl _ _,.str _⟩
      | cons x0 l0 =>
       have hcell : ∀ (j : Nat) (x : ByteArray),(x0 :: l0)[j]? = some x → w.cell? ⟨blk,off + j,none⟩ = some (.string x) := fun j x hx => hi _ _ _ (hm j (.string x) (by rw [List.getElem?_map,hx]; rfl))
       refine (Any.strings_Join Tryz.layJoin join_extra blk off cap (x0 :: l0) s w hcell ?_ hk.1 hl hk.2).mono fun e w' ⟨h3,h4⟩ => ⟨_,h3,h4,.str _⟩
       have h5 := hcell 0 x0 rfl
       have := World.block_lt_of_cell? w _ h5
       simpa using this
   · rw [if_neg hk] at h1; cases h1
 · cases h
/-! ### Go's decoder -/
set_option maxHeartbeats 2000000 in
set_option maxRecDepth 100000 in
theorem rune_slow_zero (A0 : Option Addr) (c0 : Nat) (w : World) :
 Calls Tryz.prog 174 #[.slice A0 0 c0] w fun e w' => e = .returned (.tuple #[.int .i32 65533,.int .i64 0]) ∧ w' = w := by
 go_enter Tryz.func174,Tryz.ntmps174
 go_wp2
 go_ret2
 exact ⟨rfl,rfl⟩
set_option maxHeartbeats 2000000 in
set_option maxRecDepth 100000 in
theorem rune_zero (A0 : Option Addr) (c0 : Nat) (w : World) :
 Calls Tryz.prog 166 #[.slice A0 0 c0] w fun e w' => e = .returned (.tuple #[.int .i32 65533,.int .i64 0]) ∧ w' = w := by
 go_enter Tryz.func166,Tryz.ntmps166
 go_wp2
 go_loop [8] (fun i => i = .int .i64 0) (fun _ => 0)
 case atStart => rfl
 case round =>
  subst hrel
  go_wp2_with (go_at_call 174; refine (rune_slow_zero _ _ _).mono ?_; rintro e w' ⟨rfl,rfl⟩)
  go_ret2
  exact ⟨rfl,rfl⟩
theorem RelVs.nums {g : Gh} {k : IntKind} : ∀ {l : List Int} {vs : List Value},RelVs C g (cellsAll C (.int k) l) vs → vs = l.map (Value.int k)
 | [],vs,h => by cases h; rfl
 | s :: r,vs,h => by
  cases h with
  | cons hv hs => cases hv; rw [RelVs.nums hs]; rfl
def runeF : List (AVal U) → Option (AVal U)
 | [.sl (.int .u8) l p] => (Q.utf8_DecodeRune.f l).bind fun r => some (.tup [.int .i32 r.1,.int .i64 r.2])
 | _ => none
theorem rune_ok : CallOk (R := Rr U) Tryz.prog C 166 (asExt runeF) := by
 refine callOk_ext fun args v h g w cs ha hi hw => ?_
 unfold runeF at h
 split at h
 · rename_i l p
   obtain ⟨r,h1,h2⟩ := bind2 h
   obtain rfl := Option.some.inj h2
   obtain ⟨c,rfl,hc⟩ := RelVs.one ha
   obtain ⟨w0,hw1,hw2⟩ := hw
   have hL : Laid w := Laid_below hw2.1 hw1
   unfold Q.utf8_DecodeRune.f at h1
   by_cases hb : (l.all fun x => decide (0 ≤ x) && decide (x < 256)) = true
   · rw [if_pos hb] at h1
     obtain rfl := Option.some.inj h1
     have fin : ∀ {a b : Int} {g : Gh},RelV C g (.tup [.int .i32 a,.int .i64 b]) (.tuple #[.int .i32 a,.int .i64 b]) := fun {a b g} => .tup (.cons (.int _ _) (.cons (.int _ _) .nil))
     cases hc with
     | sle => exact (rune_zero (some _) 0 w).mono fun e w' ⟨h3,h4⟩ => ⟨_,h3,h4 ▸ Below.refl _ _,fin⟩
     | sl0 => exact (rune_zero none 0 w).mono fun e w' ⟨h3,h4⟩ => ⟨_,h3,h4 ▸ Below.refl _ _,fin⟩
     | sl hs hm hl hp =>
      rename_i blk off cap vs
      obtain rfl := RelVs.nums hs
      have hsz : (strOfNums l).size = l.length := strOfNums_size l
      cases l with
      | nil => exact (rune_zero (some ⟨blk,off,none⟩) cap w).mono fun e w' ⟨h3,h4⟩ => ⟨_,h3,h4 ▸ Below.refl _ _,fin⟩
      | cons x0 l0 =>
       have hp : ∀ j,j < (strOfNums (x0 :: l0)).size → w.cell? ⟨blk,off + j,none⟩ = some (.int .u8 ((strOfNums (x0 :: l0)).get! j).toNat) := by
        intro j hj
        rw [hsz] at hj
        have hx : (x0 :: l0)[j]? = some (x0 :: l0)[j] := List.getElem?_eq_getElem hj
        rw [hi _ _ _ (hm j (.int .u8 (x0 :: l0)[j]) (by rw [List.getElem?_map,hx]; rfl))]
        have hq : 0 ≤ (x0 :: l0)[j] ∧ (x0 :: l0)[j] < 256 := by
         have := List.all_eq_true.1 hb _ (List.getElem_mem hj)
         simpa using this
        have key : ∀ z : Int,0 ≤ z ∧ z < 256 → some (Value.int .u8 z) = some (Value.int .u8 ((UInt8.ofNat z.toNat).toNat : Int)) := by
         intro z hz
         simp
         omega
        rw [strOfNums_get! (x0 :: l0) j hj]
        exact key _ hq
       have C := Any7.utf8_DecodeRune Tryz.layDecodeRune (strOfNums (x0 :: l0)) blk off cap w hL hp
       rw [hsz] at C
       exact C.mono fun e w' ⟨h3,h4⟩ => ⟨_,h3,h4,fin⟩
   · rw [if_neg hb] at h1; cases h1
 · cases h
/-! ### their words -/
section
variable {R : Type}
def trimS : List (AVal U) → St U → (Res U → St U → Option R) → Option R := fun args st K => match args with
 | [.str s,.str t] => (Q.strings_TrimLeft.f s t).bind fun r => K (.ret (.str r)) st
 | _ => none
def indexByteS : List (AVal U) → St U → (Res U → St U → Option R) → Option R := fun args st K => match args with
 | [.str s,.int .u8 x] => (Q.strings_IndexByte.f s x).bind fun r => K (.ret (.int .i64 r)) st
 | _ => none
def joinS : List (AVal U) → St U → (Res U → St U → Option R) → Option R := fun args st K => match args with
 | [.sl .str l p,.str s] => (Q.strings_Join.f l s).bind fun r => K (.ret (.str r)) st
 | _ => none
def runeS : List (AVal U) → St U → (Res U → St U → Option R) → Option R := fun args st K => match args with
 | [.sl (.int .u8) l p] => (Q.utf8_DecodeRune.f l).bind fun r => K (.ret (.tup [.int .i32 r.1,.int .i64 r.2])) st
 | _ => none
end
theorem callOk_by {f : FuncId} {F : List (AVal U) → Option (AVal U)} {S : List (AVal U) → St U → (Res U → St U → Option (Rr U)) → Option (Rr U)} (h : CallOk (R := Rr U) Tryz.prog C f (asExt F)) (e : ∀ args st K r,S args st K = some r → asExt (R := Rr U) F args st K = some r) : CallOkL Tryz.prog C f S :=
 fun args cs n K r h1 => h args (lcSt cs n) K r (e _ _ _ _ h1)
theorem trimS_ok : CallOkL (R := Rr U) Tryz.prog C 36 trimS := callOk_by trim_ok fun args st K r h => by
 unfold trimS at h
 unfold asExt trimF
 split at h
 · obtain ⟨v,h1,h2⟩ := bind2 h
   simp [h1,h2]
 · cases h
theorem indexByteS_ok : CallOkL (R := Rr U) Tryz.prog C 114 indexByteS := callOk_by indexByte_ok fun args st K r h => by
 unfold indexByteS at h
 unfold asExt indexByteF
 split at h
 · obtain ⟨v,h1,h2⟩ := bind2 h
   simp [h1,h2]
 · cases h
theorem joinS_ok : CallOkL (R := Rr U) Tryz.prog C 117 joinS := callOk_by join_ok fun args st K r h => by
 unfold joinS at h
 unfold asExt joinF
 split at h
 · obtain ⟨v,h1,h2⟩ := bind2 h
   simp [h1,h2]
 · cases h
theorem runeS_ok : CallOkL (R := Rr U) Tryz.prog C 166 runeS := callOk_by rune_ok fun args st K r h => by
 unfold runeS at h
 unfold asExt runeF
 split at h
 · obtain ⟨v,h1,h2⟩ := bind2 h
   simp [h1,h2]
 · cases h
end
end Go.Proofs.YtbcpnpbkbndkjaaGreatDoor.Ev
end
section
/- What the lists of functions share: words of functions, contexts, rounds. -/
set_option linter.unusedVariables false
namespace Go.Proofs.YtbcpnpbkbndkjaaGreatDoor.Ev
open Go
abbrev W : Ty := .pair (.int .i64) (.pair .str (.int .i64))
abbrev Spec := List (AVal U0) → St U0 → (Res U0 → St U0 → Option (Rr U0)) → Option (Rr U0)
def extL : List (FuncId × Bool × Spec) → FuncId → Option (Bool × Spec)
 | [],_ => none
 | s :: r,f => match Nat.beq s.1 f with
  | true => some s.2
  | false => extL r f
noncomputable def cxOf (l : List (FuncId × Bool × Spec)) : Cx U0 (Rr U0) := ⟨TT U0,FT,extL l,live0,C0,eqs0⟩
/-- Functions that call each other. -/
def recL : List (FuncId × Spec) → FuncId → Spec
 | [],_ => fun _ _ _ => none
 | s :: r,f => match Nat.beq s.1 f with
  | true => s.2
  | false => recL r f
open Classical in
/-- What a function with so many rounds at most comes to. -/
noncomputable def lim {α : Type} (X : Nat → Option α) : Option α := if h : ∃ k v,k ≤ 1000000 ∧ X k = some v then X h.choose else none
def specs_lib0 : List (FuncId × Bool × Spec) := [(36,false,trimS),(114,false,indexByteS),(117,false,joinS),(166,false,runeS)]
end Go.Proofs.YtbcpnpbkbndkjaaGreatDoor.Ev
end
section
/- How the evaluator's trees are the functions that were printed: what both proofs share. -/
set_option linter.unusedVariables false
namespace Go.Proofs.YtbcpnpbkbndkjaaGreatDoor.Ev
open Go Go.RowKit Go.Proofs.YtbcpnpbkbndkjaaGreatDoorW.PrintWords

theorem seq_list (x y : ByteArray) : (seq x y = true) = (x.toList = y.toList) := by
  rw [ByteArray.toList_eq, ByteArray.toList_eq]
  unfold seq
  simp
theorem seq_false (x y : ByteArray) : (seq x y = false) = ¬ (x.toList = y.toList) := by
  rw [← seq_list]
  cases seq x y <;> simp
theorem ba_list (l : List UInt8) : (ByteArray.mk ⟨l⟩).toList = l := by rw [ByteArray.toList_eq]
theorem ite_or (c : Prop) [Decidable c] (b : Bool) : ((if c then true else b) = true) = (c ∨ b = true) := by by_cases h : c <;> simp [h]
theorem ite_and (c : Prop) [Decidable c] (b : Bool) : ((if c then b else false) = true) = (c ∧ b = true) := by by_cases h : c <;> simp [h]
theorem wrap_64 (x : Int) : IntKind.i64.wrap x = wrap64 x := by
  unfold wrap64; exact IntKind.wrap_i64 x
theorem bt_eq (s : ByteArray) (i : Int) : Ev.bt s i = Go.Proofs.YtbcpnpbkbndkjaaGreatDoorW.PrintWords.bt s i := rfl
theorem nth_bind {β : Type} (l : List Int) (i : Int) (f : Int → Option β) (h0 : 0 ≤ i) (h1 : i < l.length) : (nth l i.toNat).bind f = f (rd l i) := by
  rw [nth_get]
  unfold rd
  rw [List.getD_eq_getElem?_getD]
  have : i.toNat < l.length := by omega
  rw [List.getElem?_eq_getElem this]
  rfl

theorem toBytes_len (s : ByteArray) : (toBytes s).length = s.size := by
  unfold toBytes
  rw [List.length_map, Array.length_toList]
  rfl
theorem nth_bytes (s : ByteArray) (i : Int) (h0 : 0 ≤ i) (h1 : i < (s.size : Int)) : nth (toBytes s) i.toNat = some (Go.Proofs.YtbcpnpbkbndkjaaGreatDoorW.PrintWords.bt s i) := by
  have hlt : i.toNat < s.size := by omega
  rw [nth_get]
  unfold toBytes Go.Proofs.YtbcpnpbkbndkjaaGreatDoorW.PrintWords.bt
  rw [List.getElem?_map, dif_pos hlt, Array.getElem?_toList]
  have : s.data[i.toNat]? = some (s[i.toNat]'hlt) := by
    rw [Array.getElem?_eq_getElem (by exact hlt)]
    rfl
  rw [this]
  rfl
theorem wrap_8 (x : Int) : IntKind.u8.wrap x = x % 256 := IntKind.wrap_u8 x
theorem wrap_u64_mod (x : Int) : IntKind.u64.wrap (x % 256) = x % 256 := by
  rw [IntKind.wrap_u64]; omega
theorem ofBytes_eq (l : List Int) : ofBytes l = strOfNums l := rfl
theorem false_or_b (b : Bool) : ((if false = true then true else b) = true) = (b = true) := by simp
theorem true_and_b (b : Bool) : ((if true = true then b else false) = true) = (b = true) := by simp
theorem shr_6 (r : Int) : r.fdiv ((2 : Int) ^ min (Int.toNat (6 : Int)) IntKind.i64.bits) = r / 64 := by
  rw [show ((2 : Int) ^ min (Int.toNat (6 : Int)) IntKind.i64.bits) = 64 from by decide]; exact Int.fdiv_eq_ediv_of_nonneg r (by decide)
theorem shr_12 (r : Int) : r.fdiv ((2 : Int) ^ min (Int.toNat (12 : Int)) IntKind.i64.bits) = r / 4096 := by
  rw [show ((2 : Int) ^ min (Int.toNat (12 : Int)) IntKind.i64.bits) = 4096 from by decide]; exact Int.fdiv_eq_ediv_of_nonneg r (by decide)
theorem shr_18 (r : Int) : r.fdiv ((2 : Int) ^ min (Int.toNat (18 : Int)) IntKind.i64.bits) = r / 262144 := by
  rw [show ((2 : Int) ^ min (Int.toNat (18 : Int)) IntKind.i64.bits) = 262144 from by decide]; exact Int.fdiv_eq_ediv_of_nonneg r (by decide)
theorem wrap64_mod (x : Int) : wrap64 (x % 256) = x % 256 := by unfold wrap64; omega
theorem nth_rd (l : List Int) (i : Int) (h0 : 0 ≤ i) (h1 : i < l.length) : nth l i.toNat = some (rd l i) := by
  have := nth_bind l i some h0 h1
  cases e : nth l i.toNat with
  | none => rw [e] at this; cases this
  | some x => rw [e] at this; exact this
theorem nth_strs (l : List ByteArray) (i : Int) (h0 : 0 ≤ i) (h1 : i < l.length) : nth l i.toNat = some (rdOf ByteArray.empty l i) := by
  have hlt : i.toNat < l.length := by omega
  rw [nth_get, List.getElem?_eq_getElem hlt]
  unfold rdOf
  rw [List.getD_eq_getElem?_getD, List.getElem?_eq_getElem hlt]
  rfl
theorem toBytes_eq (s : ByteArray) : toBytes s = Go.Proofs.YtbcpnpbkbndkjaaGreatDoorW.PrintWords.bytesOf s := rfl
theorem toNat0 : Int.toNat 0 = 0 := rfl
theorem toNat1 : Int.toNat 1 = 1 := rfl
theorem toNat2 : Int.toNat 2 = 2 := rfl
theorem nth_rd0 (l : List Int) (h1 : 0 < (l.length : Int)) : nth l 0 = some (rd l 0) := nth_rd l 0 (by omega) h1
theorem bindE {α β : Type} {o : Option α} {f : α → Option β} {v : β} (h : o.bind f = some v) : ∃ a, o = some a ∧ f a = some v := Option.bind_eq_some_iff.1 h
theorem lim_some {α : Type} {X : Nat → Option α} {v : α} (h : lim X = some v) : ∃ k, k ≤ 1000000 ∧ X k = some v := by
  unfold lim at h
  split at h
  · rename_i q
    obtain ⟨v', h1, h2⟩ := q.choose_spec
    exact ⟨_, h1, h⟩
  · cases h
theorem leO_le {α : Type} {X : Nat → Option α} (hm : ∀ k, LeO (X k) (X (k + 1))) {v : α} : ∀ {d k : Nat}, X k = some v → X (k + d) = some v
  | 0, _, h => h
  | d + 1, k, h => hm (k + d) _ (leO_le hm h)
theorem lim_of {α : Type} {X : Nat → Option α} (hm : ∀ k, LeO (X k) (X (k + 1))) {v : α} {k : Nat} (hk : k ≤ 1000000) (h : X k = some v) : lim X = some v := by
  unfold lim
  have q : ∃ k v, k ≤ 1000000 ∧ X k = some v := ⟨k, v, hk, h⟩
  rw [dif_pos q]
  obtain ⟨v', h1, h2⟩ := q.choose_spec
  generalize q.choose = k' at h1 h2
  have e1 := leO_le hm (d := k') h
  have e2 := leO_le hm (d := k) h2
  rw [Nat.add_comm, e1] at e2
  rw [h2, e2]

def AllOk (l : List (FuncId × Bool × Spec)) : Prop := ∀ x ∈ l, FnOk Tryz.prog x.1 ∧ CallOkL Tryz.prog C0 x.1 x.2.2
theorem extL_ok : ∀ {l : List (FuncId × Bool × Spec)}, AllOk l → ∀ f s, extL l f = some s → FnOk Tryz.prog f ∧ CallOkL Tryz.prog C0 f s.2
  | [], _, f, s, h => by cases h
  | x :: r, ha, f, s, h => by
    unfold extL at h
    cases e : Nat.beq x.1 f with
    | true =>
      rw [e] at h
      obtain rfl := Option.some.inj h
      rw [← Nat.eq_of_beq_eq_true e]
      exact ha x (List.mem_cons_self ..)
    | false =>
      rw [e] at h
      exact extL_ok (fun y hy => ha y (List.mem_cons_of_mem _ hy)) f s h

theorem funcs_find {f : FuncId} {fn : Func} (h : FT f = some fn) : Tryz.prog.funcs[f]? = some fn ∧ (fn.name == "runtime.NumGoroutine") = false := ft_ok ft_holds f fn h

theorem ok_ext (e : FuncId → Option (Bool × Spec)) : Ok Tryz.prog (⟨TT U0, FT, e, live0, C0, eqs0⟩ : Cx U0 (Rr U0)) where
  tt := tt_all tt_holds
  codec := codecOf_ok shapes
  eqs := eqs_ok eqs_holds
  ft := fun f fn h => funcs_find h
  mixed := by kernel_rfl

theorem cok_of {l : List (FuncId × Bool × Spec)} (h : AllOk l) : Calls.Ok Tryz.prog (cxOf l) noCalls := noCalls_ok fun f s hs => extL_ok h f s hs

theorem fnOk_of {f : FuncId} (h : ((FT f).bind (·.body)).isSome = true) : FnOk Tryz.prog f := by
  cases e : FT f with
  | none => rw [e] at h; cases h
  | some fn =>
    rw [e] at h
    obtain ⟨h1, h2⟩ := funcs_find e
    exact ⟨fn, h1, h2, h⟩

theorem lib_ok0 : AllOk specs_lib0 := by
  intro x hx
  unfold specs_lib0 at hx
  simp only [List.mem_cons, List.not_mem_nil, or_false] at hx
  rcases hx with rfl | rfl | rfl | rfl
  · exact ⟨fnOk_of (by kernel_rfl), trimS_ok⟩
  · exact ⟨fnOk_of (by kernel_rfl), indexByteS_ok⟩
  · exact ⟨fnOk_of (by kernel_rfl), joinS_ok⟩
  · exact ⟨fnOk_of (by kernel_rfl), runeS_ok⟩

theorem allOk_cons {f : FuncId} {kp : Bool} {S : Spec} {l : List (FuncId × Bool × Spec)} (h : AllOk l) (h1 : FnOk Tryz.prog f) (h2 : CallOkL Tryz.prog C0 f S) : AllOk ((f, kp, S) :: l) := by
  intro x hx
  rcases List.mem_cons.1 hx with rfl | hx
  · exact ⟨h1, h2⟩
  · exact h x hx
theorem recL_ok : ∀ {l : List (FuncId × Spec)} {f : FuncId}, (∀ x ∈ l, FnOk Tryz.prog x.1 ∧ CallOkL Tryz.prog C0 x.1 x.2) → CallOkL Tryz.prog C0 f (recL l f) ∧ ∀ args st K r, recL l f args st K = some r → FnOk Tryz.prog f
  | [], f, _ => ⟨fun args cs n K r h => (by cases h), fun args st K r h => (by cases h)⟩
  | s :: l, f, hl => by
    have ih := recL_ok (l := l) (f := f) fun x hx => hl x (List.mem_cons_of_mem _ hx)
    have e0 : recL (s :: l) f = (match Nat.beq s.1 f with | true => s.2 | false => recL l f) := rfl
    cases e : Nat.beq s.1 f with
    | true =>
      rw [e] at e0
      have h1 := hl s (List.mem_cons_self ..)
      rw [Nat.eq_of_beq_eq_true e] at h1
      rw [e0]
      exact ⟨h1.2, fun _ _ _ _ _ => h1.1⟩
    | false =>
      rw [e] at e0
      rw [e0]
      exact ih
theorem rec_cok {l : List (FuncId × Spec)} {L : List (FuncId × Bool × Spec)} (h : AllOk L) (hl : ∀ x ∈ l, FnOk Tryz.prog x.1 ∧ CallOkL Tryz.prog C0 x.1 x.2) : Calls.Ok Tryz.prog (cxOf L) (recL l) :=
  ⟨fun f s hs => extL_ok h f s hs, fun f => (recL_ok hl).1, fun f args st K r h => (recL_ok hl).2 args st K r h⟩
end Go.Proofs.YtbcpnpbkbndkjaaGreatDoor.Ev
end
section
/- Go's library functions of texts that look for a text: Split, Cut. -/
set_option linter.unusedVariables false
namespace Go.Proofs.YtbcpnpbkbndkjaaGreatDoor.Ev
open Go Go.RowKit
section
variable {U : Nat → Type} {C : Codec U}
def splitW (s sep : ByteArray) : List ByteArray := Lib.splitB sep 0 (Lib.countB s sep) s
def splitF : List (AVal U) → Option (AVal U)
 | [.str s,.str sep] => if s.size < 4294967281 ∧ 1 ≤ sep.size then some (.sl .str (splitW s sep) .exact) else none
 | _ => none
theorem cellsAll_strs : ∀ l : List ByteArray,cellsAll C .str l = l.map fun s => AVal.str s
 | [] => rfl
 | s :: r => by
  have := cellsAll_strs r
  unfold cellsAll at this ⊢
  rw [List.flatMap_cons,this]; rfl
theorem RelVs.ofStrs {g : Gh} : ∀ l : List ByteArray,RelVs C g (l.map fun s => AVal.str s) (l.map Value.string)
 | [] => .nil
 | s :: r => .cons (.str s) (RelVs.ofStrs r)
theorem split_ok : CallOk (R := Rr U) Tryz.prog C 87 (asExt splitF) := by
 refine callOk_ext fun args v h g w cs ha hi hw => ?_
 unfold splitF at h
 split at h
 · rename_i s sep
   split at h
   · rename_i hs
     obtain rfl := Option.some.inj h
     obtain ⟨c,d,rfl,hc,hd⟩ := RelVs.two ha
     cases hc
     cases hd
     obtain ⟨w0,hw1,hw2⟩ := hw
     obtain ⟨m,hm⟩ := (Tryz.laySplit).s1_3 w0 hw2.2
     have hlt := World.block_lt_of_cell? _ _ hm
     have hm' : w.cell? _ = _ := (cell_below hw1 hlt).1.trans hm
     refine (Any.strings_Split { Tryz.laySplit with } (Tryz.laySplit).i9 s sep m w hs.1 hm' hs.2).mono fun e w' ⟨h3,h4⟩ => ?_
     subst h4
     have hb : RowKit.Below w.heap.size w (w.alloc (.cells ((Lib.splitB sep 0 (Lib.countB s sep) s).map Value.string).toArray (Tryz.laySplit_ren.t 9))) := Below.alloc (Below.refl _ _) (Nat.le_refl _) _
     refine ⟨_,h3,hb,?_⟩
     have hlen : (Lib.splitB sep 0 (Lib.countB s sep) s).length = Lib.countB s sep + 1 := Lib.splitB_all sep hs.2 0 _ s rfl
     have := RelV.sl (C := C) (g := g.grow w (w.alloc (.cells ((Lib.splitB sep 0 (Lib.countB s sep) s).map Value.string).toArray (Tryz.laySplit_ren.t 9)))) (t := .str) (l := splitW s sep) (p := .exact) (blk := w.heap.size) (off := 0) (cap := Lib.countB s sep + 1) (vs := (splitW s sep).map Value.string)
      (by rw [cellsAll_strs]; exact RelVs.ofStrs _) (fun j v hv => grow_new (Nat.le_refl _) (by
       rw [World.cell?_alloc_at _ _ _ _ rfl,Nat.zero_add,List.getElem?_toArray]; exact hv)) (by unfold splitW; omega) (show Lib.countB s sep + 1 = _ by unfold splitW; omega)
     unfold splitW at this ⊢
     rw [hlen] at this
     exact this
   · cases h
 · cases h
def cutF : List (AVal U) → Option (AVal U)
 | [.str s,.str sep] => if s.size < 4294967281 then some (.tup [.str ⟨(Lib.cut s.data.toList sep.data.toList).1.toArray⟩,.str ⟨(Lib.cut s.data.toList sep.data.toList).2.1.toArray⟩,.bool (Lib.cut s.data.toList sep.data.toList).2.2]) else none
 | _ => none
theorem cut_ok : CallOk (R := Rr U) Tryz.prog C 133 (asExt cutF) := by
 refine callOk_ext fun args v h g w cs ha hi hw => ?_
 unfold cutF at h
 split at h
 · rename_i s sep
   split at h
   · rename_i hs
     obtain rfl := Option.some.inj h
     obtain ⟨c,d,rfl,hc,hd⟩ := RelVs.two ha
     cases hc
     cases hd
     obtain ⟨w0,hw1,hw2⟩ := hw
     obtain ⟨m,hm⟩ := (Tryz.layCut).s1_3 w0 hw2.2
     have hlt := World.block_lt_of_cell? _ _ hm
     have hm' : w.cell? _ = _ := (cell_below hw1 hlt).1.trans hm
     refine (Any.strings_Cut { Tryz.layCut with } s sep m w hs hm').mono fun e w' ⟨h3,n,h4⟩ => ?_
     subst h4
     exact ⟨_,h3,⟨rfl,rfl,rfl,Nat.le_refl _,fun _ _ => rfl⟩,.tup (.cons (.str _) (.cons (.str _) (.cons (.bool _) .nil)))⟩
   · cases h
 · cases h
section
variable {R : Type}
def splitS : List (AVal U) → St U → (Res U → St U → Option R) → Option R := fun args st K => match args with
 | [.str s,.str sep] => if s.size < 4294967281 ∧ 1 ≤ sep.size then K (.ret (.sl .str (splitW s sep) .exact)) st else none
 | _ => none
def cutS : List (AVal U) → St U → (Res U → St U → Option R) → Option R := fun args st K => match args with
 | [.str s,.str sep] => if s.size < 4294967281 then K (.ret (.tup [.str ⟨(Lib.cut s.data.toList sep.data.toList).1.toArray⟩,.str ⟨(Lib.cut s.data.toList sep.data.toList).2.1.toArray⟩,.bool (Lib.cut s.data.toList sep.data.toList).2.2])) st else none
 | _ => none
end
theorem splitS_ok : CallOkL (R := Rr U) Tryz.prog C 87 splitS := callOk_by split_ok fun args st K r h => by
 unfold splitS at h
 unfold asExt splitF
 split at h
 · split at h
   · rename_i h1
     rw [if_pos h1]; exact h
   · cases h
 · cases h
theorem cutS_ok : CallOkL (R := Rr U) Tryz.prog C 133 cutS := callOk_by cut_ok fun args st K r h => by
 unfold cutS at h
 unfold asExt cutF
 split at h
 · split at h
   · rename_i h1
     rw [if_pos h1]; exact h
   · cases h
 · cases h
end
end Go.Proofs.YtbcpnpbkbndkjaaGreatDoor.Ev
end
section
/- slices.Clone, at each type; and the words that all lists begin with. -/
set_option linter.unusedVariables false
namespace Go.Proofs.YtbcpnpbkbndkjaaGreatDoor.Ev
open Go Go.RowKit
set_option maxRecDepth 100000
def specs_clone : List (FuncId × Bool × Spec) := []
def specs_lib1 : List (FuncId × Bool × Spec) := (87,true,splitS) :: (133,false,cutS) :: specs_lib0
theorem lib_ok1 : AllOk specs_lib1 := allOk_cons (allOk_cons lib_ok0 (fnOk_of (by kernel_rfl)) cutS_ok) (fnOk_of (by kernel_rfl)) splitS_ok
def specs_lib : List (FuncId × Bool × Spec) := specs_lib1 ++ specs_clone
theorem lib_ok : AllOk specs_lib := by
 intro x hx
 rcases List.mem_append.1 hx with hx | hx
 · exact lib_ok1 x hx
 · unfold specs_clone at hx
   cases hx
end Go.Proofs.YtbcpnpbkbndkjaaGreatDoor.Ev
end
section
/- What is known of each function: its word; and the contexts in which it is reckoned. -/
-- prev lib
-- map words %s.map fun x : Q.S69 => (x.f0,x.f1,x.f2)
set_option linter.unusedVariables false
namespace Go.Proofs.YtbcpnpbkbndkjaaGreatDoor.Ev
open Go
noncomputable def cx_chars_Decode : Cx U0 (Rr U0) := cxOf specs_lib
noncomputable def chars_Decode.spec : Spec := fun args st K => match args,st.box,st.nt with
 | [.sl (.int .u8) b .no],[],0 => (Q.chars_Decode.f b).bind fun v => K (.ret (.tup [.int .i64 v.1,.int .i64 v.2])) (lcRet [] [] 0)
 | _,_,_ => none
noncomputable def specs_chars_Decode : List (FuncId × Bool × Spec) := (144,false,chars_Decode.spec) :: specs_lib
noncomputable def cx_chars_in : Cx U0 (Rr U0) := cxOf specs_chars_Decode
noncomputable def chars_in.spec : Spec := fun args st K => match args,st.box,st.nt with
 | [.int .i64 r,.sl (.pair (.int .i64) (.int .i64)) l .no],[],0 => (lim fun k => Q.chars_in.f k r (l.map fun p => ⟨p.1,p.2⟩)).bind fun v => K (.ret (.bool v)) (lcRet [] [] 0)
 | _,_,_ => none
noncomputable def specs_chars_in : List (FuncId × Bool × Spec) := (167,false,chars_in.spec) :: specs_chars_Decode
noncomputable def cx_chars_ofXML : Cx U0 (Rr U0) := cxOf specs_chars_in
noncomputable def chars_ofXML.spec : Spec := fun args st K => match args,st.box,st.nt with
 | [.int .i64 r],[],0 => (lim fun k => Q.chars_ofXML.f k r).bind fun v => K (.ret (.bool v)) (lcRet [] [] 0)
 | _,_,_ => none
noncomputable def specs_chars_ofXML : List (FuncId × Bool × Spec) := (145,false,chars_ofXML.spec) :: specs_chars_in
noncomputable def cx_chars_Wrong : Cx U0 (Rr U0) := cxOf specs_chars_ofXML
noncomputable def chars_Wrong.spec : Spec := fun args st K => match args,st.box,st.nt with
 | [.sl (.int .u8) b .no],[],0 => (lim fun k => Q.chars_Wrong.f k b).bind fun v => K (.ret (.int .i64 v)) (lcRet [] [] 0)
 | _,_,_ => none
noncomputable def specs_chars_Wrong : List (FuncId × Bool × Spec) := (115,false,chars_Wrong.spec) :: specs_chars_ofXML
noncomputable def cx_chars_Number : Cx U0 (Rr U0) := cxOf specs_chars_Wrong
noncomputable def chars_Number.spec : Spec := fun args st K => match args,st.box,st.nt with
 | [.str s],[],0 => (lim fun k => Q.chars_Number.f k s).bind fun v => K (.ret (.tup [.int .i64 v.1,.int .i64 v.2])) (lcRet [] [] 0)
 | _,_,_ => none
noncomputable def specs_chars_Number : List (FuncId × Bool × Spec) := (70,false,chars_Number.spec) :: specs_chars_Wrong
noncomputable def cx_lexer_is : Cx U0 (Rr U0) := cxOf specs_chars_Number
noncomputable def lexer_is.spec : Spec := fun args st K => match args,st.box,st.nt with
 | [.int .u8 x,.str s],[],0 => (Q.lexer_is.f x s).bind fun v => K (.ret (.bool v)) (lcRet [] [] 0)
 | _,_,_ => none
noncomputable def specs_lexer_is : List (FuncId × Bool × Spec) := (68,false,lexer_is.spec) :: specs_chars_Number
noncomputable def cx_lexer_run : Cx U0 (Rr U0) := cxOf specs_lexer_is
noncomputable def lexer_run.spec : Spec := fun args st K => match args,st.box,st.nt with
 | [.str s,.str t],[],0 => (lim fun k => Q.lexer_run.f k s t).bind fun v => K (.ret (.str v)) (lcRet [] [] 0)
 | _,_,_ => none
noncomputable def specs_lexer_run : List (FuncId × Bool × Spec) := (69,false,lexer_run.spec) :: specs_lexer_is
noncomputable def cx_lexer_quoted : Cx U0 (Rr U0) := cxOf specs_lexer_run
noncomputable def lexer_quoted.spec : Spec := fun args st K => match args,st.box,st.nt with
 | [.str s],[],0 => (lim fun k => Q.lexer_quoted.f k s).bind fun v => K (.ret (.tup [.str v.1,.int .i64 v.2])) (lcRet [] [] 0)
 | _,_,_ => none
noncomputable def specs_lexer_quoted : List (FuncId × Bool × Spec) := (71,false,lexer_quoted.spec) :: specs_lexer_run
noncomputable def cx_lexer_sign : Cx U0 (Rr U0) := cxOf specs_lexer_quoted
noncomputable def lexer_sign.spec : Spec := fun args st K => match args,st.box,st.nt with
 | [.str s],[],0 => (lim fun k => Q.lexer_sign.f k s).bind fun v => K (.ret (.str v)) (lcRet [] [] 0)
 | _,_,_ => none
noncomputable def specs_lexer_sign : List (FuncId × Bool × Spec) := (72,false,lexer_sign.spec) :: specs_lexer_quoted
noncomputable def cx_lexer_word : Cx U0 (Rr U0) := cxOf specs_lexer_sign
noncomputable def lexer_word.spec : Spec := fun args st K => match args,st.box,st.nt with
 | [.str s],[],0 => (lim fun k => Q.lexer_word.f k s).bind fun v => K (.ret (.tup [.agg [.int .i64 v.1,.str v.2.1,.int .i64 v.2.2.1],.int .i64 v.2.2.2])) (lcRet [] [] 0)
 | _,_,_ => none
noncomputable def specs_lexer_word : List (FuncId × Bool × Spec) := (37,false,lexer_word.spec) :: specs_lexer_sign
noncomputable def cx_lexer_Words : Cx U0 (Rr U0) := cxOf specs_lexer_word
noncomputable def lexer_Words.spec : Spec := fun args st K => match args,st.box,st.nt with
 | [.str s],[],0 => (lim fun k => Q.lexer_Words.f k s).bind fun v => K (.ret (.tup [.sl W (v.1.map fun x : Q.S69 => (x.f0,x.f1,x.f2)) .no,.int .i64 v.2.1,.int .i64 v.2.2])) (lcRet [] [] 0)
 | _,_,_ => none
noncomputable def specs_lexer_Words : List (FuncId × Bool × Spec) := (22,false,lexer_Words.spec) :: specs_lexer_word
noncomputable def cx_dossierref01_Space : Cx U0 (Rr U0) := cxOf specs_lexer_Words
noncomputable def dossierref01_Space.spec : Spec := fun args st K => match args,st.box,st.nt with
 | [.int .i64 r],[],0 => (Q.dossierref01_Space.f r).bind fun v => K (.ret (.bool v)) (lcRet [] [] 0)
 | _,_,_ => none
noncomputable def specs_dossierref01_Space : List (FuncId × Bool × Spec) := (45,false,dossierref01_Space.spec) :: specs_lexer_Words
noncomputable def cx_dossierref01_Encode : Cx U0 (Rr U0) := cxOf specs_dossierref01_Space
noncomputable def dossierref01_Encode.spec : Spec := fun args st K => match args,st.box,st.nt with
 | [.int .i64 r],[],0 => (lim fun k => Q.dossierref01_Encode.f k r).bind fun v => K (.ret (.sl (.int .u8) (v) .no)) (lcRet [] [] 0)
 | _,_,_ => none
noncomputable def specs_dossierref01_Encode : List (FuncId × Bool × Spec) := (153,false,dossierref01_Encode.spec) :: specs_dossierref01_Space
noncomputable def cx_dossierref01_Decode : Cx U0 (Rr U0) := cxOf specs_dossierref01_Encode
noncomputable def dossierref01_Decode.spec : Spec := fun args st K => match args,st.box,st.nt with
 | [.sl (.int .u8) b .no],[],0 => (lim fun k => Q.dossierref01_Decode.f k b).bind fun v => K (.ret (.tup [.int .i64 v.1,.int .i64 v.2])) (lcRet [] [] 0)
 | _,_,_ => none
noncomputable def specs_dossierref01_Decode : List (FuncId × Bool × Spec) := (123,false,dossierref01_Decode.spec) :: specs_dossierref01_Encode
noncomputable def cx_dossierref01_within : Cx U0 (Rr U0) := cxOf specs_dossierref01_Decode
noncomputable def dossierref01_within.spec : Spec := fun args st K => match args,st.box,st.nt with
 | [.int .i64 r,.sl (.int .i64) l .no],[],0 => (lim fun k => Q.dossierref01_within.f k r l).bind fun v => K (.ret (.bool v)) (lcRet [] [] 0)
 | _,_,_ => none
noncomputable def specs_dossierref01_within : List (FuncId × Bool × Spec) := (154,false,dossierref01_within.spec) :: specs_dossierref01_Decode
noncomputable def cx_dossierref01_OfXML : Cx U0 (Rr U0) := cxOf specs_dossierref01_within
noncomputable def dossierref01_OfXML.spec : Spec := fun args st K => match args,st.box,st.nt with
 | [.int .i64 r],[],0 => (lim fun k => Q.dossierref01_OfXML.f k r).bind fun v => K (.ret (.bool v)) (lcRet [] [] 0)
 | _,_,_ => none
noncomputable def specs_dossierref01_OfXML : List (FuncId × Bool × Spec) := (124,false,dossierref01_OfXML.spec) :: specs_dossierref01_within
noncomputable def cx_dossierref01_Text : Cx U0 (Rr U0) := cxOf specs_dossierref01_OfXML
noncomputable def dossierref01_Text.specR (k : Nat) : Spec := fun args st K => match args,st.box,st.nt with
 | [.int .i64 r],[],0 => (Q.dossierref01_Text.f k r).bind fun v => K (.ret (.str v)) (lcRet [] [] 0)
 | _,_,_ => none
noncomputable def dossierref01_Text.rec (k : Nat) := recL [(152,dossierref01_Text.specR k)]
noncomputable def dossierref01_Text.spec : Spec := fun args st K => match args,st.box,st.nt with
 | [.int .i64 r],[],0 => (lim fun k => Q.dossierref01_Text.f k r).bind fun v => K (.ret (.str v)) (lcRet [] [] 0)
 | _,_,_ => none
noncomputable def specs_dossierref01_Text : List (FuncId × Bool × Spec) := (152,false,dossierref01_Text.spec) :: specs_dossierref01_OfXML
noncomputable def cx_dossierref01_Number : Cx U0 (Rr U0) := cxOf specs_dossierref01_Text
noncomputable def dossierref01_Number.spec : Spec := fun args st K => match args,st.box,st.nt with
 | [.str s],[],0 => (lim fun k => Q.dossierref01_Number.f k s).bind fun v => K (.ret (.tup [.int .i64 v.1,.int .i64 v.2])) (lcRet [] [] 0)
 | _,_,_ => none
noncomputable def specs_dossierref01_Number : List (FuncId × Bool × Spec) := (122,false,dossierref01_Number.spec) :: specs_dossierref01_Text
noncomputable def cx_dossierref08_digit : Cx U0 (Rr U0) := cxOf specs_dossierref01_Number
noncomputable def dossierref08_digit.spec : Spec := fun args st K => match args,st.box,st.nt with
 | [.int .u8 x],[],0 => (Q.dossierref08_digit.f x).bind fun v => K (.ret (.bool v)) (lcRet [] [] 0)
 | _,_,_ => none
noncomputable def specs_dossierref08_digit : List (FuncId × Bool × Spec) := (91,false,dossierref08_digit.spec) :: specs_dossierref01_Number
noncomputable def cx_dossierref08_letter : Cx U0 (Rr U0) := cxOf specs_dossierref08_digit
noncomputable def dossierref08_letter.spec : Spec := fun args st K => match args,st.box,st.nt with
 | [.int .u8 x],[],0 => (Q.dossierref08_letter.f x).bind fun v => K (.ret (.bool v)) (lcRet [] [] 0)
 | _,_,_ => none
noncomputable def specs_dossierref08_letter : List (FuncId × Bool × Spec) := (94,false,dossierref08_letter.spec) :: specs_dossierref08_digit
noncomputable def cx_dossierref08_integer : Cx U0 (Rr U0) := cxOf specs_dossierref08_letter
noncomputable def dossierref08_integer.spec : Spec := fun args st K => match args,st.box,st.nt with
 | [.str s],[],0 => (lim fun k => Q.dossierref08_integer.f k s).bind fun v => K (.ret (.tup [.agg [.int .i64 v.1,.str v.2.1,.int .i64 v.2.2.1],.int .i64 v.2.2.2.1,.bool v.2.2.2.2])) (lcRet [] [] 0)
 | _,_,_ => none
noncomputable def specs_dossierref08_integer : List (FuncId × Bool × Spec) := (92,false,dossierref08_integer.spec) :: specs_dossierref08_letter
noncomputable def cx_dossierref08_text : Cx U0 (Rr U0) := cxOf specs_dossierref08_integer
noncomputable def dossierref08_text.spec : Spec := fun args st K => match args,st.box,st.nt with
 | [.str s],[],0 => (lim fun k => Q.dossierref08_text.f k s).bind fun v => K (.ret (.tup [.agg [.int .i64 v.1,.str v.2.1,.int .i64 v.2.2.1],.int .i64 v.2.2.2.1,.bool v.2.2.2.2])) (lcRet [] [] 0)
 | _,_,_ => none
noncomputable def specs_dossierref08_text : List (FuncId × Bool × Spec) := (93,false,dossierref08_text.spec) :: specs_dossierref08_integer
noncomputable def cx_dossierref08_sign : Cx U0 (Rr U0) := cxOf specs_dossierref08_text
noncomputable def dossierref08_sign.spec : Spec := fun args st K => match args,st.box,st.nt with
 | [.str s],[],0 => (lim fun k => Q.dossierref08_sign.f k s).bind fun v => K (.ret (.tup [.agg [.int .i64 v.1,.str v.2.1,.int .i64 v.2.2.1],.int .i64 v.2.2.2.1,.bool v.2.2.2.2])) (lcRet [] [] 0)
 | _,_,_ => none
noncomputable def specs_dossierref08_sign : List (FuncId × Bool × Spec) := (95,false,dossierref08_sign.spec) :: specs_dossierref08_text
noncomputable def cx_dossierref08_word : Cx U0 (Rr U0) := cxOf specs_dossierref08_sign
noncomputable def dossierref08_word.spec : Spec := fun args st K => match args,st.box,st.nt with
 | [.str s],[],0 => (lim fun k => Q.dossierref08_word.f k s).bind fun v => K (.ret (.tup [.agg [.int .i64 v.1,.str v.2.1,.int .i64 v.2.2.1],.int .i64 v.2.2.2.1,.bool v.2.2.2.2])) (lcRet [] [] 0)
 | _,_,_ => none
noncomputable def specs_dossierref08_word : List (FuncId × Bool × Spec) := (46,false,dossierref08_word.spec) :: specs_dossierref08_sign
noncomputable def cx_dossierref08_Words : Cx U0 (Rr U0) := cxOf specs_dossierref08_word
noncomputable def dossierref08_Words.spec : Spec := fun args st K => match args,st.box,st.nt with
 | [.str s],[],0 => (lim fun k => Q.dossierref08_Words.f k s).bind fun v => K (.ret (.tup [.sl W (v.1.map fun x : Q.S69 => (x.f0,x.f1,x.f2)) .no,.int .i64 v.2.1,.int .i64 v.2.2])) (lcRet [] [] 0)
 | _,_,_ => none
noncomputable def specs_dossierref08_Words : List (FuncId × Bool × Spec) := (29,false,dossierref08_Words.spec) :: specs_dossierref08_word
end Go.Proofs.YtbcpnpbkbndkjaaGreatDoor.Ev
end
section
/- What each function comes to, one step of it at a time: the kernel's own reckoning. -/
set_option linter.unusedVariables false
set_option maxRecDepth 100000
namespace Go.Proofs.YtbcpnpbkbndkjaaGreatDoor.Ev
open Go Go.RowKit
theorem chars_Decode.top (n : Nat) (b : List Int) : callX false (fnF cx_chars_Decode noCalls n 144) ([.sl (Ty.int IntKind.u8) b Perm.no]) (lcSt [] 0) out = ((Q.utf8_DecodeRune.f b).bind fun v0 => (if (if (v0.1 == 65533) = true then decide (v0.2 ≤ 1) else false) = true then some (.ret (.tup [.int .i64 0,.int .i64 0]),lcRet [] [] 0) else some (.ret (.tup [.int .i64 (IntKind.i64.wrap v0.1),.int .i64 v0.2]),lcRet [] [] 0))) := by kernel_rfl
def lexer_quoted.bs : List Nat := []
noncomputable def lexer_quoted.L0 (n k0 : Nat) (s : ByteArray) (x0_0 : ByteArray) (x4_1 : List (Ty.den U0 (Ty.int IntKind.u8))) (x5_2 : Int) : Option (Rr U0) := loopF cx_lexer_quoted noCalls k0 0 ([(0,false),(4,true),(5,false)]) ((siteC (Tryz.f71.body.getD .skip) [1,1,0,1,0]).getD .skip) (siteK cx_lexer_quoted noCalls n [] (Tryz.f71.body.getD .skip) [1,1,0,1,0] (bodyK cx_lexer_quoted Tryz.f71 (lcSt [] 0) (callK false lexer_quoted.bs [] (lcSt [] 0) out))) (St.mk [(0,.str x0_0),(4,.sl (Ty.int IntKind.u8) x4_1 (Perm.tok 0)),(5,.int .i64 x5_2)] [] [0] 1 0 0 0 0 71 [] 53)
theorem lexer_quoted.L0_s (n k0 : Nat) (s : ByteArray) (x0_0 : ByteArray) (x4_1 : List (Ty.den U0 (Ty.int IntKind.u8))) (x5_2 : Int) : lexer_quoted.L0 n (k0 + 1) s x0_0 x4_1 x5_2 = (if decide (x5_2 < (↑x0_0.size : Int)) = true then (if 0 ≤ x5_2 then (if x5_2 < (↑x0_0.size : Int) then (if (bt x0_0 x5_2 == 34) = true then (if decide ((↑x4_1.length : Int) > 256) = true then some (.ret (.tup [.str (ByteArray.mk #[]),.int .i64 0]),lcRet [] [] 0) else ((lim fun k => Q.chars_Wrong.f k x4_1).bind fun v0 => (if (if false = true then true else decide (v0 ≥ 0)) = true then some (.ret (.tup [.str (ByteArray.mk #[]),.int .i64 0]),lcRet [] [] 0) else some (.ret (.tup [.str (ofBytes x4_1),.int .i64 (IntKind.i64.wrap (x5_2 + 1))]),lcRet [] [] 0)))) else (if (bt x0_0 x5_2 == 92) = true then (if (IntKind.i64.wrap (x5_2 + 1) == (↑x0_0.size : Int)) = true then some (.ret (.tup [.str (ByteArray.mk #[]),.int .i64 0]),lcRet [] [] 0) else (if 0 ≤ IntKind.i64.wrap (x5_2 + 1) then (if IntKind.i64.wrap (x5_2 + 1) < (↑x0_0.size : Int) then ((Q.lexer_is.f (bt x0_0 (IntKind.i64.wrap (x5_2 + 1))) (ByteArray.mk #[34,92])).bind fun v1 => (if (if false = true then true else !v1) = true then some (.ret (.tup [.str (ByteArray.mk #[]),.int .i64 0]),lcRet [] [] 0) else (if 0 ≤ IntKind.i64.wrap (x5_2 + 1) then (if IntKind.i64.wrap (x5_2 + 1) < (↑x0_0.size : Int) then (if (x4_1.length + [bt x0_0 (IntKind.i64.wrap (x5_2 + 1))].length) * 1 ≤ most then (lexer_quoted.L0 n k0 s x0_0 (x4_1 ++ [bt x0_0 (IntKind.i64.wrap (x5_2 + 1))]) (IntKind.i64.wrap (IntKind.i64.wrap (x5_2 + 1) + 1))) else none) else none) else none))) else none) else none)) else (if 0 ≤ x5_2 then (if x5_2 < (↑x0_0.size : Int) then (if (x4_1.length + [bt x0_0 x5_2].length) * 1 ≤ most then (lexer_quoted.L0 n k0 s x0_0 (x4_1 ++ [bt x0_0 x5_2]) (IntKind.i64.wrap (x5_2 + 1))) else none) else none) else none))) else none) else none) else some (.ret (.tup [.str (ByteArray.mk #[]),.int .i64 0]),lcRet [] [] 0)) := by kernel_rfl
theorem lexer_quoted.top (n : Nat) (s : ByteArray) : callX false (fnF cx_lexer_quoted noCalls n 71) ([.str s]) (lcSt [] 0) out = (lexer_quoted.L0 n n s s [] 1) := by kernel_rfl
def dossierref01_within.bs : List Nat := []
noncomputable def dossierref01_within.L0 (n k0 : Nat) (r : Int) (l : List Int) (x0_0 : Int) (x1_1 : List Int) (x5_2 : Int) : Option (Rr U0) := loopF cx_dossierref01_within noCalls k0 0 ([(0,false),(1,false),(5,false)]) ((siteC (Tryz.f154.body.getD .skip) [1,0,1,0]).getD .skip) (siteK cx_dossierref01_within noCalls n [] (Tryz.f154.body.getD .skip) [1,0,1,0] (bodyK cx_dossierref01_within Tryz.f154 (lcSt [] 0) (callK false dossierref01_within.bs [] (lcSt [] 0) out))) (St.mk [(0,.int .i64 x0_0),(1,.sl (Ty.int IntKind.i64) x1_1 Perm.no),(5,.int .i64 x5_2)] [] [] 0 0 0 0 0 154 [] 28)
theorem dossierref01_within.L0_s (n k0 : Nat) (r : Int) (l : List Int) (x0_0 : Int) (x1_1 : List Int) (x5_2 : Int) : dossierref01_within.L0 n (k0 + 1) r l x0_0 x1_1 x5_2 = (if decide (IntKind.i64.wrap (x5_2 + 1) < (↑x1_1.length : Int)) = true then (if 0 ≤ x5_2 then ((nth x1_1 x5_2.toNat).bind fun v0 => (if decide (x0_0 ≥ v0) = true then (if 0 ≤ IntKind.i64.wrap (x5_2 + 1) then ((nth x1_1 (IntKind.i64.wrap (x5_2 + 1)).toNat).bind fun v1 => (if (if true = true then decide (x0_0 ≤ v1) else false) = true then some (.ret (.bool true),lcRet [] [] 0) else (dossierref01_within.L0 n k0 r l x0_0 x1_1 (IntKind.i64.wrap (x5_2 + 2))))) else none) else (dossierref01_within.L0 n k0 r l x0_0 x1_1 (IntKind.i64.wrap (x5_2 + 2))))) else none) else some (.ret (.bool false),lcRet [] [] 0)) := by kernel_rfl
theorem dossierref01_within.top (n : Nat) (r : Int) (l : List Int) : callX false (fnF cx_dossierref01_within noCalls n 154) ([.int .i64 r,.sl (Ty.int IntKind.i64) l Perm.no]) (lcSt [] 0) out = (dossierref01_within.L0 n n r l r l 0) := by kernel_rfl
def dossierref08_text.bs : List Nat := []
noncomputable def dossierref08_text.L0 (n k0 : Nat) (s : ByteArray) (x0_0 : ByteArray) (x5_1 : ByteArray) (x6_2 : Int) (x_3 : Int) (x_4 : ByteArray) (x_5 : Int) : Option (Rr U0) := loopF cx_dossierref08_text noCalls k0 (1) ([(0,false),(2,false),(5,false),(6,false)]) ((siteC (Tryz.f93.body.getD .skip) [1,1,0,1,0]).getD .skip) (siteK cx_dossierref08_text noCalls n [] (Tryz.f93.body.getD .skip) [1,1,0,1,0] (bodyK cx_dossierref08_text Tryz.f93 (lcSt [] 0) (callK false dossierref08_text.bs [] (lcSt [] 0) out))) (St.mk [(0,.str x0_0),(2,.ptr 0 0),(5,.str x5_1),(6,.int .i64 x6_2)] [[.int .i64 x_3,.str x_4,.int .i64 x_5]] [] 0 0 0 0 0 93 [] 88)
noncomputable def dossierref08_text.L1 (n k0 : Nat) (s : ByteArray) (x0_0 : ByteArray) (x5_1 : ByteArray) (x6_2 : Int) (x_3 : Int) (x_4 : ByteArray) (x_5 : Int) : Option (Rr U0) := loopF cx_dossierref08_text noCalls k0 (1) ([(0,false),(2,false),(5,false),(6,false)]) ((siteC (Tryz.f93.body.getD .skip) [1,1,0,1,0]).getD .skip) (siteK cx_dossierref08_text noCalls n [] (Tryz.f93.body.getD .skip) [1,1,0,1,0] (bodyK cx_dossierref08_text Tryz.f93 (lcSt [] 0) (callK false dossierref08_text.bs [] (lcSt [] 0) out))) (St.mk [(0,.str x0_0),(2,.ptr 0 0),(5,.str x5_1),(6,.int .i64 x6_2)] [[.int .i64 x_3,.str x_4,.int .i64 x_5]] [] 0 0 0 0 0 93 [] 88)
theorem dossierref08_text.L0_s (n k0 : Nat) (s : ByteArray) (x0_0 : ByteArray) (x5_1 : ByteArray) (x6_2 : Int) (x_3 : Int) (x_4 : ByteArray) (x_5 : Int) : dossierref08_text.L0 n (k0 + 1) s x0_0 x5_1 x6_2 x_3 x_4 x_5 = (if decide (x6_2 < (↑x0_0.size : Int)) = true then (if 0 ≤ x6_2 then (if x6_2 < (↑x0_0.size : Int) then (if (bt x0_0 x6_2 == 34) = true then some (.ret (.tup [.agg [.int .i64 3,.str x5_1,.int .i64 0],.int .i64 (IntKind.i64.wrap (x6_2 + 1)),.bool (decide ((↑x5_1.size : Int) ≤ 256))]),lcRet [] [] 0) else (if 0 ≤ x6_2 then (if x6_2 < (↑x0_0.size : Int) then (if (bt x0_0 x6_2 == 92) = true then (if decide (IntKind.i64.wrap (x6_2 + 1) ≥ (↑x0_0.size : Int)) = true then some (.ret (.tup [.agg [.int .i64 0,.str (ByteArray.mk #[]),.int .i64 0],.int .i64 0,.bool false]),lcRet [] [] 0) else (if 0 ≤ IntKind.i64.wrap (x6_2 + 1) then (if IntKind.i64.wrap (x6_2 + 1) < (↑x0_0.size : Int) then (if (bt x0_0 (IntKind.i64.wrap (x6_2 + 1)) != 34) = true then (if 0 ≤ IntKind.i64.wrap (x6_2 + 1) then (if IntKind.i64.wrap (x6_2 + 1) < (↑x0_0.size : Int) then (if (if false = true then true else if true = true then bt x0_0 (IntKind.i64.wrap (x6_2 + 1)) != 92 else false) = true then some (.ret (.tup [.agg [.int .i64 0,.str (ByteArray.mk #[]),.int .i64 0],.int .i64 0,.bool false]),lcRet [] [] 0) else (if 0 ≤ IntKind.i64.wrap (x6_2 + 1) then (if IntKind.i64.wrap (x6_2 + 1) ≤ IntKind.i64.wrap (x6_2 + 2) then (if IntKind.i64.wrap (x6_2 + 2) ≤ (↑x0_0.size : Int) then (if x5_1.size + (x0_0.extract (IntKind.i64.wrap (x6_2 + 1)).toNat (IntKind.i64.wrap (x6_2 + 2)).toNat).size ≤ 9223372036854775807 then (dossierref08_text.L1 n k0 s x0_0 (x5_1 ++ x0_0.extract (IntKind.i64.wrap (x6_2 + 1)).toNat (IntKind.i64.wrap (x6_2 + 2)).toNat) (IntKind.i64.wrap (x6_2 + 2)) x_3 x_4 x_5) else none) else none) else none) else none)) else none) else none) else (if 0 ≤ IntKind.i64.wrap (x6_2 + 1) then (if IntKind.i64.wrap (x6_2 + 1) ≤ IntKind.i64.wrap (x6_2 + 2) then (if IntKind.i64.wrap (x6_2 + 2) ≤ (↑x0_0.size : Int) then (if x5_1.size + (x0_0.extract (IntKind.i64.wrap (x6_2 + 1)).toNat (IntKind.i64.wrap (x6_2 + 2)).toNat).size ≤ 9223372036854775807 then (dossierref08_text.L1 n k0 s x0_0 (x5_1 ++ x0_0.extract (IntKind.i64.wrap (x6_2 + 1)).toNat (IntKind.i64.wrap (x6_2 + 2)).toNat) (IntKind.i64.wrap (x6_2 + 2)) x_3 x_4 x_5) else none) else none) else none) else none)) else none) else none)) else (if 0 ≤ x6_2 then (if x6_2 ≤ (↑x0_0.size : Int) then ((lim fun k => Q.dossierref01_Decode.f k (toBytes (x0_0.extract x6_2.toNat x0_0.size))).bind fun v2 => (if (v2.2 == 0) = true then some (.ret (.tup [.agg [.int .i64 0,.str (ByteArray.mk #[]),.int .i64 0],.int .i64 0,.bool false]),lcRet [] [] 0) else ((lim fun k => Q.dossierref01_OfXML.f k v2.1).bind fun v3 => (if (if false = true then true else !v3) = true then some (.ret (.tup [.agg [.int .i64 0,.str (ByteArray.mk #[]),.int .i64 0],.int .i64 0,.bool false]),lcRet [] [] 0) else (if 0 ≤ x6_2 then (if x6_2 ≤ IntKind.i64.wrap (x6_2 + v2.2) then (if IntKind.i64.wrap (x6_2 + v2.2) ≤ (↑x0_0.size : Int) then (if x5_1.size + (x0_0.extract x6_2.toNat (IntKind.i64.wrap (x6_2 + v2.2)).toNat).size ≤ 9223372036854775807 then (dossierref08_text.L1 n k0 s x0_0 (x5_1 ++ x0_0.extract x6_2.toNat (IntKind.i64.wrap (x6_2 + v2.2)).toNat) (IntKind.i64.wrap (x6_2 + v2.2)) x_3 x_4 x_5) else none) else none) else none) else none))))) else none) else none)) else none) else none)) else none) else none) else some (.ret (.tup [.agg [.int .i64 0,.str (ByteArray.mk #[]),.int .i64 0],.int .i64 0,.bool false]),lcRet [] [] 0)) := by kernel_rfl
theorem dossierref08_text.L1_s (n k0 : Nat) (s : ByteArray) (x0_0 : ByteArray) (x5_1 : ByteArray) (x6_2 : Int) (x_3 : Int) (x_4 : ByteArray) (x_5 : Int) : dossierref08_text.L1 n (k0 + 1) s x0_0 x5_1 x6_2 x_3 x_4 x_5 = (if decide (x6_2 < (↑x0_0.size : Int)) = true then (if 0 ≤ x6_2 then (if x6_2 < (↑x0_0.size : Int) then (if (bt x0_0 x6_2 == 34) = true then some (.ret (.tup [.agg [.int .i64 3,.str x5_1,.int .i64 0],.int .i64 (IntKind.i64.wrap (x6_2 + 1)),.bool (decide ((↑x5_1.size : Int) ≤ 256))]),lcRet [] [] 0) else (if 0 ≤ x6_2 then (if x6_2 < (↑x0_0.size : Int) then (if (bt x0_0 x6_2 == 92) = true then (if decide (IntKind.i64.wrap (x6_2 + 1) ≥ (↑x0_0.size : Int)) = true then some (.ret (.tup [.agg [.int .i64 0,.str (ByteArray.mk #[]),.int .i64 0],.int .i64 0,.bool false]),lcRet [] [] 0) else (if 0 ≤ IntKind.i64.wrap (x6_2 + 1) then (if IntKind.i64.wrap (x6_2 + 1) < (↑x0_0.size : Int) then (if (bt x0_0 (IntKind.i64.wrap (x6_2 + 1)) != 34) = true then (if 0 ≤ IntKind.i64.wrap (x6_2 + 1) then (if IntKind.i64.wrap (x6_2 + 1) < (↑x0_0.size : Int) then (if (if false = true then true else if true = true then bt x0_0 (IntKind.i64.wrap (x6_2 + 1)) != 92 else false) = true then some (.ret (.tup [.agg [.int .i64 0,.str (ByteArray.mk #[]),.int .i64 0],.int .i64 0,.bool false]),lcRet [] [] 0) else (if 0 ≤ IntKind.i64.wrap (x6_2 + 1) then (if IntKind.i64.wrap (x6_2 + 1) ≤ IntKind.i64.wrap (x6_2 + 2) then (if IntKind.i64.wrap (x6_2 + 2) ≤ (↑x0_0.size : Int) then (if x5_1.size + (x0_0.extract (IntKind.i64.wrap (x6_2 + 1)).toNat (IntKind.i64.wrap (x6_2 + 2)).toNat).size ≤ 9223372036854775807 then (dossierref08_text.L1 n k0 s x0_0 (x5_1 ++ x0_0.extract (IntKind.i64.wrap (x6_2 + 1)).toNat (IntKind.i64.wrap (x6_2 + 2)).toNat) (IntKind.i64.wrap (x6_2 + 2)) x_3 x_4 x_5) else none) else none) else none) else none)) else none) else none) else (if 0 ≤ IntKind.i64.wrap (x6_2 + 1) then (if IntKind.i64.wrap (x6_2 + 1) ≤ IntKind.i64.wrap (x6_2 + 2) then (if IntKind.i64.wrap (x6_2 + 2) ≤ (↑x0_0.size : Int) then (if x5_1.size + (x0_0.extract (IntKind.i64.wrap (x6_2 + 1)).toNat (IntKind.i64.wrap (x6_2 + 2)).toNat).size ≤ 9223372036854775807 then (dossierref08_text.L1 n k0 s x0_0 (x5_1 ++ x0_0.extract (IntKind.i64.wrap (x6_2 + 1)).toNat (IntKind.i64.wrap (x6_2 + 2)).toNat) (IntKind.i64.wrap (x6_2 + 2)) x_3 x_4 x_5) else none) else none) else none) else none)) else none) else none)) else (if 0 ≤ x6_2 then (if x6_2 ≤ (↑x0_0.size : Int) then ((lim fun k => Q.dossierref01_Decode.f k (toBytes (x0_0.extract x6_2.toNat x0_0.size))).bind fun v0 => (if (v0.2 == 0) = true then some (.ret (.tup [.agg [.int .i64 0,.str (ByteArray.mk #[]),.int .i64 0],.int .i64 0,.bool false]),lcRet [] [] 0) else ((lim fun k => Q.dossierref01_OfXML.f k v0.1).bind fun v1 => (if (if false = true then true else !v1) = true then some (.ret (.tup [.agg [.int .i64 0,.str (ByteArray.mk #[]),.int .i64 0],.int .i64 0,.bool false]),lcRet [] [] 0) else (if 0 ≤ x6_2 then (if x6_2 ≤ IntKind.i64.wrap (x6_2 + v0.2) then (if IntKind.i64.wrap (x6_2 + v0.2) ≤ (↑x0_0.size : Int) then (if x5_1.size + (x0_0.extract x6_2.toNat (IntKind.i64.wrap (x6_2 + v0.2)).toNat).size ≤ 9223372036854775807 then (dossierref08_text.L1 n k0 s x0_0 (x5_1 ++ x0_0.extract x6_2.toNat (IntKind.i64.wrap (x6_2 + v0.2)).toNat) (IntKind.i64.wrap (x6_2 + v0.2)) x_3 x_4 x_5) else none) else none) else none) else none))))) else none) else none)) else none) else none)) else none) else none) else some (.ret (.tup [.agg [.int .i64 0,.str (ByteArray.mk #[]),.int .i64 0],.int .i64 0,.bool false]),lcRet [] [] 0)) := by kernel_rfl
theorem dossierref08_text.top (n : Nat) (s : ByteArray) : callX false (fnF cx_dossierref08_text noCalls n 93) ([.str s]) (lcSt [] 0) out = (dossierref08_text.L0 n n s s (ByteArray.mk #[]) 1 0 (ByteArray.mk #[]) 0) := by kernel_rfl
def chars_in.bs : List Nat := []
noncomputable def chars_in.L0 (n k0 : Nat) (r : Int) (l : List (Int × Int)) (x0_0 : Int) (x7_1 : List (Int × Int)) (x8_2 : Int) (x9_3 : Int) : Option (Rr U0) := loopF cx_chars_in noCalls k0 0 ([(0,false),(7,false),(8,false),(9,false)]) ((siteC (Tryz.f167.body.getD .skip) [1,0,1,0]).getD .skip) (siteK cx_chars_in noCalls n [] (Tryz.f167.body.getD .skip) [1,0,1,0] (bodyK cx_chars_in Tryz.f167 (lcSt [] 0) (callK false chars_in.bs [] (lcSt [] 0) out))) (St.mk [(0,.int .i64 x0_0),(7,.sl ((Ty.int IntKind.i64).pair (Ty.int IntKind.i64)) x7_1 Perm.no),(8,.int .i64 x8_2),(9,.int .i64 x9_3)] [] [] 0 0 0 0 0 167 [] 24)
theorem chars_in.L0_s (n k0 : Nat) (r : Int) (l : List (Int × Int)) (x0_0 : Int) (x7_1 : List (Int × Int)) (x8_2 : Int) (x9_3 : Int) : chars_in.L0 n (k0 + 1) r l x0_0 x7_1 x8_2 x9_3 = (if decide (x9_3 < x8_2) = true then (if 0 ≤ x9_3 then ((nth x7_1 x9_3.toNat).bind fun v0 => (if (if decide (v0.1 ≤ x0_0) = true then decide (x0_0 ≤ v0.2) else false) = true then some (.ret (.bool true),lcRet [] [] 0) else (chars_in.L0 n k0 r l x0_0 x7_1 x8_2 (IntKind.i64.wrap (x9_3 + 1))))) else none) else some (.ret (.bool false),lcRet [] [] 0)) := by kernel_rfl
theorem chars_in.top (n : Nat) (r : Int) (l : List (Int × Int)) : callX false (fnF cx_chars_in noCalls n 167) ([.int .i64 r,.sl ((Ty.int IntKind.i64).pair (Ty.int IntKind.i64)) l Perm.no]) (lcSt [] 0) out = (chars_in.L0 n n r l r l ((↑l.length : Int)) 0) := by kernel_rfl
def lexer_sign.bs : List Nat := []
noncomputable def lexer_sign.L0 (n k0 : Nat) (s : ByteArray) (x0_0 : ByteArray) (x3_1 : Int) : Option (Rr U0) := loopF cx_lexer_sign noCalls k0 0 ([(0,false),(3,false)]) ((siteC (Tryz.f72.body.getD .skip) [1,0,1,0]).getD .skip) (siteK cx_lexer_sign noCalls n [] (Tryz.f72.body.getD .skip) [1,0,1,0] (bodyK cx_lexer_sign Tryz.f72 (lcSt [] 0) (callK false lexer_sign.bs [] (lcSt [] 0) out))) (St.mk [(0,.str x0_0),(3,.int .i64 x3_1)] [] [] 0 0 0 0 0 72 [] 33)
theorem lexer_sign.L0_s (n k0 : Nat) (s : ByteArray) (x0_0 : ByteArray) (x3_1 : Int) : lexer_sign.L0 n (k0 + 1) s x0_0 x3_1 = (if decide (x3_1 > 0) = true then (if 0 ≤ x3_1 then (if x3_1 ≤ (↑x0_0.size : Int) then (if (if seq (x0_0.extract 0 x3_1.toNat) (ByteArray.mk #[60,61]) = true then true else if seq (x0_0.extract 0 x3_1.toNat) (ByteArray.mk #[62,61]) = true then true else if seq (x0_0.extract 0 x3_1.toNat) (ByteArray.mk #[33,61]) = true then true else if seq (x0_0.extract 0 x3_1.toNat) (ByteArray.mk #[40]) = true then true else if seq (x0_0.extract 0 x3_1.toNat) (ByteArray.mk #[41]) = true then true else if seq (x0_0.extract 0 x3_1.toNat) (ByteArray.mk #[46]) = true then true else if seq (x0_0.extract 0 x3_1.toNat) (ByteArray.mk #[44]) = true then true else if seq (x0_0.extract 0 x3_1.toNat) (ByteArray.mk #[43]) = true then true else if seq (x0_0.extract 0 x3_1.toNat) (ByteArray.mk #[45]) = true then true else if seq (x0_0.extract 0 x3_1.toNat) (ByteArray.mk #[42]) = true then true else if seq (x0_0.extract 0 x3_1.toNat) (ByteArray.mk #[47]) = true then true else if seq (x0_0.extract 0 x3_1.toNat) (ByteArray.mk #[37]) = true then true else if seq (x0_0.extract 0 x3_1.toNat) (ByteArray.mk #[60]) = true then true else if seq (x0_0.extract 0 x3_1.toNat) (ByteArray.mk #[62]) = true then true else seq (x0_0.extract 0 x3_1.toNat) (ByteArray.mk #[61])) = true then (if 0 ≤ x3_1 then (if x3_1 ≤ (↑x0_0.size : Int) then some (.ret (.str (x0_0.extract 0 x3_1.toNat)),lcRet [] [] 0) else none) else none) else (lexer_sign.L0 n k0 s x0_0 (IntKind.i64.wrap (x3_1 - 1)))) else none) else none) else some (.ret (.str (ByteArray.mk #[])),lcRet [] [] 0)) := by kernel_rfl
theorem lexer_sign.top (n : Nat) (s : ByteArray) : callX false (fnF cx_lexer_sign noCalls n 72) ([.str s]) (lcSt [] 0) out = (lexer_sign.L0 n n s s (if (↑s.size : Int) < 2 then (↑s.size : Int) else (2 : Int))) := by kernel_rfl
theorem dossierref01_OfXML.top (n : Nat) (r : Int) : callX false (fnF cx_dossierref01_OfXML noCalls n 124) ([.int .i64 r]) (lcSt [] 0) out = ((lim fun k => Q.dossierref01_within.f k r [(9 : Int),(10 : Int),(13 : Int),(13 : Int),(32 : Int),(55295 : Int),(57344 : Int),(65533 : Int),(65536 : Int),(1114111 : Int)]).bind fun v0 => some (.ret (.bool v0),lcRet [] [] 0)) := by kernel_rfl
def dossierref08_sign.bs : List Nat := []
noncomputable def dossierref08_sign.L0 (n k0 : Nat) (s : ByteArray) (x0_0 : ByteArray) (x28_1 : List (Ty.den U0 Ty.str)) (x29_2 : Int) (x30_3 : Int) (x_4 : Int) (x_5 : ByteArray) (x_6 : Int) : Option (Rr U0) := loopF cx_dossierref08_sign noCalls k0 (1) ([(0,false),(2,false),(28,false),(29,false),(30,false)]) ((siteC (Tryz.f95.body.getD .skip) [1,1,0,1,0]).getD .skip) (siteK cx_dossierref08_sign noCalls n [] (Tryz.f95.body.getD .skip) [1,1,0,1,0] (bodyK cx_dossierref08_sign Tryz.f95 (lcSt [] 0) (callK false dossierref08_sign.bs [] (lcSt [] 0) out))) (St.mk [(0,.str x0_0),(2,.ptr 0 0),(28,.sl Ty.str x28_1 Perm.no),(29,.int .i64 x29_2),(30,.int .i64 x30_3)] [[.int .i64 x_4,.str x_5,.int .i64 x_6]] [] 0 0 0 0 0 95 [] 42)
noncomputable def dossierref08_sign.L1 (n k0 : Nat) (s : ByteArray) (x0_0 : ByteArray) (x28_1 : List (Ty.den U0 Ty.str)) (x29_2 : Int) (x30_3 : Int) (x_4 : Int) (x_5 : ByteArray) (x_6 : Int) : Option (Rr U0) := loopF cx_dossierref08_sign noCalls k0 (1) ([(0,false),(2,false),(28,false),(29,false),(30,false)]) ((siteC (Tryz.f95.body.getD .skip) [1,1,0,1,0]).getD .skip) (siteK cx_dossierref08_sign noCalls n [] (Tryz.f95.body.getD .skip) [1,1,0,1,0] (bodyK cx_dossierref08_sign Tryz.f95 (lcSt [] 0) (callK false dossierref08_sign.bs [] (lcSt [] 0) out))) (St.mk [(0,.str x0_0),(2,.ptr 0 0),(28,.sl Ty.str x28_1 Perm.no),(29,.int .i64 x29_2),(30,.int .i64 x30_3)] [[.int .i64 x_4,.str x_5,.int .i64 x_6]] [] 0 0 0 0 0 95 [] 42)
theorem dossierref08_sign.L0_s (n k0 : Nat) (s : ByteArray) (x0_0 : ByteArray) (x28_1 : List (Ty.den U0 Ty.str)) (x29_2 : Int) (x30_3 : Int) (x_4 : Int) (x_5 : ByteArray) (x_6 : Int) : dossierref08_sign.L0 n (k0 + 1) s x0_0 x28_1 x29_2 x30_3 x_4 x_5 x_6 = (if decide (x30_3 < x29_2) = true then (if 0 ≤ x30_3 then ((nth x28_1 x30_3.toNat).bind fun v0 => (if (1 : Int) ≤ (↑x0_0.size : Int) then (if seq (x0_0.extract 0 (Int.toNat (1 : Int))) v0 = true then some (.ret (.tup [.agg [.int .i64 4,.str v0,.int .i64 0],.int .i64 1,.bool true]),lcRet [] [] 0) else (dossierref08_sign.L1 n k0 s x0_0 x28_1 x29_2 (IntKind.i64.wrap (x30_3 + 1)) x_4 x_5 x_6)) else none)) else none) else some (.ret (.tup [.agg [.int .i64 0,.str (ByteArray.mk #[]),.int .i64 0],.int .i64 0,.bool false]),lcRet [] [] 0)) := by kernel_rfl
theorem dossierref08_sign.L1_s (n k0 : Nat) (s : ByteArray) (x0_0 : ByteArray) (x28_1 : List (Ty.den U0 Ty.str)) (x29_2 : Int) (x30_3 : Int) (x_4 : Int) (x_5 : ByteArray) (x_6 : Int) : dossierref08_sign.L1 n (k0 + 1) s x0_0 x28_1 x29_2 x30_3 x_4 x_5 x_6 = (if decide (x30_3 < x29_2) = true then (if 0 ≤ x30_3 then ((nth x28_1 x30_3.toNat).bind fun v1 => (if (1 : Int) ≤ (↑x0_0.size : Int) then (if seq (x0_0.extract 0 (Int.toNat (1 : Int))) v1 = true then some (.ret (.tup [.agg [.int .i64 4,.str v1,.int .i64 0],.int .i64 1,.bool true]),lcRet [] [] 0) else (dossierref08_sign.L1 n k0 s x0_0 x28_1 x29_2 (IntKind.i64.wrap (x30_3 + 1)) x_4 x_5 x_6)) else none)) else none) else some (.ret (.tup [.agg [.int .i64 0,.str (ByteArray.mk #[]),.int .i64 0],.int .i64 0,.bool false]),lcRet [] [] 0)) := by kernel_rfl
theorem dossierref08_sign.top (n : Nat) (s : ByteArray) : callX false (fnF cx_dossierref08_sign noCalls n 95) ([.str s]) (lcSt [] 0) out = (if decide ((↑s.size : Int) ≥ 2) = true then (if (2 : Int) ≤ (↑s.size : Int) then (if seq (s.extract 0 (Int.toNat (2 : Int))) (ByteArray.mk #[60,61]) = true then (if (2 : Int) ≤ (↑s.size : Int) then some (.ret (.tup [.agg [.int .i64 4,.str (s.extract 0 (Int.toNat (2 : Int))),.int .i64 0],.int .i64 2,.bool true]),lcRet [] [] 0) else none) else (if (2 : Int) ≤ (↑s.size : Int) then (if (if false = true then true else seq (s.extract 0 (Int.toNat (2 : Int))) (ByteArray.mk #[62,61])) = true then (if (2 : Int) ≤ (↑s.size : Int) then some (.ret (.tup [.agg [.int .i64 4,.str (s.extract 0 (Int.toNat (2 : Int))),.int .i64 0],.int .i64 2,.bool true]),lcRet [] [] 0) else none) else (if (2 : Int) ≤ (↑s.size : Int) then (if (if true = true then if false = true then true else seq (s.extract 0 (Int.toNat (2 : Int))) (ByteArray.mk #[33,61]) else false) = true then (if (2 : Int) ≤ (↑s.size : Int) then some (.ret (.tup [.agg [.int .i64 4,.str (s.extract 0 (Int.toNat (2 : Int))),.int .i64 0],.int .i64 2,.bool true]),lcRet [] [] 0) else none) else (dossierref08_sign.L0 n n s s ([ByteArray.mk #[40],ByteArray.mk #[41],ByteArray.mk #[46],ByteArray.mk #[44],ByteArray.mk #[43],ByteArray.mk #[45],ByteArray.mk #[42],ByteArray.mk #[47],ByteArray.mk #[37],ByteArray.mk #[60],ByteArray.mk #[62],ByteArray.mk #[61]]) 12 0 0 (ByteArray.mk #[]) 0)) else none)) else none)) else none) else (dossierref08_sign.L0 n n s s ([ByteArray.mk #[40],ByteArray.mk #[41],ByteArray.mk #[46],ByteArray.mk #[44],ByteArray.mk #[43],ByteArray.mk #[45],ByteArray.mk #[42],ByteArray.mk #[47],ByteArray.mk #[37],ByteArray.mk #[60],ByteArray.mk #[62],ByteArray.mk #[61]]) 12 0 0 (ByteArray.mk #[]) 0)) := by kernel_rfl
theorem chars_ofXML.top (n : Nat) (r : Int) : callX false (fnF cx_chars_ofXML noCalls n 145) ([.int .i64 r]) (lcSt [] 0) out = ((lim fun k => Q.chars_in.f k r (List.map (fun p => Q.S182.mk p.1 p.2) [((32 : Int),(55295 : Int)),((9 : Int),(10 : Int)),((13 : Int),(13 : Int)),((57344 : Int),(65533 : Int)),((65536 : Int),(1114111 : Int))])).bind fun v0 => some (.ret (.bool v0),lcRet [] [] 0)) := by kernel_rfl
theorem lexer_word.top (n : Nat) (s : ByteArray) : callX false (fnF cx_lexer_word noCalls n 37) ([.str s]) (lcSt [] 0) out = (if (0 : Int) < (↑s.size : Int) then ((Q.lexer_is.f (bt s (0 : Int)) (ByteArray.mk #[65,66,67,68,69,70,71,72,73,74,75,76,77,78,79,80,81,82,83,84,85,86,87,88,89,90,97,98,99,100,101,102,103,104,105,106,107,108,109,110,111,112,113,114,115,116,117,118,119,120,121,122,95])).bind fun v0 => (if v0 = true then ((lim fun k => Q.lexer_run.f k s (ByteArray.mk #[65,66,67,68,69,70,71,72,73,74,75,76,77,78,79,80,81,82,83,84,85,86,87,88,89,90,97,98,99,100,101,102,103,104,105,106,107,108,109,110,111,112,113,114,115,116,117,118,119,120,121,122,95,48,49,50,51,52,53,54,55,56,57])).bind fun v1 => some (.ret (.tup [.agg [.int .i64 1,.str v1,.int .i64 0],.int .i64 (↑v1.size : Int)]),lcRet [] [] 0)) else ((Q.lexer_is.f (bt s (0 : Int)) (ByteArray.mk #[48,49,50,51,52,53,54,55,56,57])).bind fun v2 => (if v2 = true then ((lim fun k => Q.lexer_run.f k s (ByteArray.mk #[48,49,50,51,52,53,54,55,56,57])).bind fun v3 => ((lim fun k => Q.chars_Number.f k v3).bind fun v4 => (if (v4.2 != 0) = true then some (.ret (.tup [.agg [.int .i64 0,.str (ByteArray.mk #[]),.int .i64 0],.int .i64 0]),lcRet [] [] 0) else some (.ret (.tup [.agg [.int .i64 2,.str (ByteArray.mk #[]),.int .i64 v4.1],.int .i64 (↑v3.size : Int)]),lcRet [] [] 0)))) else (if (bt s (0 : Int) == 34) = true then ((lim fun k => Q.lexer_quoted.f k s).bind fun v5 => some (.ret (.tup [.agg [.int .i64 3,.str v5.1,.int .i64 0],.int .i64 v5.2]),lcRet [] [] 0)) else ((lim fun k => Q.lexer_sign.f k s).bind fun v6 => some (.ret (.tup [.agg [.int .i64 4,.str v6,.int .i64 0],.int .i64 (↑v6.size : Int)]),lcRet [] [] 0))))))) else none) := by kernel_rfl
theorem dossierref01_Text.top (n : Nat) (k : Nat) (r : Int) : callX false (fnF cx_dossierref01_Text (dossierref01_Text.rec k) n 152) ([.int .i64 r]) (lcSt [] 0) out = (if decide (r < 0) = true then (if decide (r > (-10 : Int)) = true then ((Q.dossierref01_Text.f k (IntKind.i64.wrap ((0 : Int) - r))).bind fun v0 => (if (ByteArray.mk #[45]).size + v0.size ≤ 9223372036854775807 then some (.ret (.str (ByteArray.mk #[45] ++ v0)),lcRet [] [] 0) else none)) else ((Q.dossierref01_Text.f k (IntKind.i64.wrap (r.tdiv (10 : Int)))).bind fun v1 => ((Q.dossierref01_Text.f k (IntKind.i64.wrap ((0 : Int) - r.tmod (10 : Int)))).bind fun v2 => (if v1.size + v2.size ≤ 9223372036854775807 then some (.ret (.str (v1 ++ v2)),lcRet [] [] 0) else none)))) else (if decide (r < 10) = true then (if 0 ≤ r then (if r ≤ IntKind.i64.wrap (r + 1) then (if IntKind.i64.wrap (r + 1) ≤ (↑(ByteArray.mk #[48,49,50,51,52,53,54,55,56,57]).size : Int) then some (.ret (.str ((ByteArray.mk #[48,49,50,51,52,53,54,55,56,57]).extract r.toNat (IntKind.i64.wrap (r + 1)).toNat)),lcRet [] [] 0) else none) else none) else none) else ((Q.dossierref01_Text.f k (IntKind.i64.wrap (r.tdiv (10 : Int)))).bind fun v3 => ((Q.dossierref01_Text.f k (r.tmod (10 : Int))).bind fun v4 => (if v3.size + v4.size ≤ 9223372036854775807 then some (.ret (.str (v3 ++ v4)),lcRet [] [] 0) else none))))) := by kernel_rfl
def dossierref08_word.bs : List Nat := []
noncomputable def dossierref08_word.L0 (n k0 : Nat) (s : ByteArray) (x0_0 : ByteArray) (x5_1 : Int) (x_2 : Int) (x_3 : ByteArray) (x_4 : Int) : Option (Rr U0) := loopF cx_dossierref08_word noCalls k0 (1) ([(0,false),(2,false),(5,false)]) ((siteC (Tryz.f46.body.getD .skip) [1,1,1,0,0]).getD .skip) (siteK cx_dossierref08_word noCalls n [] (Tryz.f46.body.getD .skip) [1,1,1,0,0] (bodyK cx_dossierref08_word Tryz.f46 (lcSt [] 0) (callK false dossierref08_word.bs [] (lcSt [] 0) out))) (St.mk [(0,.str x0_0),(2,.ptr 0 0),(5,.int .i64 x5_1)] [[.int .i64 x_2,.str x_3,.int .i64 x_4]] [] 0 0 0 0 0 46 [] 57)
noncomputable def dossierref08_word.L1 (n k0 : Nat) (s : ByteArray) (x0_0 : ByteArray) (x5_1 : Int) (x_2 : Int) (x_3 : ByteArray) (x_4 : Int) : Option (Rr U0) := loopF cx_dossierref08_word noCalls k0 (1) ([(0,false),(2,false),(5,false)]) ((siteC (Tryz.f46.body.getD .skip) [1,1,1,0,0]).getD .skip) (siteK cx_dossierref08_word noCalls n [] (Tryz.f46.body.getD .skip) [1,1,1,0,0] (bodyK cx_dossierref08_word Tryz.f46 (lcSt [] 0) (callK false dossierref08_word.bs [] (lcSt [] 0) out))) (St.mk [(0,.str x0_0),(2,.ptr 0 0),(5,.int .i64 x5_1)] [[.int .i64 x_2,.str x_3,.int .i64 x_4]] [] 0 0 0 0 0 46 [] 57)
theorem dossierref08_word.L0_s (n k0 : Nat) (s : ByteArray) (x0_0 : ByteArray) (x5_1 : Int) (x_2 : Int) (x_3 : ByteArray) (x_4 : Int) : dossierref08_word.L0 n (k0 + 1) s x0_0 x5_1 x_2 x_3 x_4 = (if decide (x5_1 < (↑x0_0.size : Int)) = true then (if 0 ≤ x5_1 then (if x5_1 < (↑x0_0.size : Int) then ((Q.dossierref08_letter.f (bt x0_0 x5_1)).bind fun v5 => (if v5 = true then (dossierref08_word.L1 n k0 s x0_0 (IntKind.i64.wrap (x5_1 + 1)) x_2 x_3 x_4) else (if 0 ≤ x5_1 then (if x5_1 < (↑x0_0.size : Int) then ((Q.dossierref08_digit.f (bt x0_0 x5_1)).bind fun v8 => (if (if true = true then if false = true then true else v8 else false) = true then (dossierref08_word.L1 n k0 s x0_0 (IntKind.i64.wrap (x5_1 + 1)) x_2 x_3 x_4) else (if 0 ≤ x5_1 then (if x5_1 ≤ (↑x0_0.size : Int) then some (.ret (.tup [.agg [.int .i64 1,.str (x0_0.extract 0 x5_1.toNat),.int .i64 0],.int .i64 x5_1,.bool true]),lcRet [] [] 0) else none) else none))) else none) else none))) else none) else none) else (if 0 ≤ x5_1 then (if x5_1 ≤ (↑x0_0.size : Int) then some (.ret (.tup [.agg [.int .i64 1,.str (x0_0.extract 0 x5_1.toNat),.int .i64 0],.int .i64 x5_1,.bool true]),lcRet [] [] 0) else none) else none)) := by kernel_rfl
theorem dossierref08_word.L1_s (n k0 : Nat) (s : ByteArray) (x0_0 : ByteArray) (x5_1 : Int) (x_2 : Int) (x_3 : ByteArray) (x_4 : Int) : dossierref08_word.L1 n (k0 + 1) s x0_0 x5_1 x_2 x_3 x_4 = (if decide (x5_1 < (↑x0_0.size : Int)) = true then (if 0 ≤ x5_1 then (if x5_1 < (↑x0_0.size : Int) then ((Q.dossierref08_letter.f (bt x0_0 x5_1)).bind fun v6 => (if v6 = true then (dossierref08_word.L1 n k0 s x0_0 (IntKind.i64.wrap (x5_1 + 1)) x_2 x_3 x_4) else (if 0 ≤ x5_1 then (if x5_1 < (↑x0_0.size : Int) then ((Q.dossierref08_digit.f (bt x0_0 x5_1)).bind fun v7 => (if (if true = true then if false = true then true else v7 else false) = true then (dossierref08_word.L1 n k0 s x0_0 (IntKind.i64.wrap (x5_1 + 1)) x_2 x_3 x_4) else (if 0 ≤ x5_1 then (if x5_1 ≤ (↑x0_0.size : Int) then some (.ret (.tup [.agg [.int .i64 1,.str (x0_0.extract 0 x5_1.toNat),.int .i64 0],.int .i64 x5_1,.bool true]),lcRet [] [] 0) else none) else none))) else none) else none))) else none) else none) else (if 0 ≤ x5_1 then (if x5_1 ≤ (↑x0_0.size : Int) then some (.ret (.tup [.agg [.int .i64 1,.str (x0_0.extract 0 x5_1.toNat),.int .i64 0],.int .i64 x5_1,.bool true]),lcRet [] [] 0) else none) else none)) := by kernel_rfl
theorem dossierref08_word.top (n : Nat) (s : ByteArray) : callX false (fnF cx_dossierref08_word noCalls n 46) ([.str s]) (lcSt [] 0) out = (if (0 : Int) < (↑s.size : Int) then ((Q.dossierref08_digit.f (bt s (0 : Int))).bind fun v0 => (if v0 = true then ((lim fun k => Q.dossierref08_integer.f k s).bind fun v1 => some (.ret (.tup [.agg [.int .i64 v1.1,.str v1.2.1,.int .i64 v1.2.2.1],.int .i64 v1.2.2.2.1,.bool v1.2.2.2.2]),lcRet [] [] 0)) else (if (0 : Int) < (↑s.size : Int) then (if (bt s (0 : Int) == 34) = true then ((lim fun k => Q.dossierref08_text.f k s).bind fun v2 => some (.ret (.tup [.agg [.int .i64 v2.1,.str v2.2.1,.int .i64 v2.2.2.1],.int .i64 v2.2.2.2.1,.bool v2.2.2.2.2]),lcRet [] [] 0)) else (if (0 : Int) < (↑s.size : Int) then ((Q.dossierref08_letter.f (bt s (0 : Int))).bind fun v3 => (if (!v3) = true then ((lim fun k => Q.dossierref08_sign.f k s).bind fun v4 => some (.ret (.tup [.agg [.int .i64 v4.1,.str v4.2.1,.int .i64 v4.2.2.1],.int .i64 v4.2.2.2.1,.bool v4.2.2.2.2]),lcRet [] [] 0)) else (dossierref08_word.L0 n n s s 1 0 (ByteArray.mk #[]) 0))) else none)) else none))) else none) := by kernel_rfl
def chars_Wrong.bs : List Nat := []
noncomputable def chars_Wrong.L0 (n k0 : Nat) (b : List Int) (x0_0 : List Int) (x3_1 : Int) : Option (Rr U0) := loopF cx_chars_Wrong noCalls k0 0 ([(0,false),(3,false)]) ((siteC (Tryz.f115.body.getD .skip) [1,0,1,0]).getD .skip) (siteK cx_chars_Wrong noCalls n [] (Tryz.f115.body.getD .skip) [1,0,1,0] (bodyK cx_chars_Wrong Tryz.f115 (lcSt [] 0) (callK false chars_Wrong.bs [] (lcSt [] 0) out))) (St.mk [(0,.sl (Ty.int IntKind.u8) x0_0 Perm.no),(3,.int .i64 x3_1)] [] [] 0 0 0 0 0 115 [] 28)
theorem chars_Wrong.L0_s (n k0 : Nat) (b : List Int) (x0_0 : List Int) (x3_1 : Int) : chars_Wrong.L0 n (k0 + 1) b x0_0 x3_1 = (if decide (x3_1 < (↑x0_0.length : Int)) = true then (if 0 ≤ x3_1 then (if x3_1 ≤ (↑x0_0.length : Int) then ((Q.chars_Decode.f (List.drop x3_1.toNat x0_0)).bind fun v0 => (if (v0.2 == 0) = true then some (.ret (.int .i64 x3_1),lcRet [] [] 0) else ((lim fun k => Q.chars_ofXML.f k v0.1).bind fun v1 => (if (if false = true then true else !v1) = true then some (.ret (.int .i64 x3_1),lcRet [] [] 0) else (chars_Wrong.L0 n k0 b x0_0 (IntKind.i64.wrap (x3_1 + v0.2))))))) else none) else none) else some (.ret (.int .i64 (-1 : Int)),lcRet [] [] 0)) := by kernel_rfl
theorem chars_Wrong.top (n : Nat) (b : List Int) : callX false (fnF cx_chars_Wrong noCalls n 115) ([.sl (Ty.int IntKind.u8) b Perm.no]) (lcSt [] 0) out = (chars_Wrong.L0 n n b b 0) := by kernel_rfl
def lexer_Words.bs : List Nat := []
noncomputable def lexer_Words.L0 (n k0 : Nat) (s : ByteArray) (x0_0 : ByteArray) (x5_1 : List (Ty.den U0 ((Ty.int IntKind.i64).pair (Ty.str.pair (Ty.int IntKind.i64))))) (x6_2 : ByteArray) : Option (Rr U0) := loopF cx_lexer_Words noCalls k0 0 ([(0,false),(5,true),(6,false)]) ((siteC (Tryz.f22.body.getD .skip) [1,1,1,0,1,0]).getD .skip) (siteK cx_lexer_Words noCalls n [] (Tryz.f22.body.getD .skip) [1,1,1,0,1,0] (bodyK cx_lexer_Words Tryz.f22 (lcSt [] 0) (callK false lexer_Words.bs [] (lcSt [] 0) out))) (St.mk [(0,.str x0_0),(5,.sl ((Ty.int IntKind.i64).pair (Ty.str.pair (Ty.int IntKind.i64))) x5_1 (Perm.tok 0)),(6,.str x6_2)] [] [0] 1 0 0 0 0 22 [] 41)
theorem lexer_Words.L0_s (n k0 : Nat) (s : ByteArray) (x0_0 : ByteArray) (x5_1 : List (Ty.den U0 ((Ty.int IntKind.i64).pair (Ty.str.pair (Ty.int IntKind.i64))))) (x6_2 : ByteArray) : lexer_Words.L0 n (k0 + 1) s x0_0 x5_1 x6_2 = (if (!seq x6_2 (ByteArray.mk #[])) = true then ((lim fun k => Q.lexer_word.f k x6_2).bind fun v1 => (if (v1.2.2.2 == 0) = true then some (.ret (.tup [.sl ((Ty.int IntKind.i64).pair (Ty.str.pair (Ty.int IntKind.i64))) [] Perm.no,.int .i64 (IntKind.i64.wrap ((↑x0_0.size : Int) - (↑x6_2.size : Int))),.int .i64 20]),lcRet [] [] 0) else (if (x5_1.length + [(v1.1,v1.2.1,v1.2.2.1)].length) * 32 ≤ most then (if 0 ≤ v1.2.2.2 then (if v1.2.2.2 ≤ (↑x6_2.size : Int) then ((Q.strings_TrimLeft.f (x6_2.extract v1.2.2.2.toNat x6_2.size) (ByteArray.mk #[32,9,10,13])).bind fun v2 => (lexer_Words.L0 n k0 s x0_0 (x5_1 ++ [(v1.1,v1.2.1,v1.2.2.1)]) v2)) else none) else none) else none))) else (if (x5_1.length + [((0 : Int),ByteArray.mk #[],(0 : Int))].length) * 32 ≤ most then some (.ret (.tup [.sl ((Ty.int IntKind.i64).pair (Ty.str.pair (Ty.int IntKind.i64))) (x5_1 ++ [((0 : Int),ByteArray.mk #[],(0 : Int))]) Perm.no,.int .i64 0,.int .i64 0]),lcRet [] [] 0) else none)) := by kernel_rfl
theorem lexer_Words.top (n : Nat) (s : ByteArray) : callX false (fnF cx_lexer_Words noCalls n 22) ([.str s]) (lcSt [] 0) out = (if decide ((↑s.size : Int) > 400) = true then some (.ret (.tup [.sl ((Ty.int IntKind.i64).pair (Ty.str.pair (Ty.int IntKind.i64))) [] Perm.no,.int .i64 0,.int .i64 4]),lcRet [] [] 0) else ((Q.strings_TrimLeft.f s (ByteArray.mk #[32,9,10,13])).bind fun v0 => (lexer_Words.L0 n n s s [] v0))) := by kernel_rfl
def dossierref01_Number.bs : List Nat := []
noncomputable def dossierref01_Number.L0 (n k0 : Nat) (s : ByteArray) (x0_0 : ByteArray) (x4_1 : ByteArray) (x33_2 : Int) (x34_3 : Int) : Option (Rr U0) := loopF cx_dossierref01_Number noCalls k0 0 ([(0,false),(4,false),(33,false),(34,false)]) ((siteC (Tryz.f122.body.getD .skip) [1,1,1,1,0,1,0]).getD .skip) (siteK cx_dossierref01_Number noCalls n [] (Tryz.f122.body.getD .skip) [1,1,1,1,0,1,0] (bodyK cx_dossierref01_Number Tryz.f122 (lcSt [] 0) (callK false dossierref01_Number.bs [] (lcSt [] 0) out))) (St.mk [(0,.str x0_0),(4,.str x4_1),(33,.int .i64 x33_2),(34,.int .i64 x34_3)] [] [] 0 0 0 0 0 122 [] 77)
noncomputable def dossierref01_Number.L1 (n k0 : Nat) (s : ByteArray) (x0_0 : ByteArray) (x4_1 : ByteArray) (x6_2 : Int) (x52_3 : Int) (x53_4 : Int) : Option (Rr U0) := loopF cx_dossierref01_Number noCalls k0 0 ([(0,false),(4,false),(6,false),(52,false),(53,false)]) ((siteC (Tryz.f122.body.getD .skip) [1,1,1,1,1,1,1,0,1,0]).getD .skip) (siteK cx_dossierref01_Number noCalls n [] (Tryz.f122.body.getD .skip) [1,1,1,1,1,1,1,0,1,0] (bodyK cx_dossierref01_Number Tryz.f122 (lcSt [] 0) (callK false dossierref01_Number.bs [] (lcSt [] 0) out))) (St.mk [(0,.str x0_0),(4,.str x4_1),(6,.int .i64 x6_2),(52,.int .i64 x52_3),(53,.int .i64 x53_4)] [] [] 0 0 0 0 0 122 [] 77)
theorem dossierref01_Number.L0_s (n k0 : Nat) (s : ByteArray) (x0_0 : ByteArray) (x4_1 : ByteArray) (x33_2 : Int) (x34_3 : Int) : dossierref01_Number.L0 n (k0 + 1) s x0_0 x4_1 x33_2 x34_3 = (if decide (x34_3 < x33_2) = true then (if 0 ≤ x34_3 then (if x34_3 < (↑x4_1.size : Int) then (if decide (bt x4_1 x34_3 < 48) = true then some (.ret (.tup [.int .i64 0,.int .i64 5]),lcRet [] [] 0) else (if 0 ≤ x34_3 then (if x34_3 < (↑x4_1.size : Int) then (if (if false = true then true else decide (bt x4_1 x34_3 > 57)) = true then some (.ret (.tup [.int .i64 0,.int .i64 5]),lcRet [] [] 0) else (dossierref01_Number.L0 n k0 s x0_0 x4_1 x33_2 (IntKind.i64.wrap (x34_3 + 1)))) else none) else none)) else none) else none) else (if decide ((↑x4_1.size : Int) > 19) = true then some (.ret (.tup [.int .i64 0,.int .i64 4]),lcRet [] [] 0) else (dossierref01_Number.L1 n n s x0_0 x4_1 0 ((↑x4_1.size : Int)) 0))) := by kernel_rfl
theorem dossierref01_Number.L1_s (n k0 : Nat) (s : ByteArray) (x0_0 : ByteArray) (x4_1 : ByteArray) (x6_2 : Int) (x52_3 : Int) (x53_4 : Int) : dossierref01_Number.L1 n (k0 + 1) s x0_0 x4_1 x6_2 x52_3 x53_4 = (if decide (x53_4 < x52_3) = true then (if 0 ≤ x53_4 then (if x53_4 < (↑x4_1.size : Int) then (dossierref01_Number.L1 n k0 s x0_0 x4_1 (IntKind.i64.wrap (IntKind.i64.wrap ((10 : Int) * x6_2) - IntKind.i64.wrap (IntKind.u8.wrap (bt x4_1 x53_4 - 48)))) x52_3 (IntKind.i64.wrap (x53_4 + 1))) else none) else none) else (if ((↑x4_1.size : Int) == (↑x0_0.size : Int)) = true then ((lim fun k => Q.dossierref01_Text.f k (IntKind.i64.wrap ((0 : Int) - x6_2))).bind fun v0 => (if (!seq v0 x0_0) = true then some (.ret (.tup [.int .i64 0,.int .i64 4]),lcRet [] [] 0) else some (.ret (.tup [.int .i64 (IntKind.i64.wrap ((0 : Int) - x6_2)),.int .i64 0]),lcRet [] [] 0))) else ((lim fun k => Q.dossierref01_Text.f k x6_2).bind fun v1 => (if (!seq v1 x0_0) = true then some (.ret (.tup [.int .i64 0,.int .i64 4]),lcRet [] [] 0) else some (.ret (.tup [.int .i64 x6_2,.int .i64 0]),lcRet [] [] 0))))) := by kernel_rfl
theorem dossierref01_Number.top (n : Nat) (s : ByteArray) : callX false (fnF cx_dossierref01_Number noCalls n 122) ([.str s]) (lcSt [] 0) out = (if decide ((↑s.size : Int) > 0) = true then (if (0 : Int) < (↑s.size : Int) then (if (if true = true then bt s (0 : Int) == 45 else false) = true then (if (1 : Int) ≤ (↑s.size : Int) then (if ((↑(s.extract (Int.toNat (1 : Int)) s.size).size : Int) == 0) = true then some (.ret (.tup [.int .i64 0,.int .i64 5]),lcRet [] [] 0) else (if (0 : Int) < (↑(s.extract (Int.toNat (1 : Int)) s.size).size : Int) then (if (if false = true then true else if (bt (s.extract (Int.toNat (1 : Int)) s.size) (0 : Int) == 48) = true then decide ((↑s.size : Int) > 1) else false) = true then some (.ret (.tup [.int .i64 0,.int .i64 5]),lcRet [] [] 0) else (dossierref01_Number.L0 n n s s (s.extract (Int.toNat (1 : Int)) s.size) ((↑(s.extract (Int.toNat (1 : Int)) s.size).size : Int)) 0)) else none)) else none) else (if ((↑s.size : Int) == 0) = true then some (.ret (.tup [.int .i64 0,.int .i64 5]),lcRet [] [] 0) else (if (0 : Int) < (↑s.size : Int) then (if (if false = true then true else if (bt s (0 : Int) == 48) = true then decide ((↑s.size : Int) > 1) else false) = true then some (.ret (.tup [.int .i64 0,.int .i64 5]),lcRet [] [] 0) else (dossierref01_Number.L0 n n s s s ((↑s.size : Int)) 0)) else none))) else none) else (if ((↑s.size : Int) == 0) = true then some (.ret (.tup [.int .i64 0,.int .i64 5]),lcRet [] [] 0) else (if (0 : Int) < (↑s.size : Int) then (if (if false = true then true else if (bt s (0 : Int) == 48) = true then decide ((↑s.size : Int) > 1) else false) = true then some (.ret (.tup [.int .i64 0,.int .i64 5]),lcRet [] [] 0) else (dossierref01_Number.L0 n n s s s ((↑s.size : Int)) 0)) else none))) := by kernel_rfl
def dossierref08_Words.bs : List Nat := []
noncomputable def dossierref08_Words.L0 (n k0 : Nat) (s : ByteArray) (x0_0 : ByteArray) (x5_1 : List (Ty.den U0 ((Ty.int IntKind.i64).pair (Ty.str.pair (Ty.int IntKind.i64))))) (x6_2 : Int) : Option (Rr U0) := loopF cx_dossierref08_Words noCalls k0 0 ([(0,false),(5,true),(6,false)]) ((siteC (Tryz.f29.body.getD .skip) [1,1,1,0,1,0]).getD .skip) (siteK cx_dossierref08_Words noCalls n [] (Tryz.f29.body.getD .skip) [1,1,1,0,1,0] (bodyK cx_dossierref08_Words Tryz.f29 (lcSt [] 0) (callK false dossierref08_Words.bs [] (lcSt [] 0) out))) (St.mk [(0,.str x0_0),(5,.sl ((Ty.int IntKind.i64).pair (Ty.str.pair (Ty.int IntKind.i64))) x5_1 (Perm.tok 0)),(6,.int .i64 x6_2)] [] [0] 1 0 0 0 0 29 [] 46)
theorem dossierref08_Words.L0_s (n k0 : Nat) (s : ByteArray) (x0_0 : ByteArray) (x5_1 : List (Ty.den U0 ((Ty.int IntKind.i64).pair (Ty.str.pair (Ty.int IntKind.i64))))) (x6_2 : Int) : dossierref08_Words.L0 n (k0 + 1) s x0_0 x5_1 x6_2 = (if decide (x6_2 < (↑x0_0.size : Int)) = true then (if 0 ≤ x6_2 then (if x6_2 < (↑x0_0.size : Int) then ((Q.dossierref01_Space.f (IntKind.i64.wrap (bt x0_0 x6_2))).bind fun v0 => (if v0 = true then (dossierref08_Words.L0 n k0 s x0_0 x5_1 (IntKind.i64.wrap (x6_2 + 1))) else (if 0 ≤ x6_2 then (if x6_2 ≤ (↑x0_0.size : Int) then ((lim fun k => Q.dossierref08_word.f k (x0_0.extract x6_2.toNat x0_0.size)).bind fun v1 => (if (!v1.2.2.2.2) = true then some (.ret (.tup [.sl ((Ty.int IntKind.i64).pair (Ty.str.pair (Ty.int IntKind.i64))) [] Perm.no,.int .i64 x6_2,.int .i64 20]),lcRet [] [] 0) else (if (x5_1.length + [(v1.1,v1.2.1,v1.2.2.1)].length) * 32 ≤ most then (dossierref08_Words.L0 n k0 s x0_0 (x5_1 ++ [(v1.1,v1.2.1,v1.2.2.1)]) (IntKind.i64.wrap (x6_2 + v1.2.2.2.1))) else none))) else none) else none))) else none) else none) else (if (x5_1.length + [((0 : Int),ByteArray.mk #[],(0 : Int))].length) * 32 ≤ most then some (.ret (.tup [.sl ((Ty.int IntKind.i64).pair (Ty.str.pair (Ty.int IntKind.i64))) (x5_1 ++ [((0 : Int),ByteArray.mk #[],(0 : Int))]) Perm.no,.int .i64 0,.int .i64 0]),lcRet [] [] 0) else none)) := by kernel_rfl
theorem dossierref08_Words.top (n : Nat) (s : ByteArray) : callX false (fnF cx_dossierref08_Words noCalls n 29) ([.str s]) (lcSt [] 0) out = (if decide ((↑s.size : Int) > 400) = true then some (.ret (.tup [.sl ((Ty.int IntKind.i64).pair (Ty.str.pair (Ty.int IntKind.i64))) [] Perm.no,.int .i64 0,.int .i64 4]),lcRet [] [] 0) else (dossierref08_Words.L0 n n s s [] 0)) := by kernel_rfl
def chars_Number.bs : List Nat := []
noncomputable def chars_Number.L0 (n k0 : Nat) (s : ByteArray) (x4_0 : Bool) (x6_1 : Int) (x7_2 : Bool) (x39_3 : List Int) (x40_4 : Int) (x41_5 : Int) : Option (Rr U0) := loopF cx_chars_Number noCalls k0 0 ([(4,false),(6,false),(7,false),(39,false),(40,false),(41,false)]) ((siteC (Tryz.f70.body.getD .skip) [1,1,1,1,1,1,1,0,1,0]).getD .skip) (siteK cx_chars_Number noCalls n [] (Tryz.f70.body.getD .skip) [1,1,1,1,1,1,1,0,1,0] (bodyK cx_chars_Number Tryz.f70 (lcSt [] 0) (callK false chars_Number.bs [] (lcSt [] 0) out))) (St.mk [(4,.bool x4_0),(6,.int .u64 x6_1),(7,.bool x7_2),(39,.sl (Ty.int IntKind.u8) x39_3 Perm.no),(40,.int .i64 x40_4),(41,.int .i64 x41_5)] [] [] 0 0 0 0 0 70 [] 78)
theorem chars_Number.L0_s (n k0 : Nat) (s : ByteArray) (x4_0 : Bool) (x6_1 : Int) (x7_2 : Bool) (x39_3 : List Int) (x40_4 : Int) (x41_5 : Int) : chars_Number.L0 n (k0 + 1) s x4_0 x6_1 x7_2 x39_3 x40_4 x41_5 = (if decide (x41_5 < x40_4) = true then (if 0 ≤ x41_5 then ((nth x39_3 x41_5.toNat).bind fun v0 => (if (if decide (v0 < 48) = true then true else decide (v0 > 57)) = true then some (.ret (.tup [.int .i64 0,.int .i64 5]),lcRet [] [] 0) else (if (!x7_2) = true then (chars_Number.L0 n k0 s x4_0 (IntKind.u64.wrap (IntKind.u64.wrap ((10 : Int) * x6_1) + IntKind.u64.wrap (IntKind.u8.wrap (v0 - 48)))) x7_2 x39_3 x40_4 (IntKind.i64.wrap (x41_5 + 1))) else (chars_Number.L0 n k0 s x4_0 x6_1 x7_2 x39_3 x40_4 (IntKind.i64.wrap (x41_5 + 1)))))) else none) else (if (!x4_0) = true then (if (if x7_2 = true then true else decide (x6_1 > 9223372036854775807)) = true then some (.ret (.tup [.int .i64 0,.int .i64 4]),lcRet [] [] 0) else (if x4_0 = true then some (.ret (.tup [.int .i64 (IntKind.i64.wrap ((0 : Int) - IntKind.i64.wrap x6_1)),.int .i64 0]),lcRet [] [] 0) else some (.ret (.tup [.int .i64 (IntKind.i64.wrap x6_1),.int .i64 0]),lcRet [] [] 0))) else (if (if x7_2 = true then true else decide (x6_1 > 9223372036854775808)) = true then some (.ret (.tup [.int .i64 0,.int .i64 4]),lcRet [] [] 0) else (if x4_0 = true then some (.ret (.tup [.int .i64 (IntKind.i64.wrap ((0 : Int) - IntKind.i64.wrap x6_1)),.int .i64 0]),lcRet [] [] 0) else some (.ret (.tup [.int .i64 (IntKind.i64.wrap x6_1),.int .i64 0]),lcRet [] [] 0))))) := by kernel_rfl
theorem chars_Number.top (n : Nat) (s : ByteArray) : callX false (fnF cx_chars_Number noCalls n 70) ([.str s]) (lcSt [] 0) out = (if decide ((↑s.size : Int) > 0) = true then (if (0 : Int) < (↑s.size : Int) then (if (if true = true then bt s (0 : Int) == 45 else false) = true then (if (1 : Int) ≤ (↑s.size : Int) then (if seq (s.extract (Int.toNat (1 : Int)) s.size) (ByteArray.mk #[]) = true then some (.ret (.tup [.int .i64 0,.int .i64 5]),lcRet [] [] 0) else (if (0 : Int) < (↑(s.extract (Int.toNat (1 : Int)) s.size).size : Int) then (if (if false = true then true else if (bt (s.extract (Int.toNat (1 : Int)) s.size) (0 : Int) == 48) = true then decide ((↑s.size : Int) > 1) else false) = true then some (.ret (.tup [.int .i64 0,.int .i64 5]),lcRet [] [] 0) else (chars_Number.L0 n n s (if true = true then bt s (0 : Int) == 45 else false) 0 (decide ((↑(s.extract (Int.toNat (1 : Int)) s.size).size : Int) > 19)) (toBytes (s.extract (Int.toNat (1 : Int)) s.size)) ((↑(toBytes (s.extract (Int.toNat (1 : Int)) s.size)).length : Int)) 0)) else none)) else none) else (if seq s (ByteArray.mk #[]) = true then some (.ret (.tup [.int .i64 0,.int .i64 5]),lcRet [] [] 0) else (if (0 : Int) < (↑s.size : Int) then (if (if false = true then true else if (bt s (0 : Int) == 48) = true then decide ((↑s.size : Int) > 1) else false) = true then some (.ret (.tup [.int .i64 0,.int .i64 5]),lcRet [] [] 0) else (chars_Number.L0 n n s (if true = true then bt s (0 : Int) == 45 else false) 0 (decide ((↑s.size : Int) > 19)) (toBytes s) ((↑(toBytes s).length : Int)) 0)) else none))) else none) else (if seq s (ByteArray.mk #[]) = true then some (.ret (.tup [.int .i64 0,.int .i64 5]),lcRet [] [] 0) else (if (0 : Int) < (↑s.size : Int) then (if (if false = true then true else if (bt s (0 : Int) == 48) = true then decide ((↑s.size : Int) > 1) else false) = true then some (.ret (.tup [.int .i64 0,.int .i64 5]),lcRet [] [] 0) else (chars_Number.L0 n n s false 0 (decide ((↑s.size : Int) > 19)) (toBytes s) ((↑(toBytes s).length : Int)) 0)) else none))) := by kernel_rfl
theorem dossierref01_Space.top (n : Nat) (r : Int) : callX false (fnF cx_dossierref01_Space noCalls n 45) ([.int .i64 r]) (lcSt [] 0) out = some (.ret (.bool (if (if (if (r == 9) = true then true else r == 10) = true then true else r == 13) = true then true else r == 32)),lcRet [] [] 0) := by kernel_rfl
theorem dossierref08_digit.top (n : Nat) (x : Int) : callX false (fnF cx_dossierref08_digit noCalls n 91) ([.int .u8 x]) (lcSt [] 0) out = some (.ret (.bool (if decide (x ≥ 48) = true then decide (x ≤ 57) else false)),lcRet [] [] 0) := by kernel_rfl
theorem lexer_is.top (n : Nat) (x : Int) (s : ByteArray) : callX false (fnF cx_lexer_is noCalls n 68) ([.int .u8 x,.str s]) (lcSt [] 0) out = ((Q.strings_IndexByte.f s x).bind fun v0 => some (.ret (.bool (decide (v0 ≥ 0))),lcRet [] [] 0)) := by kernel_rfl
theorem dossierref01_Encode.top (n : Nat) (r : Int) : callX false (fnF cx_dossierref01_Encode noCalls n 153) ([.int .i64 r]) (lcSt [] 0) out = (if (if (if decide (r < 0) = true then true else decide (r > 1114111)) = true then true else if decide (r ≥ 55296) = true then decide (r ≤ 57343) else false) = true then some (.ret (.sl (Ty.int IntKind.u8) [] Perm.no),lcRet [] [] 0) else (if decide (r < 128) = true then some (.ret (.sl (Ty.int IntKind.u8) [IntKind.u8.wrap r] Perm.no),lcRet [] [] 0) else (if decide (r < 2048) = true then some (.ret (.sl (Ty.int IntKind.u8) [IntKind.u8.wrap (IntKind.i64.wrap ((192 : Int) + r.fdiv ((2 : Int) ^ min (Int.toNat (6 : Int)) IntKind.i64.bits))),IntKind.u8.wrap (IntKind.i64.wrap ((128 : Int) + r.tmod (64 : Int)))] Perm.no),lcRet [] [] 0) else (if decide (r < 65536) = true then some (.ret (.sl (Ty.int IntKind.u8) [IntKind.u8.wrap (IntKind.i64.wrap ((224 : Int) + r.fdiv ((2 : Int) ^ min (Int.toNat (12 : Int)) IntKind.i64.bits))),IntKind.u8.wrap (IntKind.i64.wrap ((128 : Int) + (r.fdiv ((2 : Int) ^ min (Int.toNat (6 : Int)) IntKind.i64.bits)).tmod (64 : Int))),IntKind.u8.wrap (IntKind.i64.wrap ((128 : Int) + r.tmod (64 : Int)))] Perm.no),lcRet [] [] 0) else some (.ret (.sl (Ty.int IntKind.u8) [IntKind.u8.wrap (IntKind.i64.wrap ((240 : Int) + r.fdiv ((2 : Int) ^ min (Int.toNat (18 : Int)) IntKind.i64.bits))),IntKind.u8.wrap (IntKind.i64.wrap ((128 : Int) + (r.fdiv ((2 : Int) ^ min (Int.toNat (12 : Int)) IntKind.i64.bits)).tmod (64 : Int))),IntKind.u8.wrap (IntKind.i64.wrap ((128 : Int) + (r.fdiv ((2 : Int) ^ min (Int.toNat (6 : Int)) IntKind.i64.bits)).tmod (64 : Int))),IntKind.u8.wrap (IntKind.i64.wrap ((128 : Int) + r.tmod (64 : Int)))] Perm.no),lcRet [] [] 0))))) := by kernel_rfl
theorem dossierref08_letter.top (n : Nat) (x : Int) : callX false (fnF cx_dossierref08_letter noCalls n 94) ([.int .u8 x]) (lcSt [] 0) out = some (.ret (.bool (if (if (if decide (x ≥ 65) = true then decide (x ≤ 90) else false) = true then true else if decide (x ≥ 97) = true then decide (x ≤ 122) else false) = true then true else x == 95)),lcRet [] [] 0) := by kernel_rfl
def lexer_run.bs : List Nat := []
noncomputable def lexer_run.L0 (n k0 : Nat) (s : ByteArray) (t : ByteArray) (x0_0 : ByteArray) (x1_1 : ByteArray) (x5_2 : Int) : Option (Rr U0) := loopF cx_lexer_run noCalls k0 0 ([(0,false),(1,false),(5,false)]) ((siteC (Tryz.f69.body.getD .skip) [1,1,0,0]).getD .skip) (siteK cx_lexer_run noCalls n [] (Tryz.f69.body.getD .skip) [1,1,0,0] (bodyK cx_lexer_run Tryz.f69 (lcSt [] 0) (callK false lexer_run.bs [] (lcSt [] 0) out))) (St.mk [(0,.str x0_0),(1,.str x1_1),(5,.int .i64 x5_2)] [] [] 0 0 0 0 0 69 [] 22)
theorem lexer_run.L0_s (n k0 : Nat) (s : ByteArray) (t : ByteArray) (x0_0 : ByteArray) (x1_1 : ByteArray) (x5_2 : Int) : lexer_run.L0 n (k0 + 1) s t x0_0 x1_1 x5_2 = (if decide (x5_2 < (↑x0_0.size : Int)) = true then (if 0 ≤ x5_2 then (if x5_2 < (↑x0_0.size : Int) then ((Q.lexer_is.f (bt x0_0 x5_2) x1_1).bind fun v0 => (if (if true = true then v0 else false) = true then (lexer_run.L0 n k0 s t x0_0 x1_1 (IntKind.i64.wrap (x5_2 + 1))) else (if 0 ≤ x5_2 then (if x5_2 ≤ (↑x0_0.size : Int) then some (.ret (.str (x0_0.extract 0 x5_2.toNat)),lcRet [] [] 0) else none) else none))) else none) else none) else (if 0 ≤ x5_2 then (if x5_2 ≤ (↑x0_0.size : Int) then some (.ret (.str (x0_0.extract 0 x5_2.toNat)),lcRet [] [] 0) else none) else none)) := by kernel_rfl
theorem lexer_run.top (n : Nat) (s : ByteArray) (t : ByteArray) : callX false (fnF cx_lexer_run noCalls n 69) ([.str s,.str t]) (lcSt [] 0) out = (lexer_run.L0 n n s t s t 0) := by kernel_rfl
def dossierref01_Decode.bs : List Nat := []
noncomputable def dossierref01_Decode.L0 (n k0 : Nat) (b : List Int) (x0_0 : List Int) (x4_1 : Int) (x5_2 : Int) (x51_3 : List (Ty.den U0 (Ty.int IntKind.u8))) (x52_4 : Int) (x53_5 : Int) : Option (Rr U0) := loopF cx_dossierref01_Decode noCalls k0 0 ([(0,false),(4,false),(5,false),(51,false),(52,false),(53,false)]) ((siteC (Tryz.f123.body.getD .skip) [1,1,1,1,1,0,1,0]).getD .skip) (siteK cx_dossierref01_Decode noCalls n [] (Tryz.f123.body.getD .skip) [1,1,1,1,1,0,1,0] (bodyK cx_dossierref01_Decode Tryz.f123 (lcSt [] 0) (callK false dossierref01_Decode.bs [] (lcSt [] 0) out))) (St.mk [(0,.sl (Ty.int IntKind.u8) x0_0 Perm.no),(4,.int .i64 x4_1),(5,.int .i64 x5_2),(51,.sl (Ty.int IntKind.u8) x51_3 Perm.no),(52,.int .i64 x52_4),(53,.int .i64 x53_5)] [] [] 0 0 0 0 0 123 [] 80)
theorem dossierref01_Decode.L0_s (n k0 : Nat) (b : List Int) (x0_0 : List Int) (x4_1 : Int) (x5_2 : Int) (x51_3 : List (Ty.den U0 (Ty.int IntKind.u8))) (x52_4 : Int) (x53_5 : Int) : dossierref01_Decode.L0 n (k0 + 1) b x0_0 x4_1 x5_2 x51_3 x52_4 x53_5 = (if decide (x53_5 < x52_4) = true then (if 0 ≤ x53_5 then ((nth x51_3 x53_5.toNat).bind fun v3 => (if (if decide (v3 < 128) = true then true else decide (v3 > 191)) = true then some (.ret (.tup [.int .i64 0,.int .i64 0]),lcRet [] [] 0) else (dossierref01_Decode.L0 n k0 b x0_0 x4_1 (IntKind.i64.wrap (IntKind.i64.wrap (IntKind.i64.wrap (x5_2 * (64 : Int)) + IntKind.i64.wrap v3) - 128)) x51_3 x52_4 (IntKind.i64.wrap (x53_5 + 1))))) else none) else (if 0 ≤ x4_1 then (if x4_1 ≤ (↑x0_0.length : Int) then ((lim fun k => Q.dossierref01_Encode.f k x5_2).bind fun v4 => (if (!seq (ofBytes v4) (ofBytes (List.take x4_1.toNat x0_0))) = true then some (.ret (.tup [.int .i64 0,.int .i64 0]),lcRet [] [] 0) else some (.ret (.tup [.int .i64 x5_2,.int .i64 x4_1]),lcRet [] [] 0))) else none) else none)) := by kernel_rfl
theorem dossierref01_Decode.top (n : Nat) (b : List Int) : callX false (fnF cx_dossierref01_Decode noCalls n 123) ([.sl (Ty.int IntKind.u8) b Perm.no]) (lcSt [] 0) out = (if ((↑b.length : Int) == 0) = true then some (.ret (.tup [.int .i64 0,.int .i64 0]),lcRet [] [] 0) else ((nth b (Int.toNat (0 : Int))).bind fun v0 => ((nth b (Int.toNat (0 : Int))).bind fun v1 => (if decide (v1 ≥ 240) = true then ((nth b (Int.toNat (0 : Int))).bind fun v2 => (if decide ((4 : Int) > (↑b.length : Int)) = true then some (.ret (.tup [.int .i64 0,.int .i64 0]),lcRet [] [] 0) else (if (4 : Int) ≤ (↑b.length : Int) then (dossierref01_Decode.L0 n n b b 4 (IntKind.i64.wrap (IntKind.i64.wrap v2 - 240)) (List.drop (Int.toNat (1 : Int)) (List.take (Int.toNat (4 : Int)) b)) ((↑(List.drop (Int.toNat (1 : Int)) (List.take (Int.toNat (4 : Int)) b)).length : Int)) 0) else none))) else ((nth b (Int.toNat (0 : Int))).bind fun v5 => (if decide (v5 ≥ 224) = true then ((nth b (Int.toNat (0 : Int))).bind fun v6 => (if decide ((3 : Int) > (↑b.length : Int)) = true then some (.ret (.tup [.int .i64 0,.int .i64 0]),lcRet [] [] 0) else (if (3 : Int) ≤ (↑b.length : Int) then (dossierref01_Decode.L0 n n b b 3 (IntKind.i64.wrap (IntKind.i64.wrap v6 - 224)) (List.drop (Int.toNat (1 : Int)) (List.take (Int.toNat (3 : Int)) b)) ((↑(List.drop (Int.toNat (1 : Int)) (List.take (Int.toNat (3 : Int)) b)).length : Int)) 0) else none))) else ((nth b (Int.toNat (0 : Int))).bind fun v7 => (if decide (v7 ≥ 192) = true then ((nth b (Int.toNat (0 : Int))).bind fun v8 => (if decide ((2 : Int) > (↑b.length : Int)) = true then some (.ret (.tup [.int .i64 0,.int .i64 0]),lcRet [] [] 0) else (if (2 : Int) ≤ (↑b.length : Int) then (dossierref01_Decode.L0 n n b b 2 (IntKind.i64.wrap (IntKind.i64.wrap v8 - 192)) (List.drop (Int.toNat (1 : Int)) (List.take (Int.toNat (2 : Int)) b)) ((↑(List.drop (Int.toNat (1 : Int)) (List.take (Int.toNat (2 : Int)) b)).length : Int)) 0) else none))) else (if decide ((1 : Int) > (↑b.length : Int)) = true then some (.ret (.tup [.int .i64 0,.int .i64 0]),lcRet [] [] 0) else (if (1 : Int) ≤ (↑b.length : Int) then (dossierref01_Decode.L0 n n b b 1 (IntKind.i64.wrap v0) (List.drop (Int.toNat (1 : Int)) (List.take (Int.toNat (1 : Int)) b)) ((↑(List.drop (Int.toNat (1 : Int)) (List.take (Int.toNat (1 : Int)) b)).length : Int)) 0) else none)))))))))) := by kernel_rfl
def dossierref08_integer.bs : List Nat := []
noncomputable def dossierref08_integer.L0 (n k0 : Nat) (s : ByteArray) (x0_0 : ByteArray) (x5_1 : Int) (x_2 : Int) (x_3 : ByteArray) (x_4 : Int) : Option (Rr U0) := loopF cx_dossierref08_integer noCalls k0 (1) ([(0,false),(2,false),(5,false)]) ((siteC (Tryz.f92.body.getD .skip) [1,1,0,0]).getD .skip) (siteK cx_dossierref08_integer noCalls n [] (Tryz.f92.body.getD .skip) [1,1,0,0] (bodyK cx_dossierref08_integer Tryz.f92 (lcSt [] 0) (callK false dossierref08_integer.bs [] (lcSt [] 0) out))) (St.mk [(0,.str x0_0),(2,.ptr 0 0),(5,.int .i64 x5_1)] [[.int .i64 x_2,.str x_3,.int .i64 x_4]] [] 0 0 0 0 0 92 [] 32)
noncomputable def dossierref08_integer.L1 (n k0 : Nat) (s : ByteArray) (x0_0 : ByteArray) (x5_1 : Int) (x_2 : Int) (x_3 : ByteArray) (x_4 : Int) : Option (Rr U0) := loopF cx_dossierref08_integer noCalls k0 (1) ([(0,false),(2,false),(5,false)]) ((siteC (Tryz.f92.body.getD .skip) [1,1,0,0]).getD .skip) (siteK cx_dossierref08_integer noCalls n [] (Tryz.f92.body.getD .skip) [1,1,0,0] (bodyK cx_dossierref08_integer Tryz.f92 (lcSt [] 0) (callK false dossierref08_integer.bs [] (lcSt [] 0) out))) (St.mk [(0,.str x0_0),(2,.ptr 0 0),(5,.int .i64 x5_1)] [[.int .i64 x_2,.str x_3,.int .i64 x_4]] [] 0 0 0 0 0 92 [] 32)
theorem dossierref08_integer.L0_s (n k0 : Nat) (s : ByteArray) (x0_0 : ByteArray) (x5_1 : Int) (x_2 : Int) (x_3 : ByteArray) (x_4 : Int) : dossierref08_integer.L0 n (k0 + 1) s x0_0 x5_1 x_2 x_3 x_4 = (if decide (x5_1 < (↑x0_0.size : Int)) = true then (if 0 ≤ x5_1 then (if x5_1 < (↑x0_0.size : Int) then ((Q.dossierref08_digit.f (bt x0_0 x5_1)).bind fun v0 => (if (if true = true then v0 else false) = true then (dossierref08_integer.L1 n k0 s x0_0 (IntKind.i64.wrap (x5_1 + 1)) x_2 x_3 x_4) else (if 0 ≤ x5_1 then (if x5_1 ≤ (↑x0_0.size : Int) then ((lim fun k => Q.dossierref01_Number.f k (x0_0.extract 0 x5_1.toNat)).bind fun v4 => some (.ret (.tup [.agg [.int .i64 2,.str (ByteArray.mk #[]),.int .i64 v4.1],.int .i64 x5_1,.bool (v4.2 == 0)]),lcRet [] [] 0)) else none) else none))) else none) else none) else (if 0 ≤ x5_1 then (if x5_1 ≤ (↑x0_0.size : Int) then ((lim fun k => Q.dossierref01_Number.f k (x0_0.extract 0 x5_1.toNat)).bind fun v5 => some (.ret (.tup [.agg [.int .i64 2,.str (ByteArray.mk #[]),.int .i64 v5.1],.int .i64 x5_1,.bool (v5.2 == 0)]),lcRet [] [] 0)) else none) else none)) := by kernel_rfl
theorem dossierref08_integer.L1_s (n k0 : Nat) (s : ByteArray) (x0_0 : ByteArray) (x5_1 : Int) (x_2 : Int) (x_3 : ByteArray) (x_4 : Int) : dossierref08_integer.L1 n (k0 + 1) s x0_0 x5_1 x_2 x_3 x_4 = (if decide (x5_1 < (↑x0_0.size : Int)) = true then (if 0 ≤ x5_1 then (if x5_1 < (↑x0_0.size : Int) then ((Q.dossierref08_digit.f (bt x0_0 x5_1)).bind fun v1 => (if (if true = true then v1 else false) = true then (dossierref08_integer.L1 n k0 s x0_0 (IntKind.i64.wrap (x5_1 + 1)) x_2 x_3 x_4) else (if 0 ≤ x5_1 then (if x5_1 ≤ (↑x0_0.size : Int) then ((lim fun k => Q.dossierref01_Number.f k (x0_0.extract 0 x5_1.toNat)).bind fun v2 => some (.ret (.tup [.agg [.int .i64 2,.str (ByteArray.mk #[]),.int .i64 v2.1],.int .i64 x5_1,.bool (v2.2 == 0)]),lcRet [] [] 0)) else none) else none))) else none) else none) else (if 0 ≤ x5_1 then (if x5_1 ≤ (↑x0_0.size : Int) then ((lim fun k => Q.dossierref01_Number.f k (x0_0.extract 0 x5_1.toNat)).bind fun v3 => some (.ret (.tup [.agg [.int .i64 2,.str (ByteArray.mk #[]),.int .i64 v3.1],.int .i64 x5_1,.bool (v3.2 == 0)]),lcRet [] [] 0)) else none) else none)) := by kernel_rfl
theorem dossierref08_integer.top (n : Nat) (s : ByteArray) : callX false (fnF cx_dossierref08_integer noCalls n 92) ([.str s]) (lcSt [] 0) out = (dossierref08_integer.L0 n n s s 0 0 (ByteArray.mk #[]) 0) := by kernel_rfl
end Go.Proofs.YtbcpnpbkbndkjaaGreatDoor.Ev
end
