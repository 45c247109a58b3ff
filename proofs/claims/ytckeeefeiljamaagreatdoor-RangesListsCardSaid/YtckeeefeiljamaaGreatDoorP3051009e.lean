/- Words and laws that the theorem leans on (part 3). -/
import Derived.Test.YtckeeefeiljamaaGreatDoorP91203479
import Derived.Test.YtckeeefeiljamaaGreatDoorP89853c57
import Derived.Shelf.Strings.Builder1
import Derived.Shelf.Strings.Builder2
import Derived.Shelf.Strings.OnBuilder
import Derived.Shelf.Strings.Trim
import Derived.Shelf.Small.Utf8
import Derived.Shelf.Small.Strs
import Derived.Shelf.Small.Wraps
import Derived.Shelf.Utf8.RuneCount
import Derived.Shelf.Strconv.Atoi
import Derived.Shelf.Strconv.Itoa0
import Derived.Shelf.Strconv.Itoa1
import Derived.Shelf.LaysM
import Derived.Shelf.Strconv.Itoa2
import Derived.Shelf.Strconv.Itoa3
import Derived.Shelf.Strings.Search1
import Derived.Shelf.Strings.Search2
import Derived.Shelf.Strings.Search3
import Derived.Shelf.Strings.Cut
import Derived.Shelf.Strings.Count
import Derived.Shelf.Strings.Shaped
import Derived.Shelf.Strings.Prefix
import Derived.Shelf.Strings.Split
import Derived.Shelf.Strings.SplitShaped
import Derived.Shelf.Unicode.Decode
import Derived.Shelf.Strings.Runes
import Derived.Shelf.Strings.RuneCount
import Derived.Shelf.Strings.AsciiSet
import Derived.Shelf.Strings.Explode
import Derived.Shelf.Unicode.DecodeSlow
import Derived.Shelf.Unicode.DecodeAny
import Derived.Shelf.Unicode.DecodeLast
import Derived.Ground.Names2Prog
import Derived.Shelf.Slices.SearchI
import Derived.Test.YtckeeefeiljamaaGreatDoorProg
import Derived.Lib.SplitLaws
import Derived.Lib.CutLaws
import Derived.Shelf.Strings.SlTrimAscii
import Derived.Lib.ConvBytes
import Derived.WalkSmall
import Derived.KernelRfl
import Derived.RangeFuncNested
import Derived.RangeFuncBound
import Derived.RangeFuncCalls
import Derived.RangeFuncLeaves
import Derived.RangeFuncFrom
import Derived.Below
import Derived.Deep.Draws
import Derived.Shelf.Abstract
import Derived.Shelf.RegionOpen
import Derived.WalkKit
import Derived.OwnWalkIn
import Derived.TacticsInMore
import Derived.LoopNIn
import Derived.LoopIn
import Derived.Lib.Hide
import Derived.OneCell
import Derived.RangeFuncBox
import Derived.Lib.IndexBytes
import Derived.Deep.Slices
import Derived.ChangeArms
import Derived.Lib.SmallJoins
import Derived.Laws.OwnMore
set_option linter.unusedVariables false
set_option linter.unusedSimpArgs false

namespace Go.Proofs
open Go.Shelf
def Tryz.lays160_ren : Go.Shelf.Ren := ⟨fun | 160 => 89 | 232 => 104 | 231 => 103 | 227 => 105 | 234 => 107 | 233 => 106 | 236 => 109 | 235 => 108 | 228 => 125 | 271 => 127 | 151 => 126 | 197 => 74 | 120 => 137 | 152 => 136 | 260 => 93 | 137 => 144 | 119 => 145 | 224 => 115 | 225 => 114 | 217 => 113 | 266 => 129 | n => n, fun | 9 => 9 | 4 => 4 | 3 => 3 | 5 => 5 | 117 => 132 | 116 => 131 | 0 => 0 | 124 => 135 | 21 => 21 | 105 => 111 | 46 => 140 | 119 => 139 | 139 => 143 | 138 => 142 | n => n, fun | 3 => 0 | 4 => 1 | n => n⟩
theorem Tryz.lays160 : Go.Proofs.Lays.n160 Tryz.prog Tryz.lays160_ren := {
  mixed := by kernel_rfl
  f119 := Tryz.func145.trans (congrArg some (by kernel_rfl))
  f120 := Tryz.func137.trans (congrArg some (by kernel_rfl))
  f137 := Tryz.func144.trans (congrArg some (by kernel_rfl))
  f151 := Tryz.func126.trans (congrArg some (by kernel_rfl))
  f152 := Tryz.func136.trans (congrArg some (by kernel_rfl))
  f160 := Tryz.func89.trans (congrArg some (by kernel_rfl))
  f197 := Tryz.func74.trans (congrArg some (by kernel_rfl))
  f217 := Tryz.func113.trans (congrArg some (by kernel_rfl))
  f224 := Tryz.func115.trans (congrArg some (by kernel_rfl))
  f225 := Tryz.func114.trans (congrArg some (by kernel_rfl))
  f227 := Tryz.func105.trans (congrArg some (by kernel_rfl))
  f228 := Tryz.func125.trans (congrArg some (by kernel_rfl))
  f231 := Tryz.func103.trans (congrArg some (by kernel_rfl))
  f232 := Tryz.func104.trans (congrArg some (by kernel_rfl))
  f233 := Tryz.func106.trans (congrArg some (by kernel_rfl))
  f234 := Tryz.func107.trans (congrArg some (by kernel_rfl))
  f235 := Tryz.func108.trans (congrArg some (by kernel_rfl))
  f236 := Tryz.func109.trans (congrArg some (by kernel_rfl))
  f260 := Tryz.func93.trans (congrArg some (by kernel_rfl))
  f266 := Tryz.func129.trans (congrArg some (by kernel_rfl))
  f271 := Tryz.func127.trans (congrArg some (by kernel_rfl))
  t0 := Tryz.underlying0
  a0 := Tryz.isAgg0
  z0 := Tryz.sizeOf0
  v0 := Tryz.zeroValue0
  t3 := Tryz.underlying3
  a3 := Tryz.isAgg3
  z3 := Tryz.sizeOf3
  v3 := Tryz.zeroValue3
  t4 := Tryz.underlying4
  a4 := Tryz.isAgg4
  z4 := Tryz.sizeOf4
  v4 := Tryz.zeroValue4
  t5 := Tryz.underlying5
  a5 := Tryz.isAgg5
  z5 := Tryz.sizeOf5
  v5 := Tryz.zeroValue5
  t9 := Tryz.underlying9
  a9 := Tryz.isAgg9
  z9 := Tryz.sizeOf9
  v9 := Tryz.zeroValue9
  t21 := Tryz.underlying21
  a21 := Tryz.isAgg21
  z21 := Tryz.sizeOf21
  v21 := Tryz.zeroValue21
  t46 := Tryz.underlying140
  a46 := Tryz.isAgg140
  z46 := Tryz.sizeOf140
  v46 := Tryz.zeroValue140
  t105 := Tryz.underlying111
  a105 := Tryz.isAgg111
  z105 := Tryz.sizeOf111
  v105 := Tryz.zeroValue111
  t116 := Tryz.underlying131
  a116 := Tryz.isAgg131
  z116 := Tryz.sizeOf131
  t117 := Tryz.underlying132
  a117 := Tryz.isAgg132
  z117 := Tryz.sizeOf132
  v117 := Tryz.zeroValue132
  t119 := Tryz.underlying139
  a119 := Tryz.isAgg139
  z119 := Tryz.sizeOf139
  t124 := Tryz.underlying135
  a124 := Tryz.isAgg135
  z124 := Tryz.sizeOf135
  v124 := Tryz.zeroValue135
  t138 := Tryz.underlying142
  a138 := Tryz.isAgg142
  z138 := Tryz.sizeOf142
  v138 := Tryz.zeroValue142
  t139 := Tryz.underlying143
  a139 := Tryz.isAgg143
  z139 := Tryz.sizeOf143
  v139 := Tryz.zeroValue143
  g3 := by kernel_rfl
  g4 := by kernel_rfl }
def Tryz.lays122_ren : Go.Shelf.Ren := ⟨fun | 122 => 83 | 215 => 100 | n => n, fun | 3 => 3 | 4 => 4 | n => n, fun | n => n⟩
theorem Tryz.lays122 : Go.Proofs.Lays.n122 Tryz.prog Tryz.lays122_ren := {
  mixed := by kernel_rfl
  f122 := Tryz.func83.trans (congrArg some (by kernel_rfl))
  f215 := Tryz.func100.trans (congrArg some (by kernel_rfl))
  t3 := Tryz.underlying3
  a3 := Tryz.isAgg3
  z3 := Tryz.sizeOf3
  v3 := Tryz.zeroValue3
  t4 := Tryz.underlying4
  a4 := Tryz.isAgg4
  z4 := Tryz.sizeOf4
  v4 := Tryz.zeroValue4 }
open Go.RowKit in
theorem Tryz.cmp_Compare_int (x y : Int) (w : World) :
    Calls Tryz.prog 83 #[.int .i64 x, .int .i64 y] w fun e w' => e = .returned (.int .i64 (Lib.compareInt x y)) ∧ w' = w := Any.cmp_Compare_int Tryz.lays122 x y w
def Tryz.lays172_ren : Go.Shelf.Ren := ⟨fun | 172 => 80 | 244 => 97 | 245 => 98 | 247 => 119 | 279 => 120 | 280 => 121 | 281 => 122 | 282 => 123 | 287 => 133 | 316 => 134 | 171 => 90 | 205 => 135 | 321 => 142 | 322 => 143 | 243 => 110 | 246 => 128 | 283 => 138 | 284 => 139 | 285 => 140 | 286 => 141 | 129 => 147 | 317 => 146 | 318 => 148 | 319 => 149 | 320 => 150 | 337 => 151 | 338 => 152 | n => n, fun | 9 => 9 | 3 => 3 | 75 => 107 | 76 => 108 | 4 => 4 | 5 => 5 | 167 => 146 | 37 => 102 | 0 => 0 | 85 => 147 | 2 => 2 | 168 => 149 | 53 => 158 | 175 => 159 | 46 => 140 | 210 => 163 | 127 => 125 | 145 => 174 | 143 => 172 | 21 => 21 | 171 => 166 | 173 => 169 | 212 => 177 | 51 => 154 | 20 => 20 | 213 => 178 | 232 => 181 | 233 => 182 | 80 => 60 | n => n, fun | 15 => 3 | 16 => 4 | 17 => 5 | 18 => 6 | 19 => 7 | n => n⟩
theorem Tryz.lays172 : Go.Proofs.Lays.n172 Tryz.prog Tryz.lays172_ren := {
  mixed := by kernel_rfl
  f129 := Tryz.func147.trans (congrArg some (by kernel_rfl))
  f171 := Tryz.func90.trans (congrArg some (by kernel_rfl))
  f172 := Tryz.func80.trans (congrArg some (by kernel_rfl))
  f205 := Tryz.func135.trans (congrArg some (by kernel_rfl))
  f243 := Tryz.func110.trans (congrArg some (by kernel_rfl))
  f244 := Tryz.func97.trans (congrArg some (by kernel_rfl))
  f245 := Tryz.func98.trans (congrArg some (by kernel_rfl))
  f246 := Tryz.func128.trans (congrArg some (by kernel_rfl))
  f247 := Tryz.func119.trans (congrArg some (by kernel_rfl))
  f279 := Tryz.func120.trans (congrArg some (by kernel_rfl))
  f280 := Tryz.func121.trans (congrArg some (by kernel_rfl))
  f281 := Tryz.func122.trans (congrArg some (by kernel_rfl))
  f282 := Tryz.func123.trans (congrArg some (by kernel_rfl))
  f283 := Tryz.func138.trans (congrArg some (by kernel_rfl))
  f284 := Tryz.func139.trans (congrArg some (by kernel_rfl))
  f285 := Tryz.func140.trans (congrArg some (by kernel_rfl))
  f286 := Tryz.func141.trans (congrArg some (by kernel_rfl))
  f287 := Tryz.func133.trans (congrArg some (by kernel_rfl))
  f316 := Tryz.func134.trans (congrArg some (by kernel_rfl))
  f317 := Tryz.func146.trans (congrArg some (by kernel_rfl))
  f318 := Tryz.func148.trans (congrArg some (by kernel_rfl))
  f319 := Tryz.func149.trans (congrArg some (by kernel_rfl))
  f320 := Tryz.func150.trans (congrArg some (by kernel_rfl))
  f321 := Tryz.func142.trans (congrArg some (by kernel_rfl))
  f322 := Tryz.func143.trans (congrArg some (by kernel_rfl))
  f337 := Tryz.func151.trans (congrArg some (by kernel_rfl))
  f338 := Tryz.func152.trans (congrArg some (by kernel_rfl))
  t0 := Tryz.underlying0
  a0 := Tryz.isAgg0
  z0 := Tryz.sizeOf0
  v0 := Tryz.zeroValue0
  t2 := Tryz.underlying2
  a2 := Tryz.isAgg2
  z2 := Tryz.sizeOf2
  v2 := Tryz.zeroValue2
  t3 := Tryz.underlying3
  a3 := Tryz.isAgg3
  z3 := Tryz.sizeOf3
  v3 := Tryz.zeroValue3
  t4 := Tryz.underlying4
  a4 := Tryz.isAgg4
  z4 := Tryz.sizeOf4
  v4 := Tryz.zeroValue4
  t5 := Tryz.underlying5
  a5 := Tryz.isAgg5
  z5 := Tryz.sizeOf5
  v5 := Tryz.zeroValue5
  t9 := Tryz.underlying9
  a9 := Tryz.isAgg9
  z9 := Tryz.sizeOf9
  v9 := Tryz.zeroValue9
  t20 := Tryz.underlying20
  a20 := Tryz.isAgg20
  z20 := Tryz.sizeOf20
  v20 := Tryz.zeroValue20
  t21 := Tryz.underlying21
  a21 := Tryz.isAgg21
  z21 := Tryz.sizeOf21
  v21 := Tryz.zeroValue21
  t37 := Tryz.underlying102
  a37 := Tryz.isAgg102
  z37 := Tryz.sizeOf102
  v37 := Tryz.zeroValue102
  t46 := Tryz.underlying140
  a46 := Tryz.isAgg140
  z46 := Tryz.sizeOf140
  v46 := Tryz.zeroValue140
  t51 := Tryz.underlying154
  a51 := Tryz.isAgg154
  z51 := Tryz.sizeOf154
  v51 := Tryz.zeroValue154
  t53 := Tryz.underlying158
  a53 := Tryz.isAgg158
  z53 := Tryz.sizeOf158
  v53 := Tryz.zeroValue158
  t75 := Tryz.underlying107
  a75 := Tryz.isAgg107
  z75 := Tryz.sizeOf107
  v75 := Tryz.zeroValue107
  t76 := Tryz.underlying108
  a76 := Tryz.isAgg108
  z76 := Tryz.sizeOf108
  v76 := Tryz.zeroValue108
  t85 := Tryz.underlying147
  a85 := Tryz.isAgg147
  z85 := Tryz.sizeOf147
  v85 := Tryz.zeroValue147
  t127 := Tryz.underlying125
  a127 := Tryz.isAgg125
  z127 := Tryz.sizeOf125
  v127 := Tryz.zeroValue125
  t143 := Tryz.underlying172
  a143 := Tryz.isAgg172
  z143 := Tryz.sizeOf172
  v143 := Tryz.zeroValue172
  t145 := Tryz.underlying174
  a145 := Tryz.isAgg174
  z145 := Tryz.sizeOf174
  v145 := Tryz.zeroValue174
  t167 := Tryz.underlying146
  a167 := Tryz.isAgg146
  z167 := Tryz.sizeOf146
  v167 := Tryz.zeroValue146
  t168 := Tryz.underlying149
  a168 := Tryz.isAgg149
  z168 := Tryz.sizeOf149
  v168 := Tryz.zeroValue149
  t171 := Tryz.underlying166
  a171 := Tryz.isAgg166
  z171 := Tryz.sizeOf166
  v171 := Tryz.zeroValue166
  t173 := Tryz.underlying169
  a173 := Tryz.isAgg169
  z173 := Tryz.sizeOf169
  v173 := Tryz.zeroValue169
  t175 := Tryz.underlying159
  a175 := Tryz.isAgg159
  z175 := Tryz.sizeOf159
  v175 := Tryz.zeroValue159
  t210 := Tryz.underlying163
  a210 := Tryz.isAgg163
  z210 := Tryz.sizeOf163
  v210 := Tryz.zeroValue163
  t212 := Tryz.underlying177
  a212 := Tryz.isAgg177
  z212 := Tryz.sizeOf177
  v212 := Tryz.zeroValue177
  t213 := Tryz.underlying178
  a213 := Tryz.isAgg178
  z213 := Tryz.sizeOf178
  t232 := Tryz.underlying181
  a232 := Tryz.isAgg181
  z232 := Tryz.sizeOf181
  v232 := Tryz.zeroValue181
  t233 := Tryz.underlying182
  a233 := Tryz.isAgg182
  z233 := Tryz.sizeOf182
  v233 := Tryz.zeroValue182
  g15 := by kernel_rfl
  g16 := by kernel_rfl
  g17 := by kernel_rfl
  g18 := by kernel_rfl
  g19 := by kernel_rfl }
open Go.RowKit in
theorem Tryz.strconv_Atoi (s : ByteArray) (n : Int) (hl : s.size ≤ 18) (h : Lib.atoi s.data.toList = some n) (w : World) :
    Calls Tryz.prog 80 #[.string s] w fun e w' => e = .returned (.tuple #[.int .i64 n, .nilIface]) ∧ ∃ t, w' = Lib.bytesWorld w 5 t := Any.strconv_Atoi Tryz.lays172 s n hl h w
def Tryz.lays143_ren : Go.Shelf.Ren := ⟨fun | 143 => 75 | 219 => 94 | 217 => 113 | 225 => 114 | 224 => 115 | 267 => 116 | 266 => 129 | 314 => 130 | n => n, fun | 9 => 9 | 3 => 3 | 4 => 4 | 5 => 5 | 46 => 140 | 146 => 155 | 51 => 154 | n => n, fun | 1 => 2 | n => n⟩
theorem Tryz.lays143 : Go.Proofs.Lays.n143 Tryz.prog Tryz.lays143_ren := {
  mixed := by kernel_rfl
  f143 := Tryz.func75.trans (congrArg some (by kernel_rfl))
  f217 := Tryz.func113.trans (congrArg some (by kernel_rfl))
  f219 := Tryz.func94.trans (congrArg some (by kernel_rfl))
  f224 := Tryz.func115.trans (congrArg some (by kernel_rfl))
  f225 := Tryz.func114.trans (congrArg some (by kernel_rfl))
  f266 := Tryz.func129.trans (congrArg some (by kernel_rfl))
  f267 := Tryz.func116.trans (congrArg some (by kernel_rfl))
  f314 := Tryz.func130.trans (congrArg some (by kernel_rfl))
  t3 := Tryz.underlying3
  a3 := Tryz.isAgg3
  z3 := Tryz.sizeOf3
  v3 := Tryz.zeroValue3
  t4 := Tryz.underlying4
  a4 := Tryz.isAgg4
  z4 := Tryz.sizeOf4
  v4 := Tryz.zeroValue4
  t5 := Tryz.underlying5
  a5 := Tryz.isAgg5
  z5 := Tryz.sizeOf5
  v5 := Tryz.zeroValue5
  t9 := Tryz.underlying9
  a9 := Tryz.isAgg9
  z9 := Tryz.sizeOf9
  v9 := Tryz.zeroValue9
  t46 := Tryz.underlying140
  a46 := Tryz.isAgg140
  z46 := Tryz.sizeOf140
  v46 := Tryz.zeroValue140
  t51 := Tryz.underlying154
  a51 := Tryz.isAgg154
  z51 := Tryz.sizeOf154
  v51 := Tryz.zeroValue154
  t146 := Tryz.underlying155
  a146 := Tryz.isAgg155
  z146 := Tryz.sizeOf155
  v146 := Tryz.zeroValue155
  g1 := by kernel_rfl }
open Go.RowKit Go.Lib in
theorem Tryz.strings_Index_one (s : ByteArray) (c : UInt8) (w : World) :
    Calls Tryz.prog 75 #[.string s, .string ⟨#[c]⟩] w fun e w' => e = .returned (.int .i64 (Lib.indexByte s.data.toList c)) ∧ w' = w := Any.strings_Index_one Tryz.lays143 s c w
open Go.RowKit Go.Lib in
theorem Tryz.strings_Index (s sub : ByteArray) (m : Int) (w : World) (hs : s.size < 4294967281) (hm : w.cell? ⟨2, 0, none⟩ = some (.int .i64 m)) :
    Calls Tryz.prog 75 #[.string s, .string sub] w fun e w' => e = .returned (.int .i64 (Lib.index s.data.toList sub.data.toList)) ∧ w' = w := Any.strings_Index Tryz.lays143 s sub m w hs hm
def Tryz.lays145_ren : Go.Shelf.Ren := ⟨fun | 145 => 77 | 220 => 95 | 219 => 94 | 217 => 113 | 225 => 114 | 224 => 115 | 267 => 116 | 266 => 129 | 314 => 130 | n => n, fun | 9 => 9 | 4 => 4 | 59 => 114 | 3 => 3 | 5 => 5 | 46 => 140 | 146 => 155 | 51 => 154 | n => n, fun | 1 => 2 | n => n⟩
theorem Tryz.lays145 : Go.Proofs.Lays.n145 Tryz.prog Tryz.lays145_ren := {
  mixed := by kernel_rfl
  f145 := Tryz.func77.trans (congrArg some (by kernel_rfl))
  f217 := Tryz.func113.trans (congrArg some (by kernel_rfl))
  f219 := Tryz.func94.trans (congrArg some (by kernel_rfl))
  f220 := Tryz.func95.trans (congrArg some (by kernel_rfl))
  f224 := Tryz.func115.trans (congrArg some (by kernel_rfl))
  f225 := Tryz.func114.trans (congrArg some (by kernel_rfl))
  f266 := Tryz.func129.trans (congrArg some (by kernel_rfl))
  f267 := Tryz.func116.trans (congrArg some (by kernel_rfl))
  f314 := Tryz.func130.trans (congrArg some (by kernel_rfl))
  t3 := Tryz.underlying3
  a3 := Tryz.isAgg3
  z3 := Tryz.sizeOf3
  v3 := Tryz.zeroValue3
  t4 := Tryz.underlying4
  a4 := Tryz.isAgg4
  z4 := Tryz.sizeOf4
  v4 := Tryz.zeroValue4
  t5 := Tryz.underlying5
  a5 := Tryz.isAgg5
  z5 := Tryz.sizeOf5
  v5 := Tryz.zeroValue5
  t9 := Tryz.underlying9
  a9 := Tryz.isAgg9
  z9 := Tryz.sizeOf9
  v9 := Tryz.zeroValue9
  t46 := Tryz.underlying140
  a46 := Tryz.isAgg140
  z46 := Tryz.sizeOf140
  v46 := Tryz.zeroValue140
  t51 := Tryz.underlying154
  a51 := Tryz.isAgg154
  z51 := Tryz.sizeOf154
  v51 := Tryz.zeroValue154
  t59 := Tryz.underlying114
  a59 := Tryz.isAgg114
  z59 := Tryz.sizeOf114
  v59 := Tryz.zeroValue114
  t146 := Tryz.underlying155
  a146 := Tryz.isAgg155
  z146 := Tryz.sizeOf155
  v146 := Tryz.zeroValue155
  g1 := by kernel_rfl }
open Go.RowKit Go.Lib in
theorem Tryz.strings_Cut (s sep : ByteArray) (m : Int) (w : World) (hs : s.size < 4294967281) (hm : w.cell? ⟨2, 0, none⟩ = some (.int .i64 m)) :
    Calls Tryz.prog 77 #[.string s, .string sep] w fun e w' => e = .returned (.tuple #[.string ⟨(Lib.cut s.data.toList sep.data.toList).1.toArray⟩, .string ⟨(Lib.cut s.data.toList sep.data.toList).2.1.toArray⟩, .bool (Lib.cut s.data.toList sep.data.toList).2.2]) ∧ ∃ n, w' = w.drewN n := Any.strings_Cut Tryz.lays145 s sep m w hs hm
def Tryz.lays99_ren : Go.Shelf.Ren := ⟨fun | 99 => 55 | 206 => 76 | n => n, fun | 9 => 9 | 4 => 4 | 3 => 3 | n => n, fun | n => n⟩
theorem Tryz.lays99 : Go.Proofs.Lays.n99 Tryz.prog Tryz.lays99_ren := {
  mixed := by kernel_rfl
  f99 := Tryz.func55.trans (congrArg some (by kernel_rfl))
  f206 := Tryz.func76.trans (congrArg some (by kernel_rfl))
  t3 := Tryz.underlying3
  a3 := Tryz.isAgg3
  z3 := Tryz.sizeOf3
  v3 := Tryz.zeroValue3
  t4 := Tryz.underlying4
  a4 := Tryz.isAgg4
  z4 := Tryz.sizeOf4
  v4 := Tryz.zeroValue4
  t9 := Tryz.underlying9
  a9 := Tryz.isAgg9
  z9 := Tryz.sizeOf9
  v9 := Tryz.zeroValue9 }
open Go.RowKit Go.Lib in
theorem Tryz.strings_HasPrefix (s p : ByteArray) (w : World) :
    Calls Tryz.prog 55 #[.string s, .string p] w fun e w' => e = .returned (.bool (Lib.hasPrefix s.data.toList p.data.toList)) ∧ w' = w := Any.strings_HasPrefix Tryz.lays99 s p w
def Tryz.lays146_ren : Go.Shelf.Ren := ⟨fun | 146 => 78 | 221 => 96 | 268 => 117 | 138 => 118 | 143 => 75 | 195 => 131 | 197 => 74 | 218 => 132 | 219 => 94 | 260 => 93 | 217 => 113 | 225 => 114 | 224 => 115 | 267 => 116 | 266 => 129 | 314 => 130 | n => n, fun | 9 => 9 | 31 => 67 | 3 => 3 | 4 => 4 | 0 => 0 | 105 => 111 | 21 => 21 | 5 => 5 | 46 => 140 | 119 => 139 | 139 => 143 | 138 => 142 | 146 => 155 | 51 => 154 | n => n, fun | 1 => 2 | 3 => 0 | 4 => 1 | n => n⟩
theorem Tryz.lays146 : Go.Proofs.Lays.n146 Tryz.prog Tryz.lays146_ren := {
  mixed := by kernel_rfl
  f138 := Tryz.func118.trans (congrArg some (by kernel_rfl))
  f143 := Tryz.func75.trans (congrArg some (by kernel_rfl))
  f146 := Tryz.func78.trans (congrArg some (by kernel_rfl))
  f195 := Tryz.func131.trans (congrArg some (by kernel_rfl))
  f197 := Tryz.func74.trans (congrArg some (by kernel_rfl))
  f217 := Tryz.func113.trans (congrArg some (by kernel_rfl))
  f218 := Tryz.func132.trans (congrArg some (by kernel_rfl))
  f219 := Tryz.func94.trans (congrArg some (by kernel_rfl))
  f221 := Tryz.func96.trans (congrArg some (by kernel_rfl))
  f224 := Tryz.func115.trans (congrArg some (by kernel_rfl))
  f225 := Tryz.func114.trans (congrArg some (by kernel_rfl))
  f260 := Tryz.func93.trans (congrArg some (by kernel_rfl))
  f266 := Tryz.func129.trans (congrArg some (by kernel_rfl))
  f267 := Tryz.func116.trans (congrArg some (by kernel_rfl))
  f268 := Tryz.func117.trans (congrArg some (by kernel_rfl))
  f314 := Tryz.func130.trans (congrArg some (by kernel_rfl))
  t0 := Tryz.underlying0
  a0 := Tryz.isAgg0
  z0 := Tryz.sizeOf0
  v0 := Tryz.zeroValue0
  t3 := Tryz.underlying3
  a3 := Tryz.isAgg3
  z3 := Tryz.sizeOf3
  v3 := Tryz.zeroValue3
  t4 := Tryz.underlying4
  a4 := Tryz.isAgg4
  z4 := Tryz.sizeOf4
  v4 := Tryz.zeroValue4
  t5 := Tryz.underlying5
  a5 := Tryz.isAgg5
  z5 := Tryz.sizeOf5
  v5 := Tryz.zeroValue5
  t9 := Tryz.underlying9
  a9 := Tryz.isAgg9
  z9 := Tryz.sizeOf9
  v9 := Tryz.zeroValue9
  t21 := Tryz.underlying21
  a21 := Tryz.isAgg21
  z21 := Tryz.sizeOf21
  v21 := Tryz.zeroValue21
  t31 := Tryz.underlying67
  a31 := Tryz.isAgg67
  z31 := Tryz.sizeOf67
  v31 := Tryz.zeroValue67
  t46 := Tryz.underlying140
  a46 := Tryz.isAgg140
  z46 := Tryz.sizeOf140
  v46 := Tryz.zeroValue140
  t51 := Tryz.underlying154
  a51 := Tryz.isAgg154
  z51 := Tryz.sizeOf154
  v51 := Tryz.zeroValue154
  t105 := Tryz.underlying111
  a105 := Tryz.isAgg111
  z105 := Tryz.sizeOf111
  v105 := Tryz.zeroValue111
  t119 := Tryz.underlying139
  a119 := Tryz.isAgg139
  z119 := Tryz.sizeOf139
  t138 := Tryz.underlying142
  a138 := Tryz.isAgg142
  z138 := Tryz.sizeOf142
  v138 := Tryz.zeroValue142
  t139 := Tryz.underlying143
  a139 := Tryz.isAgg143
  z139 := Tryz.sizeOf143
  v139 := Tryz.zeroValue143
  t146 := Tryz.underlying155
  a146 := Tryz.isAgg155
  z146 := Tryz.sizeOf155
  v146 := Tryz.zeroValue155
  g1 := by kernel_rfl
  g3 := by kernel_rfl
  g4 := by kernel_rfl }
open Go.RowKit Go.Lib in
theorem Tryz.strings_Split (s sep : ByteArray) (m : Int) (w : World) (hs : s.size < 4294967281) (hm : w.cell? ⟨2, 0, none⟩ = some (.int .i64 m)) (h1 : 1 ≤ sep.size) :
    Calls Tryz.prog 78 #[.string s, .string sep] w fun e w' =>
      e = .returned (.slice (some ⟨w.heap.size, 0, none⟩) (Lib.countB s sep + 1) (Lib.countB s sep + 1)) ∧ w' = w.alloc (.cells ((Lib.splitB sep 0 (Lib.countB s sep) s).map Value.string).toArray 9) := Any.strings_Split Tryz.lays146 (by kernel_rfl) s sep m w hs hm h1
end Go.Proofs

set_option linter.unusedVariables false
set_option linter.unusedSimpArgs false
namespace Go.Lg.Sem
open Go Go.Lib
def toBytes (l : List UInt8) : ByteArray := ⟨l.toArray⟩
theorem data_length (s : ByteArray) : s.data.toList.length = s.size := by simp
def okB (c : Nat) : Bool := (decide (48 ≤ c) && decide (c ≤ 57)) || (decide (97 ≤ c) && decide (c ≤ 122))
def digits : ByteArray := ⟨#[48, 49, 50, 51, 52, 53, 54, 55, 56, 57]⟩
theorem ba_toList_loop (s : ByteArray) : ∀ (n i : Nat) (r : List UInt8), s.size - i = n → ByteArray.toList.loop s i r = r.reverse ++ s.data.toList.drop i := by
  intro n
  induction n with
  | zero =>
    intro i r h
    unfold ByteArray.toList.loop
    rw [if_neg (by omega), List.drop_of_length_le (by rw [data_length]; omega), List.append_nil]
  | succ n ih =>
    intro i r h
    have hi : i < s.size := by omega
    unfold ByteArray.toList.loop
    rw [if_pos hi, ih (i + 1) _ (by omega)]
    have hl : i < s.data.toList.length := by rw [data_length]; exact hi
    rw [List.drop_eq_getElem_cons hl]
    simp only [List.reverse_cons, List.append_assoc, List.singleton_append]
    congr 2
    have h2 : i < s.data.size := hi
    exact getElem!_pos s.data i h2
theorem ba_toList (s : ByteArray) : s.toList = s.data.toList := by
  unfold ByteArray.toList; rw [ba_toList_loop s s.size 0 [] (by omega)]; simp
def isDig (b : UInt8) : Bool := decide (48 ≤ b.toNat) && decide (b.toNat ≤ 57)
def numL (l : List UInt8) : Bool := !l.isEmpty && decide (l.length ≤ 6) && !(decide (l.head? = some 48) && decide (l.length ≠ 1)) && l.all isDig
def markL (l : List UInt8) : Bool := !l.isEmpty && decide (l.length ≤ 10) && l.all (fun b => okB b.toNat) && (!(l.all isDig) || numL l)
theorem digits_contains (b : UInt8) : digits.data.toList.contains b = isDig b := by
  have h : ∀ n : Fin 256, digits.data.toList.contains (UInt8.ofNat n.1) = isDig (UInt8.ofNat n.1) := by decide +kernel
  have := h ⟨b.toNat, b.toNat_lt⟩
  simpa using this
theorem dropWhile_nil {α : Type} (p : α → Bool) (l : List α) : (l.dropWhile p = []) ↔ l.all p = true := by
  induction l with
  | nil => simp
  | cons x l ih =>
    by_cases h : p x = true
    · simp [List.dropWhile_cons, h, ih]
    · simp [List.dropWhile_cons, h]
theorem all_of_dropWhile {α : Type} (p : α → Bool) (l : List α) (h : (l.dropWhile p).all p = true) : l.all p = true := by
  induction l with
  | nil => rfl
  | cons x l ih =>
    by_cases hx : p x = true
    · rw [List.dropWhile_cons, if_pos hx] at h
      simp [hx]; simpa using ih h
    · rw [List.dropWhile_cons, if_neg hx] at h
      exact h
theorem trim_nil (l : List UInt8) : (Lib.trimS l digits.data.toList = []) ↔ l.all isDig = true := by
  have hf : (fun b => digits.data.toList.contains b) = isDig := funext digits_contains
  unfold Lib.trimS Lib.trimLeftS Lib.trimRightS
  rw [hf, dropWhile_nil]
  constructor
  · intro h
    rw [List.all_reverse] at h
    have := all_of_dropWhile isDig l.reverse h
    rwa [List.all_reverse] at this
  · intro h
    have h2 : l.reverse.dropWhile isDig = [] := (dropWhile_nil _ _).2 (by rw [List.all_reverse]; exact h)
    rw [h2]; rfl
theorem toBytes_toList (l : List UInt8) : (toBytes l).toList = l := by rw [ba_toList]; simp [toBytes]
theorem trim_empty (s : ByteArray) : ((toBytes (Lib.trimS s.data.toList digits.data.toList)).toList == ([] : List UInt8)) = s.data.toList.all isDig := by
  rw [toBytes_toList, Bool.eq_iff_iff, beq_iff_eq, trim_nil]
def pieces (sep s : ByteArray) : List ByteArray := Lib.splitB sep 0 (Lib.countB s sep) s
theorem pieces_miss (sep s : ByteArray) (h : Lib.indexB s sep = -1) : pieces sep s = [s] := Lib.splitB_miss _ _ _ _ h
theorem pieces_hit (sep s : ByteArray) (h1 : 1 ≤ sep.size) (i : Nat) (h : Lib.indexB s sep = i) : pieces sep s = s.extract 0 i :: pieces sep (s.extract (i + sep.size) s.size) := by
  unfold pieces
  rw [Lib.countB_hit s sep i h1 h, Nat.add_comm 1, Lib.splitB_hit _ _ _ _ i h]
  rfl
def seqV (B : Nat) : Value := .func (.func 73) #[] #[.pointer (some ⟨B + 1, 0, none⟩), .pointer (some ⟨B, 0, none⟩), .pointer (some ⟨B + 2, 0, none⟩)]
def seqB (B : Nat) : Array Value := #[.pointer (some ⟨B + 1, 0, none⟩), .pointer (some ⟨B, 0, none⟩), .pointer (some ⟨B + 2, 0, none⟩)]
def dot : ByteArray := ⟨#[46]⟩
def preB (s : ByteArray) : Bool := decide ((pieces dot s).length ≤ 4) && (pieces dot s).all (fun p => markL p.data.toList)
def decV (acc : Nat) (l : List UInt8) : Nat := l.foldl (fun a b => a * 10 + (b.toNat - 48)) acc
def numV (l : List UInt8) : Int := (decV 0 l : Nat)
def numP (p : ByteArray) : Bool := numL p.data.toList
def valP (p : ByteArray) : Int := numV p.data.toList
theorem decFrom_digits : ∀ (l : List UInt8) (acc : Nat), l.all isDig = true → Lib.decFrom acc l = some (decV acc l) := by
  intro l
  induction l with
  | nil => intro acc _; rfl
  | cons b t ih =>
    intro acc h
    simp only [List.all_cons, Bool.and_eq_true] at h
    have hb : 48 ≤ b.toNat ∧ b.toNat ≤ 57 := by simpa [isDig] using h.1
    simp only [Lib.decFrom, Lib.digitVal, if_pos hb, ih _ h.2]
    rfl
theorem numL_parts {l : List UInt8} (h : numL l = true) : l ≠ [] ∧ l.length ≤ 6 ∧ l.all isDig = true ∧ ¬ (l.head? = some 48 ∧ l.length ≠ 1) := by
  simp only [numL, Bool.and_eq_true, Bool.not_eq_true', decide_eq_true_eq, List.isEmpty_eq_false_iff] at h
  obtain ⟨⟨⟨h1, h2⟩, h3⟩, h4⟩ := h
  refine ⟨h1, h2, h4, fun hc => ?_⟩
  rw [decide_eq_true hc.1, decide_eq_true hc.2] at h3
  simp at h3
def pv (ps : List ByteArray) (k j : Nat) : Int := if j < k then valP (ps.getD j ByteArray.empty) else 0
def parseV (s : ByteArray) : Int × Int × Int × ByteArray × Int :=
  let c := Lib.cut s.data.toList [45]
  let ps := pieces dot (toBytes c.1)
  if ps.length ≠ 3 ∨ (c.2.2 = true ∧ preB (toBytes c.2.1) = false) ∨ ps.all numP = false then (0, 0, 0, ⟨#[]⟩, 10)
  else (valP (ps.getD 0 ByteArray.empty), valP (ps.getD 1 ByteArray.empty), valP (ps.getD 2 ByteArray.empty), toBytes c.2.1, 0)
def badV : Int × Int × Int × ByteArray × Int := (0, 0, 0, ⟨#[]⟩, 10)
theorem toBytes_size (l : List UInt8) : (toBytes l).size = l.length := by simp [toBytes, ByteArray.size]
theorem cut_le (l sep : List UInt8) : (Lib.cut l sep).1.length ≤ l.length ∧ (Lib.cut l sep).2.1.length ≤ l.length := by
  unfold Lib.cut
  split <;> simp <;> omega
def cmpS (a b : ByteArray) : Int := if Op.bytesLess a.toList b.toList = true then -1 else if (a.toList == b.toList) = true then 0 else 1
def cmpI (a b : Int) : Int := if a < b then -1 else if a > b then 1 else 0
def cmpM (p q : ByteArray) : Int :=
  if numP p = true then (if numP q = true then cmpI (valP p) (valP q) else -1) else if numP q = true then 1 else cmpS p q
def cmpL (m n : Nat) : List ByteArray → List ByteArray → Int
  | p :: x, q :: y => if p.toList = q.toList then cmpL m n x y else cmpM p q
  | _, _ => cmpI m n
def marksV (a b : ByteArray) : Int :=
  if a.toList = [] ∨ b.toList = [] then cmpI b.size a.size else cmpL (pieces dot a).length (pieces dot b).length (pieces dot a) (pieces dot b)
theorem pieces_len (s : ByteArray) : (pieces dot s).length ≤ s.size + 1 := by
  unfold pieces
  rw [Lib.splitB_all dot (by decide) 0 _ s rfl]
  have := Lib.countB_le dot (by decide) s.size s (Nat.le_refl _)
  omega
def one (c : UInt8) : ByteArray := ⟨#[c]⟩
def preO (s : ByteArray) : Bool := s.toList.isEmpty || preB s
def inN (n : Int) : Bool := decide (0 ≤ n) && decide (n ≤ 999999)
def rightB (a b c : Int) (p : ByteArray) : Bool := inN a && (inN b && (inN c && preO p))
def pvV (ps : List ByteArray) (p : ByteArray) (d : Bool) : Int × Int × Int × ByteArray × Int :=
  if ps.length ≠ 3 ∨ (d = true ∧ preB p = false) ∨ ps.all numP = false then (0, 0, 0, ⟨#[]⟩, 10)
  else (valP (ps.getD 0 ByteArray.empty), valP (ps.getD 1 ByteArray.empty), valP (ps.getD 2 ByteArray.empty), p, 0)
theorem parseV_eq (s : ByteArray) : parseV s = pvV (pieces dot (toBytes (Lib.cut s.data.toList [45]).1)) (toBytes (Lib.cut s.data.toList [45]).2.1) (Lib.cut s.data.toList [45]).2.2 := rfl
def orL : List Int → Int
  | [] => 0
  | x :: l => if x = 0 then orL l else x
def cmpV (a b c : Int) (p : ByteArray) (a' b' c' : Int) (p' : ByteArray) : Int := orL [cmpI a a', cmpI b b', cmpI c c', cmpI (marksV p p') 0]
def t1 : ByteArray := ⟨#[49, 46, 48, 46, 48, 45, 97, 46, 50]⟩
def t2 : ByteArray := ⟨#[49, 46, 48, 46, 48]⟩
def t3 : ByteArray := ⟨#[48, 49, 46, 48, 46, 48]⟩
structure OrdOn {α : Type} (S : α → Prop) (f : α → α → Int) : Prop where
  rng : ∀ a b, f a b = -1 ∨ f a b = 0 ∨ f a b = 1
  anti : ∀ a b, S a → S b → f a b = - f b a
  zero : ∀ a b, S a → S b → f a b = 0 → a = b
  self : ∀ a, S a → f a a = 0
  trans : ∀ a b c, S a → S b → S c → f a b ≤ 0 → f b c ≤ 0 → f a c ≤ 0
structure Ver where
  a : Int
  b : Int
  c : Int
  p : ByteArray
  deriving DecidableEq
def cmpVer (v w : Ver) : Int := cmpV v.a v.b v.c v.p w.a w.b w.c w.p
end Go.Lg.Sem

set_option linter.unusedVariables false
set_option linter.unusedSimpArgs false
namespace Go.Lg.Sem
open Go Go.Lib
structure Cmp where
  op : Int
  v : Ver
  deriving DecidableEq
def Ver.right (v : Ver) : Bool := rightB v.a v.b v.c v.p
def Ver.ok (v : Ver) : Prop := v.p.size ≤ 1000000000
theorem Ver.ok.lt {v : Ver} (h : v.ok) : v.p.size < 4294967281 := Nat.lt_of_le_of_lt h (by decide)
def Ver.zero : Ver := ⟨0, 0, 0, ⟨#[]⟩⟩
def bumpN (a b c : Int) (p : ByteArray) (part : Int) : Int × Int × Int :=
  if part = 0 then (a + 1, 0, 0) else if part = 1 then (a, b + 1, 0) else if p.data.toList = [] then (a, b, c + 1) else (a, b, c)
def bumpV (a b c : Int) (p : ByteArray) (part : Int) : (Int × Int × Int) × Int :=
  if rightB a b c p = true ∧ 0 ≤ part ∧ part ≤ 2 then
    (if rightB (bumpN a b c p part).1 (bumpN a b c p part).2.1 (bumpN a b c p part).2.2 ⟨#[]⟩ = true then (bumpN a b c p part, 0) else ((0, 0, 0), 11))
  else ((0, 0, 0), 12)
def cmpIsZero (c : Cmp) : Bool := (c.op == 0) && ((c.v.a == 0) && ((c.v.b == 0) && ((c.v.c == 0) && (c.v.p.data.toList == []))))
def cmpRight (c : Cmp) : Bool := if c.op = 0 then cmpIsZero c else decide (c.op > 0) && (decide (c.op ≤ 7) && c.v.right)
def sizedB (n : Int) : Bool := decide (n ≥ 1) && decide (n ≤ 8)
abbrev Rng := List (List Cmp)
def rngRight (r : Rng) : Bool := r.all (fun l => sizedB l.length && l.all cmpRight) && sizedB r.length
def upPart (c : Cmp) : Int := if c.op = 7 then 1 else if c.v.a > 0 then 0 else if c.v.b = 0 then 2 else 1
def upperV (c : Cmp) : Ver × Bool :=
  (⟨(bumpV c.v.a c.v.b c.v.c ⟨#[]⟩ (upPart c)).1.1, (bumpV c.v.a c.v.b c.v.c ⟨#[]⟩ (upPart c)).1.2.1, (bumpV c.v.a c.v.b c.v.c ⟨#[]⟩ (upPart c)).1.2.2, ⟨#[]⟩⟩, (bumpV c.v.a c.v.b c.v.c ⟨#[]⟩ (upPart c)).2 == 0)
def hasC (c : Cmp) (v : Ver) : Bool :=
  if c.op = 1 then cmpVer v c.v == 0 else if c.op = 2 then decide (cmpVer v c.v < 0) else if c.op = 3 then decide (cmpVer v c.v ≤ 0) else if c.op = 4 then decide (cmpVer v c.v > 0)
  else if c.op = 5 then decide (cmpVer v c.v ≥ 0)
  else if c.op = 6 ∨ c.op = 7 then decide (cmpVer v c.v ≥ 0) && (!(upperV c).2 || decide (cmpVer v (upperV c).1 < 0))
  else true
def hasR (r : Rng) (v : Ver) : Bool := rngRight r && (v.right && r.any fun l => l.all fun c => hasC c v)
def Cmp.ok (c : Cmp) : Prop := c.v.ok
def Rng.ok (r : Rng) : Prop := ∀ l, l ∈ r → l.length ≤ 1073741824 ∧ ∀ c, c ∈ l → c.ok
theorem upper_pok (c : Cmp) : (upperV c).1.ok := by
  show (ByteArray.mk #[]).size ≤ 1000000000
  decide
theorem upPart_cases (c : Cmp) : (c.op = 7 → upPart c = 1) ∧ (c.op ≠ 7 → c.v.a > 0 → upPart c = 0) ∧ (c.op ≠ 7 → ¬ c.v.a > 0 → c.v.b = 0 → upPart c = 2) ∧ (c.op ≠ 7 → ¬ c.v.a > 0 → c.v.b ≠ 0 → upPart c = 1) := by
  unfold upPart
  exact ⟨fun h => if_pos h, fun h h2 => by rw [if_neg h, if_pos h2], fun h h2 h3 => by rw [if_neg h, if_neg h2, if_pos h3], fun h h2 h3 => by rw [if_neg h, if_neg h2, if_neg h3]⟩
theorem ok_nil (a b c : Int) : Ver.ok ⟨a, b, c, ⟨#[]⟩⟩ := by
  show (ByteArray.mk #[]).size ≤ 1000000000
  decide
def plainC (c : Cmp) : Bool := decide (c.v.p.size ≤ 100)
def plainL (m : Nat) (l : List Cmp) : Bool := decide (l.length ≤ m) && l.all plainC
def plainR (m : Nat) (r : Rng) : Bool := decide (r.length ≤ m) && r.all (plainL m)
end Go.Lg.Sem

set_option linter.unusedVariables false
namespace Go.Lg.Tryz
open Go Go.Proofs Go.RowKit Go.Lib Go.Shelf Go.Lg.Sem
def tabB (P : Program) : Tab → Bool
  | [] => true
  | (k, d) :: r => tdOk P k d && tabB P r
theorem tabB_ok {P : Program} : ∀ {tab : Tab}, tabB P tab = true → ∀ p, p ∈ tab → tdOk P p.1 p.2 = true
  | (k, d) :: r, h, p, hp => by
    simp only [tabB, Bool.and_eq_true] at h
    rcases List.mem_cons.1 hp with rfl | hp
    · exact h.1
    · exact tabB_ok h.2 p hp
def tab : Tab := [
  (3, ⟨1, 8, .int .i64, [.tr (.sc (.int .i64 0))]⟩),
  (4, ⟨1, 1, .bool, [.tr (.sc (.bool false))]⟩),
  (5, ⟨1, 1, .int .u8, [.tr (.sc (.int .u8 0))]⟩),
  (9, ⟨1, 16, .str, [.tr (.sc (.string ⟨#[]⟩))]⟩),
  (23, ⟨1, 24, .slice 46, [.own 46 []]⟩),
  (25, ⟨1, 24, .struct [(0, 1)], [.own 46 []]⟩),
  (26, ⟨1, 8, .int .i64, [.tr (.sc (.int .i64 0))]⟩),
  (29, ⟨1, 24, .slice 51, [.own 51 []]⟩),
  (31, ⟨1, 24, .struct [(0, 1)], [.own 51 []]⟩),
  (38, ⟨4, 40, .struct [(0, 1), (1, 1), (2, 1), (3, 1)], [.tr (.sc (.int .i64 0)), .tr (.sc (.int .i64 0)), .tr (.sc (.int .i64 0)), .tr (.sc (.string ⟨#[]⟩))]⟩),
  (41, ⟨4, 40, .struct [(0, 1), (1, 1), (2, 1), (3, 1)], [.tr (.sc (.int .i64 0)), .tr (.sc (.int .i64 0)), .tr (.sc (.int .i64 0)), .tr (.sc (.string ⟨#[]⟩))]⟩),
  (44, ⟨1, 24, .slice 4, [.own 4 []]⟩),
  (46, ⟨1, 24, .slice 48, [.own 48 []]⟩),
  (48, ⟨5, 48, .struct [(0, 1), (1, 4)], [.tr (.sc (.int .i64 0)), .tr (.sc (.int .i64 0)), .tr (.sc (.int .i64 0)), .tr (.sc (.int .i64 0)), .tr (.sc (.string ⟨#[]⟩))]⟩),
  (51, ⟨1, 24, .slice 53, [.own 53 []]⟩),
  (53, ⟨5, 48, .struct [(0, 1), (1, 4)], [.tr (.sc (.int .i64 0)), .tr (.sc (.int .i64 0)), .tr (.sc (.int .i64 0)), .tr (.sc (.int .i64 0)), .tr (.sc (.string ⟨#[]⟩))]⟩),
  (67, ⟨1, 24, .slice 9, [.own 9 []]⟩),
  (77, ⟨1, 24, .slice 3, [.own 3 []]⟩),
  (99, ⟨1, 24, .slice 23, [.own 23 []]⟩),
  (102, ⟨1, 24, .slice 5, [.own 5 []]⟩),
  (110, ⟨8, 128, .array 8 9, [.tr (.sc (.string ⟨#[]⟩)), .tr (.sc (.string ⟨#[]⟩)), .tr (.sc (.string ⟨#[]⟩)), .tr (.sc (.string ⟨#[]⟩)), .tr (.sc (.string ⟨#[]⟩)), .tr (.sc (.string ⟨#[]⟩)), .tr (.sc (.string ⟨#[]⟩)), .tr (.sc (.string ⟨#[]⟩))]⟩),
  (117, ⟨1, 8, .basic, [.tr (.sc (.pointer none))]⟩),
  (118, ⟨1, 24, .slice 117, [.own 117 []]⟩),
  (158, ⟨1, 8, .int .u64, [.tr (.sc (.int .u64 0))]⟩)]
theorem tab_ok : TabOk Tryz.prog tab := tabOk_of (tabB_ok (by kernel_rfl))
theorem mix_ok : (Tryz.prog).follows .mixedOrders = true := by kernel_rfl
structure Gw (w : World) : Prop where
  most : ∃ m : Int, w.cell? ⟨2, 0, none⟩ = some (.int .i64 m)
  tab : Lib.TabIs Tryz.prog w "internal/strconv.uint64pow10" .u64 Lib.pow10Tab
  big : 6 ≤ w.heap.size
theorem pcell_below {w W : World} {p : Addr} {v : Value} (hb : Below w.heap.size w W) (h : w.cell? p = some v) : W.cell? p = some v := by
  have hlt := World.block_lt_of_cell? w p h
  unfold World.cell? at h ⊢
  rw [hb.block _ hlt]; exact h
theorem tab_at : (Tryz.prog).globalNamed "internal/strconv.uint64pow10" = some 5 := by kernel_rfl
theorem Gw.below (w W : World) (h : Gw w) (hb : Below w.heap.size w W) : Gw W :=
  { most := h.most.imp fun m hm => (pcell_below hb hm)
    tab := var?_below hb tab_at (Nat.lt_of_lt_of_le (by decide) h.big) h.tab
    big := Nat.le_trans h.big hb.size
  }
abbrev str (s : ByteArray) : AV := .tr (.sc (.string s))
abbrev int (n : Int) : AV := .tr (.sc (.int .i64 n))
abbrev bool (b : Bool) : AV := .tr (.sc (.bool b))
theorem trim_ok (s cs : ByteArray) (h1 : s.size ≤ 9223372036854775807) (h2 : cs.size < 4294967281) (h3 : cs.data.toList.all (fun b => b.toNat < 128) = true) :
    Fn Tryz.prog Gw 89 [str s, str cs] [] (· = str (toBytes (Lib.trimS s.data.toList cs.data.toList))) :=
  Fn.of_calls Tryz.func89 rfl rfl rfl rfl fun w _ => Any.strings_Trim_laid Tryz.lays160 (by kernel_rfl) s cs w h1 h2 (fun j b hj => by
      have := List.all_eq_true.1 h3 b (List.mem_of_getElem? hj); simpa using this)
theorem atoi_ok (s : ByteArray) (n : Int) (h1 : s.size ≤ 18) (h2 : Lib.atoi s.data.toList = some n) :
    Fn Tryz.prog Gw 80 [str s] [] (· = .tup [.tr (.sc (.int .i64 n)), .tr (.sc .nilIface)]) :=
  Fn.of_calls Tryz.func80 rfl rfl rfl rfl fun w _ => (Tryz.strconv_Atoi s n h1 h2 w).mono fun e w' ⟨he, t, ht⟩ => ⟨he, by
    subst ht; exact ⟨rfl, rfl, rfl, by rw [Lib.bytesWorld_size]; omega, fun j hj => Lib.bytesWorld_at_old w _ _ j hj⟩⟩
theorem cmpint_ok (x y : Int) : Fn Tryz.prog Gw 83 [int x, int y] [] (· = int (Lib.compareInt x y)) :=
  Fn.of_calls Tryz.func83 rfl rfl rfl rfl fun w _ => (Tryz.cmp_Compare_int x y w).mono fun e w' ⟨he, hw⟩ => ⟨he, by subst hw; exact Below.refl _ _⟩
theorem hasPrefix_ok (s p : ByteArray) : Fn Tryz.prog Gw 55 [str s, str p] [] (· = bool (Lib.hasPrefix s.data.toList p.data.toList)) :=
  Fn.of_calls Tryz.func55 rfl rfl rfl rfl fun w _ => (Tryz.strings_HasPrefix s p w).mono fun e w' ⟨he, hw⟩ => ⟨he, by subst hw; exact Below.refl _ _⟩
theorem split_ok (s sep : ByteArray) (h1 : s.size < 4294967281) (h2 : 1 ≤ sep.size) :
    Fn Tryz.prog Gw 78 [str s, str sep] [] (· = .own 9 ((Lib.splitB sep 0 (Lib.countB s sep) s).map fun x => .sc (.string x))) := by
  refine ⟨⟨_, Tryz.func78, rfl, rfl⟩, fun M Ow w cargs hgw hp => ?_⟩
  have hc : cargs = #[.string s, .string sep] := Fn.args_eq rfl hp
  subst hc
  obtain ⟨m, hm⟩ := hgw.most
  have hl : (Lib.splitB sep 0 (Lib.countB s sep) s).length = Lib.countB s sep + 1 := Lib.splitB_all sep h2 0 _ s rfl
  obtain ⟨i, hi, hs, -⟩ := tab_ok.info (t := 9) rfl
  refine (Tryz.strings_Split s sep m w h1 hm h2).mono fun e w' ⟨he, hw⟩ => ?_
  subst hw
  have := fresh_post hp hi hs (vs := (Lib.splitB sep 0 (Lib.countB s sep) s).map Value.string) (by simp [Value.oneCell'])
  rw [List.length_map, hl, List.map_map] at this
  exact ⟨_, he, this⟩
end Go.Lg.Tryz

set_option linter.unusedVariables false
set_option linter.unusedSimpArgs false
namespace Go.Lg.Tryz
open Go Go.Proofs Go.RowKit Go.Lib Go.Lg.Sem
theorem trimd_ok (s : ByteArray) : ∃ q : ByteArray, (q.toList == ([] : List UInt8)) = s.data.toList.all isDig ∧ (s.size ≤ 1000 → Fn Tryz.prog Gw 89 [str s, str ⟨#[48, 49, 50, 51, 52, 53, 54, 55, 56, 57]⟩] [] (· = str q)) :=
  ⟨_, trim_empty s, fun hs => trim_ok s digits (by omega) (by decide) (by decide)⟩
theorem number_ok (s : ByteArray) : Fn Tryz.prog Gw 79 [str s] [] (· = bool (numP s)) := by
  obtain ⟨q, hq, ht⟩ := trimd_ok s
  have hb : ¬ (s.toList == []) = true → ∃ b, s.data.toList[0]? = some b := fun h => by
    rw [ba_toList] at h
    cases hl : s.data.toList with
    | nil => rw [hl] at h; simp at h
    | cons b l => exact ⟨b, rfl⟩
  refine Fn.of tab_ok Tryz.func79 rfl (by decide) (by simp [Tryz.f79]) rfl (fun κ v h => by cases h) Gw.below ?_
  repeat' (first|refine zS ?_|refine zR ?_|refine zE tab_ok rfl rfl ?_|refine zN ?_|(refine zG rfl rfl (fun _ => ?_) fun _ => ?_)<;>refine zE tab_ok rfl rfl ?_|(refine zC rfl (fun _ => ?_) fun _ => ?_)<;>try (rename_i h; cases h; done)|refine zB ?_|refine zK ?_|refine zZ ⟨_, rfl, ?_⟩)
  all_goals first | (refine Sq.callv rfl (ht (by simp only [decide_eq_false_iff_not] at *; omega)) ?_) | (obtain ⟨b, hb⟩ := hb (by simp_all; done); refine Sq.byte tab_ok rfl (by decide) hb ?_) | skip
  repeat' (first|refine zS ?_|refine zR ?_|refine zE tab_ok rfl rfl ?_|refine zN ?_|(refine zG rfl rfl (fun _ => ?_) fun _ => ?_)<;>refine zE tab_ok rfl rfl ?_|(refine zC rfl (fun _ => ?_) fun _ => ?_)<;>try (rename_i h; cases h; done)|refine zB ?_|refine zK ?_|refine zZ ⟨_, rfl, ?_⟩)
  all_goals first | (refine Sq.callv rfl (ht (by simp only [decide_eq_false_iff_not] at *; omega)) ?_) | skip
  repeat' (first|refine zS ?_|refine zR ?_|refine zE tab_ok rfl rfl ?_|refine zN ?_|(refine zG rfl rfl (fun _ => ?_) fun _ => ?_)<;>refine zE tab_ok rfl rfl ?_|(refine zC rfl (fun _ => ?_) fun _ => ?_)<;>try (rename_i h; cases h; done)|refine zB ?_|refine zK ?_|refine zZ ⟨_, rfl, ?_⟩)
  all_goals
    show bool _ = bool _
    congr 3
    have hz := data_length s
    clear ht
    simp only [ba_toList] at *
    first | refine hq.trans ?_ | skip
    simp only [numP, numL] at *
    rename_i h
    clear hq
    cases hl : s.data.toList with
    | nil => simp_all
    | cons c l =>
      simp only [hl, List.getElem?_cons_zero, Option.some.injEq] at *
      have hc : (c = 48) ↔ (c.toNat = 48) := ⟨fun h => by rw [h]; rfl, fun h => UInt8.toNat_inj.1 h⟩
      rcases l with _ | ⟨c2, l⟩ <;> simp_all <;> intros <;> omega
theorem mark_ok (s : ByteArray) : Fn Tryz.prog Gw 63 [str s] [] (· = bool (markL s.data.toList)) := by
  obtain ⟨q, hq, ht⟩ := trimd_ok s
  have hnum := number_ok s
  have hz := data_length s
  refine Fn.of tab_ok Tryz.func63 rfl (by decide) (by simp [Tryz.f63]) rfl (fun κ v h => by cases h) Gw.below ?_
  repeat' (first|refine zS ?_|refine zR ?_|refine zE tab_ok rfl rfl ?_|refine zN ?_|(refine zG rfl rfl (fun _ => ?_) fun _ => ?_)<;>refine zE tab_ok rfl rfl ?_|(refine zC rfl (fun _ => ?_) fun _ => ?_)<;>try (rename_i h; cases h; done)|refine zB ?_|refine zK ?_|refine zZ ⟨_, rfl, ?_⟩)
  · show bool _ = bool _
    congr 3
    simp only [ba_toList] at *
    have : s.data.toList = [] := by simp_all
    rw [this]; rfl
  · show bool _ = bool _
    congr 3
    simp only [decide_eq_true_eq] at *
    have : decide (s.data.toList.length ≤ 10) = false := by simp only [decide_eq_false_iff_not]; omega
    simp only [markL, this, Bool.and_false, Bool.false_and]
  · simp only [ba_toList] at *
    have h1 : s.data.toList ≠ [] := by intro h; simp_all
    have h10 : s.data.toList.length ≤ 10 := by simp only [decide_eq_false_iff_not] at *; omega
    obtain ⟨xs, hxs⟩ : ∃ xs, s.data.toList = xs := ⟨_, rfl⟩
    rw [hxs] at h1 h10 hz
    refine Sq.bytes tab_ok rfl ?_
    rw [hxs]
    repeat' (first | refine zS ?_ | refine zR ?_ | refine zE tab_ok rfl rfl ?_ | refine zN ?_ | refine zB ?_ | refine zK ?_)
    refine Tr.loopS (fun i : Nat => [(.s 0, str s), (.s 13, .tr (.ls (xs.map byteT))), (.s 14, int (xs.map byteT).length), (.s 15, int i)]) (fun i => xs.length - i) (fun i => i ≤ xs.length ∧ (xs.take i).all (fun b => okB b.toNat) = true)
      0 ⟨by omega, by simp⟩ (Sub.app (l := [_, _, _, _]) (H := []) ⟨rfl, rfl, rfl, rfl, trivial⟩ (fun κ v h => nomatch h)) ?_
    rintro i ⟨hi, hp⟩
    repeat' (first | refine zS ?_ | refine zR ?_ | refine zE tab_ok rfl rfl ?_ | refine zN ?_ | refine zB ?_ | refine zK ?_)
    refine zC rfl (fun h => ?_) (fun h => ?_)
    · have hlt : i < xs.length := by simpa using h
      repeat' (first | refine zS ?_ | refine zR ?_ | refine zE tab_ok rfl rfl ?_ | refine zN ?_ | refine zB ?_ | refine zK ?_)
      refine zI (x := byteT xs[i]) tab_ok rfl (by omega) (by simp [hlt]) rfl ?_
      repeat' (first|refine zS ?_|refine zR ?_|refine zE tab_ok rfl rfl ?_|refine zN ?_|(refine zG rfl rfl (fun _ => ?_) fun _ => ?_)<;>refine zE tab_ok rfl rfl ?_|(refine zC rfl (fun _ => ?_) fun _ => ?_)<;>try (rename_i h; cases h; done)|refine zB ?_|refine zK ?_|refine zZ ⟨_, rfl, ?_⟩)
      all_goals first
        | refine ⟨i + 1, ⟨by omega, ?_⟩, by omega, Sub.app (l := [_, _, _, _]) (H := []) ⟨rfl, rfl, rfl, congrArg some (wrapz (by omega) (by omega) (by omega)), trivial⟩ (fun κ v h => nomatch h)⟩
          rw [List.take_succ_eq_append_getElem hlt, List.all_append, hp]
          simp only [decide_eq_true_eq, decide_eq_false_iff_not, Bool.not_eq_true', Bool.not_eq_false'] at *
          simp [okB]
          omega
        | show bool _ = bool _
          congr 3
          have : okB xs[i].toNat = false := by
            simp only [decide_eq_true_eq, decide_eq_false_iff_not, Bool.not_eq_true', Bool.not_eq_false'] at *
            simp [okB]
            omega
          have h2 : (xs.all fun b => okB b.toNat) = false := by
            rw [← Bool.not_eq_true, List.all_eq_true]
            intro h
            rw [h _ (List.getElem_mem hlt)] at this; cases this
          simp only [markL, hxs, h2, Bool.and_false, Bool.false_and]
    · have hge : ¬ i < xs.length := by simpa using h
      rw [List.take_of_length_le (by omega)] at hp
      refine Tr.exit ?_
      repeat' (first|refine zS ?_|refine zR ?_|refine zE tab_ok rfl rfl ?_|refine zN ?_|(refine zG rfl rfl (fun _ => ?_) fun _ => ?_)<;>refine zE tab_ok rfl rfl ?_|(refine zC rfl (fun _ => ?_) fun _ => ?_)<;>try (rename_i h; cases h; done)|refine zB ?_|refine zK ?_|refine zZ ⟨_, rfl, ?_⟩)
      refine Sq.callv rfl (ht (by omega)) ?_
      repeat' (first|refine zS ?_|refine zR ?_|refine zE tab_ok rfl rfl ?_|refine zN ?_|(refine zG rfl rfl (fun _ => ?_) fun _ => ?_)<;>refine zE tab_ok rfl rfl ?_|(refine zC rfl (fun _ => ?_) fun _ => ?_)<;>try (rename_i h; cases h; done)|refine zB ?_|refine zK ?_|refine zZ ⟨_, rfl, ?_⟩)
      all_goals first | (refine Sq.callv rfl hnum ?_) | skip
      repeat' (first|refine zS ?_|refine zR ?_|refine zE tab_ok rfl rfl ?_|refine zN ?_|(refine zG rfl rfl (fun _ => ?_) fun _ => ?_)<;>refine zE tab_ok rfl rfl ?_|(refine zC rfl (fun _ => ?_) fun _ => ?_)<;>try (rename_i h; cases h; done)|refine zB ?_|refine zK ?_|refine zZ ⟨_, rfl, ?_⟩)
      all_goals
        show bool _ = bool _
        congr 3
        simp only [ba_toList, Bool.not_eq_true', Bool.not_eq_false'] at *
        have h2 : markL xs = (!(xs.all isDig) || numL xs) := by
          have e1 : xs.isEmpty = false := by cases xs <;> simp_all
          have e2 : decide (xs.length ≤ 10) = true := decide_eq_true h10
          simp only [markL, e1, e2, hp, Bool.not_false, Bool.true_and]
        rw [h2]
        rename_i h3
        have h3 := hq.symm.trans h3
        rw [hxs] at h3
        simp [h3, numP, hxs]
end Go.Lg.Tryz

set_option linter.unusedVariables false
set_option linter.unusedSimpArgs false
namespace Go.Lg.Tryz
open Go Go.Proofs Go.RowKit Go.Lib Go.Lg.Sem
theorem cmpI_lib (x y : Int) : Lib.compareInt x y = cmpI x y := by
  unfold Lib.compareInt cmpI
  rfl
theorem cmpint_ok' (x y : Int) : Fn Tryz.prog Gw 83 [int x, int y] [] (· = int (cmpI x y)) := cmpI_lib x y ▸ cmpint_ok x y
theorem sign_ok (x : Int) : Fn Tryz.prog Gw 84 [int x] [] (· = int (cmpI x 0)) := by
  refine Fn.of tab_ok Tryz.func84 rfl (by decide) (by simp [Tryz.f84]) rfl (fun κ v h => by cases h) Gw.below ?_
  repeat' (first|refine zS ?_|refine zR ?_|refine zE tab_ok rfl rfl ?_|refine zN ?_|(refine zG rfl rfl (fun _ => ?_) fun _ => ?_)<;>refine zE tab_ok rfl rfl ?_|(refine zC rfl (fun _ => ?_) fun _ => ?_)<;>try (rename_i h; cases h; done)|refine zB ?_|refine zK ?_|refine zZ ⟨_, rfl, ?_⟩)
  refine Sq.callv rfl (cmpint_ok' x 0) ?_
  repeat' (first|refine zS ?_|refine zR ?_|refine zE tab_ok rfl rfl ?_|refine zN ?_|(refine zG rfl rfl (fun _ => ?_) fun _ => ?_)<;>refine zE tab_ok rfl rfl ?_|(refine zC rfl (fun _ => ?_) fun _ => ?_)<;>try (rename_i h; cases h; done)|refine zB ?_|refine zK ?_|refine zZ ⟨_, rfl, ?_⟩)
  rfl
theorem isNaN_ok (s : ByteArray) : Fn Tryz.prog Gw 124 [str s] [] (· = bool false) := by
  refine Fn.of tab_ok Tryz.func124 rfl (by decide) (by simp [Tryz.f124]) rfl (fun κ v h => by cases h) Gw.below ?_
  repeat' (first|refine zS ?_|refine zR ?_|refine zE tab_ok rfl rfl ?_|refine zN ?_|(refine zG rfl rfl (fun _ => ?_) fun _ => ?_)<;>refine zE tab_ok rfl rfl ?_|(refine zC rfl (fun _ => ?_) fun _ => ?_)<;>try (rename_i h; cases h; done)|refine zB ?_|refine zK ?_|refine zZ ⟨_, rfl, ?_⟩)
  simp
theorem cmpstr_ok (s t : ByteArray) : Fn Tryz.prog Gw 101 [str s, str t] [] (· = int (cmpS s t)) := by
  refine Fn.of tab_ok Tryz.func101 rfl (by decide) (by simp [Tryz.f101]) rfl (fun κ v h => by cases h) Gw.below ?_
  repeat' (first|refine zS ?_|refine zR ?_|refine zE tab_ok rfl rfl ?_|refine zN ?_|(refine zG rfl rfl (fun _ => ?_) fun _ => ?_)<;>refine zE tab_ok rfl rfl ?_|(refine zC rfl (fun _ => ?_) fun _ => ?_)<;>try (rename_i h; cases h; done)|refine zB ?_|refine zK ?_|refine zZ ⟨_, rfl, ?_⟩)
  refine Sq.callv rfl (isNaN_ok s) ?_
  repeat' (first|refine zS ?_|refine zR ?_|refine zE tab_ok rfl rfl ?_|refine zN ?_|(refine zG rfl rfl (fun _ => ?_) fun _ => ?_)<;>refine zE tab_ok rfl rfl ?_|(refine zC rfl (fun _ => ?_) fun _ => ?_)<;>try (rename_i h; cases h; done)|refine zB ?_|refine zK ?_|refine zZ ⟨_, rfl, ?_⟩)
  refine Sq.callv rfl (isNaN_ok t) ?_
  repeat' (first|refine zS ?_|refine zR ?_|refine zE tab_ok rfl rfl ?_|refine zN ?_|(refine zG rfl rfl (fun _ => ?_) fun _ => ?_)<;>refine zE tab_ok rfl rfl ?_|(refine zC rfl (fun _ => ?_) fun _ => ?_)<;>try (rename_i h; cases h; done)|refine zB ?_|refine zK ?_|refine zZ ⟨_, rfl, ?_⟩)
  refine Sq.strcmp rfl ?_
  repeat' (first|refine zS ?_|refine zR ?_|refine zE tab_ok rfl rfl ?_|refine zN ?_|(refine zG rfl rfl (fun _ => ?_) fun _ => ?_)<;>refine zE tab_ok rfl rfl ?_|(refine zC rfl (fun _ => ?_) fun _ => ?_)<;>try (rename_i h; cases h; done)|refine zB ?_|refine zK ?_|refine zZ ⟨_, rfl, ?_⟩)
  · rename_i h
    show int _ = int _
    congr 3
    simp [cmpS, h]
  · rename_i h
    refine Sq.strcmp rfl ?_
    repeat' (first|refine zS ?_|refine zR ?_|refine zE tab_ok rfl rfl ?_|refine zN ?_|(refine zG rfl rfl (fun _ => ?_) fun _ => ?_)<;>refine zE tab_ok rfl rfl ?_|(refine zC rfl (fun _ => ?_) fun _ => ?_)<;>try (rename_i h; cases h; done)|refine zB ?_|refine zK ?_|refine zZ ⟨_, rfl, ?_⟩)
    all_goals
      rename_i h2
      show int _ = int _
      congr 3
      rw [h] at h2
      simp only [Bool.false_or, Bool.not_eq_true', Bool.not_eq_false'] at h2
      simp [cmpS, h, h2]
theorem or_ok (xs : List Int) (hn : xs.length ≤ 1000000) : Fn Tryz.prog Gw 82 [.tr (.ls (xs.map fun x => .sc (.int .i64 x)))] [] (· = int (orL xs)) := by
  refine Fn.of tab_ok Tryz.func82 rfl (by decide) (by simp [Tryz.f82]) rfl (fun κ v h => by cases h) Gw.below ?_
  repeat' (first | refine zS ?_ | refine zR ?_ | refine zE tab_ok rfl rfl ?_ | refine zN ?_ | refine zB ?_ | refine zK ?_)
  refine Tr.loopS (fun i : Nat => [(.s 0, .tr (.ls (xs.map fun x => .sc (.int .i64 x)))), (.s 6, .tr (.ls (xs.map fun x => .sc (.int .i64 x)))), (.s 3, int 0), (.s 7, int (xs.map fun x => Go.Lg.T.sc (.int .i64 x)).length), (.s 8, int i)]) (fun i => xs.length - i) (fun i => i ≤ xs.length ∧ orL xs = orL (xs.drop i))
    0 ⟨by omega, by simp⟩ (Sub.app (l := [_, _, _, _, _]) (H := []) ⟨rfl, rfl, rfl, rfl, rfl, trivial⟩ (fun κ v h => nomatch h)) ?_
  rintro i ⟨hi, hp⟩
  repeat' (first | refine zS ?_ | refine zR ?_ | refine zE tab_ok rfl rfl ?_ | refine zN ?_ | refine zB ?_ | refine zK ?_)
  refine zC rfl (fun h => ?_) (fun h => ?_)
  · have hlt : i < xs.length := by simpa using h
    rw [List.drop_eq_getElem_cons hlt] at hp
    repeat' (first | refine zS ?_ | refine zR ?_ | refine zE tab_ok rfl rfl ?_ | refine zN ?_ | refine zB ?_ | refine zK ?_)
    refine zI (x := .sc (.int .i64 xs[i])) tab_ok rfl (by omega) (by simp [hlt]) rfl ?_
    repeat' (first|refine zS ?_|refine zR ?_|refine zE tab_ok rfl rfl ?_|refine zN ?_|(refine zG rfl rfl (fun _ => ?_) fun _ => ?_)<;>refine zE tab_ok rfl rfl ?_|(refine zC rfl (fun _ => ?_) fun _ => ?_)<;>try (rename_i h; cases h; done)|refine zB ?_|refine zK ?_|refine zZ ⟨_, rfl, ?_⟩)
    all_goals rename_i h2
    · show int _ = int _
      congr 3
      rw [hp]; simp at h2; simp [orL, h2]
    · refine ⟨i + 1, ⟨by omega, ?_⟩, by omega, Sub.app (l := [_, _, _, _, _]) (H := []) ⟨rfl, rfl, rfl, rfl, congrArg some (wrapz (by omega) (by omega) (by omega)), trivial⟩ (fun κ v h => nomatch h)⟩
      rw [hp]; simp at h2; simp [orL, h2]
  · have hge : ¬ i < xs.length := by simpa using h
    refine Tr.exit ?_
    repeat' (first|refine zS ?_|refine zR ?_|refine zE tab_ok rfl rfl ?_|refine zN ?_|(refine zG rfl rfl (fun _ => ?_) fun _ => ?_)<;>refine zE tab_ok rfl rfl ?_|(refine zC rfl (fun _ => ?_) fun _ => ?_)<;>try (rename_i h; cases h; done)|refine zB ?_|refine zK ?_|refine zZ ⟨_, rfl, ?_⟩)
    rw [hp, List.drop_of_length_le (by omega)]; rfl
end Go.Lg.Tryz

set_option linter.unusedVariables false
set_option linter.unusedSimpArgs false
namespace Go.Lg.Tryz
open Go Go.Proofs Go.RowKit Go.Lib Go.Lg.Sem
theorem atoi_num (s : ByteArray) (h : numP s = true) : Fn Tryz.prog Gw 80 [str s] [] (· = .tup [.tr (.sc (.int .i64 (valP s))), .tr (.sc .nilIface)]) := by
  obtain ⟨h1, h2, h3, _⟩ := numL_parts h
  rw [data_length] at h2
  refine atoi_ok s (valP s) (by omega) ?_
  unfold valP numV
  generalize s.data.toList = l at *
  cases l with
  | nil => exact absurd rfl h1
  | cons b t =>
    have hb : 48 ≤ b.toNat ∧ b.toNat ≤ 57 := by simp only [List.all_cons, Bool.and_eq_true] at h3; simpa [isDig] using h3.1
    have e1 : (b == 45) = false := by rw [beq_eq_false_iff_ne]; rintro rfl; exact absurd hb.1 (by decide)
    have e2 : (b == 43) = false := by rw [beq_eq_false_iff_ne]; rintro rfl; exact absurd hb.1 (by decide)
    simp only [Lib.atoi, e1, e2, Lib.decNat, List.isEmpty_cons, decFrom_digits _ _ h3]
    rfl
abbrev strT (x : ByteArray) : T := .sc (.string x)
theorem split_dot (s : ByteArray) (h : s.size < 4294967281) : Fn Tryz.prog Gw 78 [str s, str ⟨#[46]⟩] [] (· = .own 9 ((pieces dot s).map strT)) := split_ok s dot h (by decide)
theorem cmpL_at (m n : Nat) (x y : List ByteArray) (i : Nat) (h1 : i < x.length) (h2 : i < y.length) : cmpL m n (x.drop i) (y.drop i) = if x[i].toList = y[i].toList then cmpL m n (x.drop (i + 1)) (y.drop (i + 1)) else cmpM x[i] y[i] := by
  rw [List.drop_eq_getElem_cons h1, List.drop_eq_getElem_cons h2]; rfl
theorem cmpL_end (m n : Nat) (x y : List ByteArray) (i : Nat) (h : x.length ≤ i ∨ y.length ≤ i) : cmpL m n (x.drop i) (y.drop i) = cmpI m n := by
  rcases h with h | h <;> rw [List.drop_of_length_le h]
  · cases y.drop i <;> rfl
  · cases x.drop i <;> rfl
theorem marks_ok (a b : ByteArray) (ha : a.size < 4294967281) (hb : b.size < 4294967281) : Fn Tryz.prog Gw 85 [str a, str b] [] (· = int (marksV a b)) := by
  have sa := split_dot a ha
  have sb := split_dot b hb
  have la := pieces_len a
  have lb := pieces_len b
  refine Fn.of tab_ok Tryz.func85 rfl (by decide) (by simp [Tryz.f85]) rfl (fun κ v h => by cases h) Gw.below ?_
  repeat' (first|refine zS ?_|refine zR ?_|refine zE tab_ok rfl rfl ?_|refine zN ?_|(refine zG rfl rfl (fun _ => ?_) fun _ => ?_)<;>refine zE tab_ok rfl rfl ?_|(refine zC rfl (fun _ => ?_) fun _ => ?_)<;>try (rename_i h; cases h; done)|refine zB ?_|refine zK ?_|refine zZ ⟨_, rfl, ?_⟩)
  · rename_i h _
    refine Sq.callv rfl (cmpint_ok' b.size a.size) ?_
    repeat' (first|refine zS ?_|refine zR ?_|refine zE tab_ok rfl rfl ?_|refine zN ?_|(refine zG rfl rfl (fun _ => ?_) fun _ => ?_)<;>refine zE tab_ok rfl rfl ?_|(refine zC rfl (fun _ => ?_) fun _ => ?_)<;>try (rename_i h; cases h; done)|refine zB ?_|refine zK ?_|refine zZ ⟨_, rfl, ?_⟩)
    rw [ba_toList] at h
    have : a.toList = [] := by rw [ba_toList]; simpa using h
    rw [marksV, if_pos (.inl this)]
  · rename_i _ h
    refine Sq.callv rfl (cmpint_ok' b.size a.size) ?_
    repeat' (first|refine zS ?_|refine zR ?_|refine zE tab_ok rfl rfl ?_|refine zN ?_|(refine zG rfl rfl (fun _ => ?_) fun _ => ?_)<;>refine zE tab_ok rfl rfl ?_|(refine zC rfl (fun _ => ?_) fun _ => ?_)<;>try (rename_i h; cases h; done)|refine zB ?_|refine zK ?_|refine zZ ⟨_, rfl, ?_⟩)
    rw [ba_toList] at h
    have : b.toList = [] := by rw [ba_toList]; simpa using h
    rw [marksV, if_pos (.inr this)]
  · rename_i h1 h2
    simp only [ba_toList] at h1 h2
    have hv : marksV a b = cmpL (pieces dot a).length (pieces dot b).length (pieces dot a) (pieces dot b) := by
      rw [marksV, if_neg]
      rw [ba_toList, ba_toList]
      rintro (h | h)
      · exact absurd h1 (by rw [h]; decide)
      · exact absurd h2 (by rw [h]; decide)
    rw [hv]
    generalize pieces dot a = x at *
    generalize pieces dot b = y at *
    refine Sq.callv rfl (sa) ?_
    repeat' (first|refine zS ?_|refine zR ?_|refine zE tab_ok rfl rfl ?_|refine zN ?_|(refine zG rfl rfl (fun _ => ?_) fun _ => ?_)<;>refine zE tab_ok rfl rfl ?_|(refine zC rfl (fun _ => ?_) fun _ => ?_)<;>try (rename_i h; cases h; done)|refine zB ?_|refine zK ?_|refine zZ ⟨_, rfl, ?_⟩)
    refine Sq.callv rfl (sb) ?_
    repeat' (first|refine zS ?_|refine zR ?_|refine zE tab_ok rfl rfl ?_|refine zN ?_|(refine zG rfl rfl (fun _ => ?_) fun _ => ?_)<;>refine zE tab_ok rfl rfl ?_|(refine zC rfl (fun _ => ?_) fun _ => ?_)<;>try (rename_i h; cases h; done)|refine zB ?_|refine zK ?_|refine zZ ⟨_, rfl, ?_⟩)
    refine Tr.loopS (fun i : Nat => [(.s 5, .own 9 (x.map strT)), (.s 6, .own 9 (y.map strT)), (.s 7, int i)]) (fun i => x.length - i) (fun i => i ≤ x.length ∧ i ≤ y.length ∧ cmpL x.length y.length x y = cmpL x.length y.length (x.drop i) (y.drop i))
      0 ⟨by omega, by omega, by simp⟩ (Sub.app (l := [_, _, _]) (H := []) ⟨rfl, rfl, rfl, trivial⟩ (fun κ v h => nomatch h)) ?_
    rintro i ⟨hi1, hi2, hp⟩
    repeat' (first|refine zS ?_|refine zR ?_|refine zE tab_ok rfl rfl ?_|refine zN ?_|(refine zG rfl rfl (fun _ => ?_) fun _ => ?_)<;>refine zE tab_ok rfl rfl ?_|(refine zC rfl (fun _ => ?_) fun _ => ?_)<;>try (rename_i h; cases h; done)|refine zB ?_|refine zK ?_|refine zZ ⟨_, rfl, ?_⟩)
    refine Sq.minmax rfl ?_
    repeat' (first|refine zS ?_|refine zR ?_|refine zE tab_ok rfl rfl ?_|refine zN ?_|(refine zG rfl rfl (fun _ => ?_) fun _ => ?_)<;>refine zE tab_ok rfl rfl ?_|(refine zC rfl (fun _ => ?_) fun _ => ?_)<;>try (rename_i h; cases h; done)|refine zB ?_|refine zK ?_|refine zZ ⟨_, rfl, ?_⟩)
    · rename_i h
      obtain ⟨hx, hy⟩ : i < x.length ∧ i < y.length := by
        simp only [List.length_map, decide_eq_true_eq] at h
        split at h <;> omega
      rw [cmpL_at _ _ _ _ _ hx hy] at hp
      refine Tr.drawn ( zD tab_ok rfl rfl <| zD tab_ok rfl rfl <| zO rfl (fun q K hK => zI (x := strT x[i]) tab_ok rfl (by omega) (by simp [hx]) rfl (zN hK)) <| zD tab_ok rfl rfl <| zD tab_ok rfl rfl <| zD tab_ok rfl rfl <| zO rfl (fun q K hK => zI (x := strT y[i]) tab_ok rfl (by omega) (by simp [hy]) rfl (zN hK)) <| zD tab_ok rfl rfl <| zD tab_ok rfl rfl <| DSq.nil _) mix_ok rfl ?_
      refine zC rfl (fun h => ?_) (fun h => ?_)
      · refine Tr.exit ?_
        repeat' (first|refine zS ?_|refine zR ?_|refine zE tab_ok rfl rfl ?_|refine zN ?_|(refine zG rfl rfl (fun _ => ?_) fun _ => ?_)<;>refine zE tab_ok rfl rfl ?_|(refine zC rfl (fun _ => ?_) fun _ => ?_)<;>try (rename_i h; cases h; done)|refine zB ?_|refine zK ?_|refine zZ ⟨_, rfl, ?_⟩)
        refine ⟨i + 1, ⟨by omega, by omega, ?_⟩, by omega, Sub.app (l := [_, _, _]) (H := []) ⟨rfl, rfl, congrArg some (wrapz (by omega) (by omega) (by omega)), trivial⟩ (fun κ v h => nomatch h)⟩
        rw [hp, if_pos (by simpa using h)]
      · rw [if_neg (by simpa using h)] at hp
        rw [hp]
        repeat' (first|refine zS ?_|refine zR ?_|refine zE tab_ok rfl rfl ?_|refine zN ?_|(refine zG rfl rfl (fun _ => ?_) fun _ => ?_)<;>refine zE tab_ok rfl rfl ?_|(refine zC rfl (fun _ => ?_) fun _ => ?_)<;>try (rename_i h; cases h; done)|refine zB ?_|refine zK ?_|refine zZ ⟨_, rfl, ?_⟩)
        have nx := number_ok x[i]
        have ny := number_ok y[i]
        refine Tr.drawn ( zD tab_ok rfl rfl <| zD tab_ok rfl rfl <| zO rfl (fun q K hK => zI (x := strT x[i]) tab_ok rfl (by omega) (by simp [hx]) rfl (zN hK)) <| zD tab_ok rfl rfl <| DSq.call rfl (fun _ => rfl) (nx) <| zD tab_ok rfl rfl <| zD tab_ok rfl rfl <| zO rfl (fun q K hK => zI (x := strT y[i]) tab_ok rfl (by omega) (by simp [hy]) rfl (zN hK)) <| zD tab_ok rfl rfl <| DSq.call rfl (fun _ => rfl) (ny) <| zD tab_ok rfl rfl <| zD tab_ok rfl rfl <| DSq.nil _) mix_ok rfl ?_
        have ex : cmpM x[i] y[i] = if numP x[i] = true then (if numP y[i] = true then cmpI (valP x[i]) (valP y[i]) else -1) else if numP y[i] = true then 1 else cmpS x[i] y[i] := rfl
        rw [ex]
        have ax := atoi_num x[i]
        have ay := atoi_num y[i]
        cases e1 : numP x[i] <;> cases e2 : numP y[i]
        all_goals repeat' (first|refine zS ?_|refine zR ?_|refine zE tab_ok rfl rfl ?_|refine zN ?_|(refine zG rfl rfl (fun _ => ?_) fun _ => ?_)<;>refine zE tab_ok rfl rfl ?_|(refine zC rfl (fun _ => ?_) fun _ => ?_)<;>try (rename_i h; cases h; done)|refine zB ?_|refine zK ?_|refine zZ ⟨_, rfl, ?_⟩)
        · refine Tr.drawn ( zD tab_ok rfl rfl <| zD tab_ok rfl rfl <| zO rfl (fun q K hK => zI (x := strT x[i]) tab_ok rfl (by omega) (by simp [hx]) rfl (zN hK)) <| zD tab_ok rfl rfl <| zD tab_ok rfl rfl <| zD tab_ok rfl rfl <| zO rfl (fun q K hK => zI (x := strT y[i]) tab_ok rfl (by omega) (by simp [hy]) rfl (zN hK)) <| zD tab_ok rfl rfl <| DSq.call rfl (fun _ => rfl) (cmpstr_ok x[i] y[i]) <| zD tab_ok rfl rfl <| DSq.nil _) mix_ok rfl ?_
          repeat' (first|refine zS ?_|refine zR ?_|refine zE tab_ok rfl rfl ?_|refine zN ?_|(refine zG rfl rfl (fun _ => ?_) fun _ => ?_)<;>refine zE tab_ok rfl rfl ?_|(refine zC rfl (fun _ => ?_) fun _ => ?_)<;>try (rename_i h; cases h; done)|refine zB ?_|refine zK ?_|refine zZ ⟨_, rfl, ?_⟩)
          rfl
        · rfl
        · rfl
        · refine zI (x := strT x[i]) tab_ok rfl (by omega) (by simp [hx]) rfl ?_
          repeat' (first|refine zS ?_|refine zR ?_|refine zE tab_ok rfl rfl ?_|refine zN ?_|(refine zG rfl rfl (fun _ => ?_) fun _ => ?_)<;>refine zE tab_ok rfl rfl ?_|(refine zC rfl (fun _ => ?_) fun _ => ?_)<;>try (rename_i h; cases h; done)|refine zB ?_|refine zK ?_|refine zZ ⟨_, rfl, ?_⟩)
          refine Sq.callv rfl (ax e1) ?_
          repeat' (first|refine zS ?_|refine zR ?_|refine zE tab_ok rfl rfl ?_|refine zN ?_|(refine zG rfl rfl (fun _ => ?_) fun _ => ?_)<;>refine zE tab_ok rfl rfl ?_|(refine zC rfl (fun _ => ?_) fun _ => ?_)<;>try (rename_i h; cases h; done)|refine zB ?_|refine zK ?_|refine zZ ⟨_, rfl, ?_⟩)
          refine zI (x := strT y[i]) tab_ok rfl (by omega) (by simp [hy]) rfl ?_
          repeat' (first|refine zS ?_|refine zR ?_|refine zE tab_ok rfl rfl ?_|refine zN ?_|(refine zG rfl rfl (fun _ => ?_) fun _ => ?_)<;>refine zE tab_ok rfl rfl ?_|(refine zC rfl (fun _ => ?_) fun _ => ?_)<;>try (rename_i h; cases h; done)|refine zB ?_|refine zK ?_|refine zZ ⟨_, rfl, ?_⟩)
          refine Sq.callv rfl (ay e2) ?_
          repeat' (first|refine zS ?_|refine zR ?_|refine zE tab_ok rfl rfl ?_|refine zN ?_|(refine zG rfl rfl (fun _ => ?_) fun _ => ?_)<;>refine zE tab_ok rfl rfl ?_|(refine zC rfl (fun _ => ?_) fun _ => ?_)<;>try (rename_i h; cases h; done)|refine zB ?_|refine zK ?_|refine zZ ⟨_, rfl, ?_⟩)
          refine Sq.callv rfl (cmpint_ok' (valP x[i]) (valP y[i])) ?_
          repeat' (first|refine zS ?_|refine zR ?_|refine zE tab_ok rfl rfl ?_|refine zN ?_|(refine zG rfl rfl (fun _ => ?_) fun _ => ?_)<;>refine zE tab_ok rfl rfl ?_|(refine zC rfl (fun _ => ?_) fun _ => ?_)<;>try (rename_i h; cases h; done)|refine zB ?_|refine zK ?_|refine zZ ⟨_, rfl, ?_⟩)
          rfl
    · rename_i h
      rw [cmpL_end] at hp
      · refine Tr.exit ?_
        repeat' (first|refine zS ?_|refine zR ?_|refine zE tab_ok rfl rfl ?_|refine zN ?_|(refine zG rfl rfl (fun _ => ?_) fun _ => ?_)<;>refine zE tab_ok rfl rfl ?_|(refine zC rfl (fun _ => ?_) fun _ => ?_)<;>try (rename_i h; cases h; done)|refine zB ?_|refine zK ?_|refine zZ ⟨_, rfl, ?_⟩)
        refine Sq.callv rfl (cmpint_ok' (x.map strT).length (y.map strT).length) ?_
        repeat' (first|refine zS ?_|refine zR ?_|refine zE tab_ok rfl rfl ?_|refine zN ?_|(refine zG rfl rfl (fun _ => ?_) fun _ => ?_)<;>refine zE tab_ok rfl rfl ?_|(refine zC rfl (fun _ => ?_) fun _ => ?_)<;>try (rename_i h; cases h; done)|refine zB ?_|refine zK ?_|refine zZ ⟨_, rfl, ?_⟩)
        rw [hp, List.length_map, List.length_map]
      · simp only [List.length_map, decide_eq_false_iff_not] at h
        split at h <;> omega
abbrev verT (a b c : Int) (p : ByteArray) : T := .ag [.sc (.int .i64 a), .sc (.int .i64 b), .sc (.int .i64 c), .sc (.string p)]
theorem Compare_ok (a b c : Int) (p : ByteArray) (a' b' c' : Int) (p' : ByteArray) (h1 : p.size < 4294967281) (h2 : p'.size < 4294967281) : Fn Tryz.prog Gw 60 [.tr (verT a b c p), .tr (verT a' b' c' p')] [] (· = int (cmpV a b c p a' b' c' p')) := by
  refine Fn.of tab_ok Tryz.func60 rfl (by decide) (by simp [Tryz.f60]) rfl (fun κ v h => by cases h) Gw.below ?_
  repeat' (first|refine zS ?_|refine zR ?_|refine zE tab_ok rfl rfl ?_|refine zN ?_|(refine zG rfl rfl (fun _ => ?_) fun _ => ?_)<;>refine zE tab_ok rfl rfl ?_|(refine zC rfl (fun _ => ?_) fun _ => ?_)<;>try (rename_i h; cases h; done)|refine zB ?_|refine zK ?_|refine zZ ⟨_, rfl, ?_⟩)
  refine Tr.drawn ( zD tab_ok rfl rfl <| zD tab_ok rfl rfl <| zD tab_ok rfl rfl <| zD tab_ok rfl rfl <| DSq.call rfl (fun _ => rfl) (cmpint_ok' a a') <| zD tab_ok rfl rfl <| zD tab_ok rfl rfl <| zD tab_ok rfl rfl <| zD tab_ok rfl rfl <| DSq.call rfl (fun _ => rfl) (cmpint_ok' b b') <| zD tab_ok rfl rfl <| zD tab_ok rfl rfl <| zD tab_ok rfl rfl <| zD tab_ok rfl rfl <| DSq.call rfl (fun _ => rfl) (cmpint_ok' c c') <| zD tab_ok rfl rfl <| zD tab_ok rfl rfl <| zD tab_ok rfl rfl <| zD tab_ok rfl rfl <| DSq.call rfl (fun _ => rfl) (marks_ok p p' h1 h2) <| DSq.call rfl (fun _ => rfl) (sign_ok _) <| zD tab_ok rfl rfl <| DSq.call rfl (fun _ => rfl) (or_ok [cmpI a a', cmpI b b', cmpI c c', cmpI (marksV p p') 0] (by simp)) <| zD tab_ok rfl rfl <| DSq.nil _) mix_ok rfl ?_
  repeat' (first|refine zS ?_|refine zR ?_|refine zE tab_ok rfl rfl ?_|refine zN ?_|(refine zG rfl rfl (fun _ => ?_) fun _ => ?_)<;>refine zE tab_ok rfl rfl ?_|(refine zC rfl (fun _ => ?_) fun _ => ?_)<;>try (rename_i h; cases h; done)|refine zB ?_|refine zK ?_|refine zZ ⟨_, rfl, ?_⟩)
  rfl
end Go.Lg.Tryz

namespace Go.Proofs.Cuts
open Go Go.RowKit
structure Keeps (L B : Nat) (W W' : World) : Prop where
  size : W.heap.size ≤ W'.heap.size
  block : ∀ r, (r < L ∨ (B ≤ r ∧ r < B + 3) ∨ ∃ o, W.heap[r]? = some o ∧ o.isCells = false) → r < W.heap.size → W'.heap[r]? = W.heap[r]?
theorem Keeps.refl (L B : Nat) (W : World) : Keeps L B W W := ⟨Nat.le_refl _, fun _ _ _ => rfl⟩
theorem Keeps.trans {L B : Nat} {A W C : World} (h : Keeps L B A W) (k : Keeps L B W C) : Keeps L B A C :=
  ⟨Nat.le_trans h.size k.size, fun r hb hr => (k.block r (hb.imp id (Or.imp id (fun ⟨o, ho, hc⟩ => ⟨o, (h.block r (.inr (.inr ⟨o, ho, hc⟩)) hr).trans ho, hc⟩))) (Nat.lt_of_lt_of_le hr h.size)).trans (h.block r hb hr)⟩
theorem Keeps.below {L B : Nat} {A W : World} (h : Below A.heap.size A W) : Keeps L B A W := ⟨h.size, fun r _ hr => h.block r hr⟩
theorem Keeps.alloc (L B : Nat) (W : World) (o : Obj) : Keeps L B W (W.alloc o) := Keeps.below ((Below.refl _ W).alloc (Nat.le_refl _) o)
theorem setCell_other {W : World} {p : Addr} {v : Value} {r : Nat} {o : Obj} (h : W.heap[r]? = some o) (hc : o.isCells = false) : (W.setCell p v).heap[r]? = W.heap[r]? := by
  by_cases e : r = p.block
  · subst e
    simp only [World.setCell, Array.getElem?_modify, h]
    cases o <;> first | rfl | (simp [Obj.isCells] at hc; done) | (cases hc; done) | (simp; done)
  · exact Below.heap_setCell W p v r e
theorem Keeps.setCell {L B : Nat} (W : World) (p : Addr) (v : Value) (hl : L ≤ p.block) (h : p.block < B ∨ B + 3 ≤ p.block) : Keeps L B W (W.setCell p v) :=
  ⟨by simp, fun r hb _ => by
    rcases hb with hb | hb | ⟨o, ho, hc⟩
    · exact Below.heap_setCell W p v r (by omega)
    · exact Below.heap_setCell W p v r (by omega)
    · exact setCell_other ho hc⟩
theorem Keeps.drewN (L B : Nat) (W : World) (n : Nat) : Keeps L B W (W.drewN n) := ⟨Nat.le_refl _, fun _ _ _ => rfl⟩
theorem Keeps.grown {L B : Nat} {W W' : World} {row : Option Nat} (h : W.grownBy W' row) (hr : ∀ r, row = some r → L ≤ r ∧ (r < B ∨ B + 3 ≤ r) ∧ ∃ o, W.heap[r]? = some o ∧ o.isCells = true) : Keeps L B W W' :=
  ⟨h.size, fun r hb hlt => h.block r hlt (fun e => by
    obtain ⟨h1, h2, o, ho, hc⟩ := hr r e.symm
    rcases hb with hb | hb | ⟨o', ho', hc'⟩
    · omega
    · omega
    · rw [ho] at ho'; cases ho'; rw [hc] at hc'; cases hc')⟩
theorem Keeps.cell {L B : Nat} {W W' : World} (h : Keeps L B W W') {p : Addr} {v : Value} (hb : p.block < L ∨ (B ≤ p.block ∧ p.block < B + 3)) (hc : W.cell? p = some v) : W'.cell? p = some v := by
  have hlt := World.block_lt_of_cell? W p hc
  unfold World.cell? at hc ⊢
  rw [h.block _ (hb.imp id .inl) hlt]; exact hc
def Harm (b E : Nat) (W W' : World) : Prop := ∃ row, W.grownBy W' row ∧ ∀ r, row = some r → r = b ∨ (E ≤ r ∧ ∃ o, W.heap[r]? = some o ∧ o.isCells = false)
def Hold (b E : Nat) (I : Nat → World → Prop) : Prop := ∀ k W W', I k W → Harm b E W W' → I k W'
def HoldB (b : Nat) (I : Nat → World → Prop) : Prop := ∀ k W W', I k W → W.grownBy W' (some b) → I k W'
theorem Hold.pure (b E : Nat) (p : Nat → Prop) : Hold b E (fun k _ => p k) := fun _ _ _ h _ => h
theorem grownBy_put (W : World) (l : Nat) (o : Obj) : W.grownBy (W.putObj l o) (some l) := grownBy_putObj' W l o
theorem Hold.put {b E : Nat} {I : Nat → World → Prop} (h : Hold b E I) {k : Nat} {W : World} {l : Nat} {o : Obj} (o' : Obj) (hi : I k W) (he : E ≤ l) (hl : W.heap[l]? = some o) (hc : o.isCells = false) : I k (W.putObj l o') :=
  h k W _ hi ⟨some l, grownBy_put W l o', fun r e => .inr (by cases e; exact ⟨he, o, hl, hc⟩)⟩
theorem Hold.new {b E : Nat} {I : Nat → World → Prop} (h : Hold b E I) {k : Nat} {W : World} (o : Obj) (hi : I k W) : I k (W.alloc o) :=
  h k W _ hi ⟨none, ((Below.refl _ W).alloc (Nat.le_refl _) o) |> fun hb => ⟨hb.os, hb.tape, hb.output, hb.size, fun i hi _ => hb.block i hi⟩, fun r e => by cases e⟩
def cutPost (L B : Nat) (I : Nat → World → Prop) (Ix : Code → Nat → World → Prop) (k : Nat) (W : World) : Exit → Act → World → Prop
  | .normal, _, W' => Keeps L B W W' ∧ I (k + 1) W'
  | .ret, _, W' => Keeps L B W W' ∧ Ix .ret (k + 1) W'
  | .exit id, _, W' => Keeps L B W W' ∧ Ix (.exit id) (k + 1) W'
  | .goto t, _, W' => Keeps L B W W' ∧ Ix (.goto t) (k + 1) W'
  | .panic _, _, _ => False
  | .outgrown, _, _ => False
def Iter (F : Fence) (n : Nat) (P : Program) (gf : Nat) (lb : Array Value) (L B : Nat) (xs : List Value) (w : World) : Prop :=
  ∀ (l : Nat) (J Jx : Nat → World → Prop) (W : World), Keeps L B w W → HoldB B J → HoldB B Jx →
    (∀ k W1 v, J k W1 → xs[k]? = some v → YieldAt F (n - 1) P l #[v] W1 fun e W' => (e = .returned (.bool true) ∧ J (k + 1) W' ∧ Keeps L B W1 W') ∨ (e = .returned (.bool false) ∧ Jx (k + 1) W')) →
    J 0 W →
    CallsIn F n P gf (#[.func (.yield l) #[] #[]] ++ lb) W fun e W' => (∃ v, e = .returned v) ∧ (J xs.length W' ∨ ∃ k, Jx k W')
variable {F : Fence} {n : Nat} {P : Program}
theorem range_cuts {g : Operand} {ps : Array Tmp} {assign body : Code} {Q : Exit → Act → World → Prop} {a : Act} {w : World}
    (hro : F.round = none) (h1 : 1 ≤ n) {gf : Nat} {lb : Array Value} (hg : a.eval g = .func (.func gf) #[] lb) (hFg : F.fn gf) (eg : ∀ args w, (callFunc gf args).run P w = .ok (.enter gf args) w)
    {L B : Nat} {xs : List Value} (hB : B < w.heap.size) (hseq : Iter F (n - 1) P gf lb L B xs w) (hps : ps.size = 1)
    (I : Nat → World → Prop) (Ix : Code → Nat → World → Prop) (hI : Hold B w.heap.size I) (hIx : ∀ c, Hold B w.heap.size (Ix c)) (h0 : I 0 w) (a₁ : Value → Act)
    (hassign : ∀ (l : Nat) (v : Value) (W : World) (K : Act → World → Prop), K (a₁ v) W →
      assign.wpIn (F.inRound l) (n - 1 - 1) P (Exit.then K (fun _ _ _ => False)) { tmps := (ps.zip #[v]).foldl (fun t (p, v) => t.setIfInBounds p v) a.tmps, defers := [] } W)
    (hbody : ∀ (l k : Nat) (v : Value) (W : World), I k W → xs[k]? = some v → w.heap.size ≤ W.heap.size → w.heap.size ≤ l → (∃ r, W.heap[l]? = some (.loop r)) → body.wpIn (F.inRound l) (n - 1 - 1) P (cutPost L B I Ix k W) (a₁ v) W)
    (hdone : ∀ (D : Nat) (W : World), I xs.length W → W.heap[D]? = some (.deferred (some [])) → w.heap.size ≤ D → Q .normal { a with defers := { target := .collected D, args := #[] } :: a.defers } W)
    (hstop : ∀ (D : Nat) (c : Code) (k : Nat) (W : World), Ix c k W → W.heap[D]? = some (.deferred (some [])) → w.heap.size ≤ D → c.wpIn F n P Q { a with defers := { target := .collected D, args := #[] } :: a.defers } W) :
    (Code.rangeFunc g ps assign body).wpIn F n P Q a w := by
  refine wpIn_rangeFunc ?_
  intro fn hfn
  rw [hro]
  obtain ⟨rec, hrec⟩ : ∃ rec : LoopState → Option Code → Loop, rec = fun st pe => { state := st, pending := pe, fn, tmps := a.tmps, params := ps, assign, body, defers := w.heap.size } := ⟨_, rfl⟩
  obtain ⟨W1, hW1⟩ : ∃ W1, (w.alloc (.deferred (some []))).alloc (.loop (rec .ready none)) = W1 := ⟨_, rfl⟩
  have hz1 : W1.heap.size = w.heap.size + 2 := by rw [← hW1]; simp
  have hL1 : W1.heap[w.heap.size + 1]? = some (.loop (rec .ready none)) := by
    rw [← hW1]; have := World.alloc_heap_new (w.alloc (.deferred (some []))) (.loop (rec .ready none)); rwa [World.size_alloc] at this
  have hK1 : W1.heap[w.heap.size]? = some (.deferred (some [])) := by
    rw [← hW1]; exact (Below.heap_alloc _ _ _ (by simp)).trans (World.alloc_heap_new w _)
  have hI1 : I 0 W1 := by rw [← hW1]; exact hI.new _ (hI.new _ h0)
  have hk1 : Keeps L B w W1 := by rw [← hW1]; exact (Keeps.alloc _ _ _ _).trans (Keeps.alloc _ _ _ _)
  refine ⟨w.heap.size + 1, [{ target := .collected w.heap.size, args := #[] }], W1, { target := .fn (.func gf) lb, args := #[.func (.yield (w.heap.size + 1)) #[] #[]] }, W1, gf,
    #[.func (.yield (w.heap.size + 1)) #[] #[]] ++ lb, W1, ?_, ?_, ?_, ?_, fun _ => h1, ?_⟩
  · rw [← hW1, hrec]; exact run_enterLoop_outer _ _ _ _ _
  · simp only [resolve, hg]
    simp [go_sem]
  · intro f' hf'; simp [Target.leads] at hf'; subst hf'; exact hFg
  · simp [invoke, go_sem, eg]
  · -- the invariant with the loop's two blocks beside it
    have hgb : ∀ {W W' : World}, W.grownBy W' (some B) → Harm B w.heap.size W W' := fun h => ⟨some B, h, fun r e => .inl (by cases e; rfl)⟩
    have hst : ∀ {W W' : World} {r : Nat} {o : Obj}, W.grownBy W' (some B) → w.heap.size ≤ r → W.heap[r]? = some o → W'.heap[r]? = some o :=
      fun {W W' r o} h hr hl => (h.block r (Array.getElem?_eq_some_iff.1 hl).1 (by intro e; cases e; omega)).trans hl
    refine (hseq (w.heap.size + 1)
      (fun k W => I k W ∧ W.heap[w.heap.size + 1]? = some (.loop (rec .ready none)) ∧ W.heap[w.heap.size]? = some (.deferred (some [])))
      (fun k W => ∃ c, Ix c k W ∧ W.heap[w.heap.size + 1]? = some (.loop (rec .done (some c))) ∧ W.heap[w.heap.size]? = some (.deferred (some [])))
      W1 hk1
      (fun k A C hs hg' => ⟨hI k A C hs.1 (hgb hg'), hst hg' (by omega) hs.2.1, hst hg' (Nat.le_refl _) hs.2.2⟩)
      (fun k A C hs hg' => by
        obtain ⟨c, hc, hl, hk⟩ := hs
        exact ⟨c, hIx c k A C hc (hgb hg'), hst hg' (by omega) hl, hst hg' (Nat.le_refl _) hk⟩)
      ?_ ⟨hI1, hL1, hK1⟩).mono ?_
    · -- one round
      rintro k W v ⟨hi, hl, hk⟩ hv
      have hlt : w.heap.size + 1 < W.heap.size := (Array.getElem?_eq_some_iff.1 hl).1
      have hy := run_yield (P := P) (args := #[v]) hl (by rw [hrec]; exact hps.symm)
      rw [hrec] at hy
      refine ⟨fn, _, assign, body, hy, roundIn_of_wpIn hfn (hassign _ v W _ ⟨_, run_beginRound hl (by rw [hrec]), ?_⟩)⟩
      have hl2 : (W.putObj (w.heap.size + 1) (.loop { rec .ready none with state := .busy })).heap[w.heap.size + 1]? = some (.loop { rec .ready none with state := .busy }) := World.putObj_heap_same hlt
      have hk2 : (W.putObj (w.heap.size + 1) (.loop { rec .ready none with state := .busy })).heap[w.heap.size]? = some (.deferred (some [])) := (World.putObj_heap_other (by omega)).trans hk
      have hz2 : (W.putObj (w.heap.size + 1) (.loop { rec .ready none with state := .busy })).heap.size = W.heap.size := World.putObj_size
      have hi2 := hI.put (.loop { rec .ready none with state := .busy }) hi (Nat.le_succ _) hl rfl
      refine wpIn_mono (hbody _ k v _ hi2 hv (by rw [hz2]; omega) (by omega) ⟨_, hl2⟩) ?_
      have fin : ∀ (jump : Option Code) (W3 : World), Keeps L B (W.putObj (w.heap.size + 1) (.loop { rec .ready none with state := .busy })) W3 →
          (Instr.endRound (w.heap.size + 1) jump).run P W3 = .ok (.bool jump.isNone) (W3.putObj (w.heap.size + 1) (.loop (rec (if jump.isNone then .ready else .done) jump))) ∧
          W3.heap[w.heap.size + 1]? = some (.loop { rec .ready none with state := .busy }) ∧
          (W3.putObj (w.heap.size + 1) (.loop (rec (if jump.isNone then .ready else .done) jump))).heap[w.heap.size + 1]? = some (.loop (rec (if jump.isNone then .ready else .done) jump)) ∧
          (W3.putObj (w.heap.size + 1) (.loop (rec (if jump.isNone then .ready else .done) jump))).heap[w.heap.size]? = some (.deferred (some [])) := fun jump W3 hk3 => by
        have hl3 := (hk3.block _ (.inr (.inr ⟨_, hl2, rfl⟩)) (by rw [hz2]; omega)).trans hl2
        have hd3 := (hk3.block _ (.inr (.inr ⟨_, hk2, rfl⟩)) (by rw [hz2]; omega)).trans hk2
        have := run_endRound (P := P) jump hl3
        rw [hrec] at this ⊢
        exact ⟨this, by rw [hrec] at hl3; exact hl3, World.putObj_heap_same (Array.getElem?_eq_some_iff.1 hl3).1, (World.putObj_heap_other (by omega)).trans hd3⟩
      have keep : ∀ (W3 : World) (o : Obj), Keeps L B (W.putObj (w.heap.size + 1) (.loop { rec .ready none with state := .busy })) W3 →
          o = .loop (rec .ready none) → Keeps L B W (W3.putObj (w.heap.size + 1) o) := fun W3 o hk3 ho => by
        refine ⟨by rw [World.putObj_size]; have := hk3.size; rw [hz2] at this; exact this, fun r hb hr => ?_⟩
        by_cases e : r = w.heap.size + 1
        · subst e; rw [World.putObj_heap_same (Nat.lt_of_lt_of_le hlt (by have := hk3.size; rw [hz2] at this; exact this)), ho]; exact hl.symm
        · rw [World.putObj_heap_other e, hk3.block r (by rwa [World.putObj_heap_other e]) (by rw [hz2]; exact hr), World.putObj_heap_other e]
      rintro e a3 W3 hp
      cases e with
      | normal =>
        obtain ⟨hk3, hi3⟩ := hp
        obtain ⟨hr, hl3, hl4, hk4⟩ := fin none W3 hk3
        exact ⟨_, _, hr, .inl ⟨rfl, ⟨hI.put _ hi3 (Nat.le_succ _) hl3 rfl, hl4, hk4⟩, keep W3 _ hk3 (by simp)⟩⟩
      | ret =>
        obtain ⟨hk3, hi3⟩ := hp
        obtain ⟨hr, hl3, hl4, hk4⟩ := fin (some .ret) W3 hk3
        exact ⟨_, _, hr, .inr ⟨rfl, .ret, (hIx _).put _ hi3 (Nat.le_succ _) hl3 rfl, hl4, hk4⟩⟩
      | exit id =>
        obtain ⟨hk3, hi3⟩ := hp
        obtain ⟨hr, hl3, hl4, hk4⟩ := fin (some (.exit id)) W3 hk3
        exact ⟨_, _, hr, .inr ⟨rfl, .exit id, (hIx _).put _ hi3 (Nat.le_succ _) hl3 rfl, hl4, hk4⟩⟩
      | goto t =>
        obtain ⟨hk3, hi3⟩ := hp
        obtain ⟨hr, hl3, hl4, hk4⟩ := fin (some (.goto t)) W3 hk3
        exact ⟨_, _, hr, .inr ⟨rfl, .goto t, (hIx _).put _ hi3 (Nat.le_succ _) hl3 rfl, hl4, hk4⟩⟩
      | panic ch => exact hp.elim
      | outgrown => exact hp.elim
    · -- behind the iterator
      rintro e W2 ⟨⟨v, rfl⟩, (⟨hi, hl, hk⟩ | ⟨k, c, hi, hl, hk⟩)⟩
      · exact ⟨none, _, by have := run_endLoop (P := P) hl (by rw [hrec]; simp); rw [hrec] at this; exact this, hdone _ _ (hI.put _ hi (Nat.le_succ _) hl rfl) ((World.putObj_heap_other (by omega)).trans hk) (Nat.le_refl _)⟩
      · exact ⟨some c, _, by have := run_endLoop (P := P) hl (by rw [hrec]; simp); rw [hrec] at this; exact this, hstop _ c k _ ((hIx c).put _ hi (Nat.le_succ _) hl rfl) ((World.putObj_heap_other (by omega)).trans hk) (Nat.le_refl _)⟩
theorem range_cutsN {l₀ : Nat} {r₀ : Loop} {g : Operand} {ps : Array Tmp} {assign body : Code} {Q : Exit → Act → World → Prop} {a : Act} {w : World}
    (hro : F.round = some l₀) (hl₀ : w.heap[l₀]? = some (.loop r₀)) (h1 : 1 ≤ n) {gf : Nat} {lb : Array Value} (hg : a.eval g = .func (.func gf) #[] lb) (hFg : F.fn gf) (eg : ∀ args w, (callFunc gf args).run P w = .ok (.enter gf args) w)
    {L B : Nat} {xs : List Value} (hB : B < w.heap.size) (hseq : Iter F (n - 1) P gf lb L B xs w) (hps : ps.size = 1)
    (I : Nat → World → Prop) (Ix : Code → Nat → World → Prop) (hI : Hold B w.heap.size I) (hIx : ∀ c, Hold B w.heap.size (Ix c)) (h0 : I 0 w) (a₁ : Value → Act)
    (hassign : ∀ (l : Nat) (v : Value) (W : World) (K : Act → World → Prop), K (a₁ v) W →
      assign.wpIn (F.inRound l) (n - 1 - 1) P (Exit.then K (fun _ _ _ => False)) { tmps := (ps.zip #[v]).foldl (fun t (p, v) => t.setIfInBounds p v) a.tmps, defers := [] } W)
    (hbody : ∀ (l k : Nat) (v : Value) (W : World), I k W → xs[k]? = some v → w.heap.size ≤ W.heap.size → w.heap.size ≤ l → (∃ r, W.heap[l]? = some (.loop r)) → body.wpIn (F.inRound l) (n - 1 - 1) P (cutPost L B I Ix k W) (a₁ v) W)
    (hdone : ∀ (W : World), I xs.length W → Q .normal a W)
    (hstop : ∀ (c : Code) (k : Nat) (W : World), Ix c k W → c.wpIn F n P Q a W) :
    (Code.rangeFunc g ps assign body).wpIn F n P Q a w := by
  refine wpIn_rangeFunc ?_
  intro fn hfn
  rw [hro]
  obtain ⟨rec, hrec⟩ : ∃ rec : LoopState → Option Code → Loop, rec = fun st pe => { state := st, pending := pe, fn, tmps := a.tmps, params := ps, assign, body, defers := r₀.defers } := ⟨_, rfl⟩
  obtain ⟨W1, hW1⟩ : ∃ W1, w.alloc (.loop (rec .ready none)) = W1 := ⟨_, rfl⟩
  have hz1 : W1.heap.size = w.heap.size + 1 := by rw [← hW1]; simp
  have hL1 : W1.heap[w.heap.size]? = some (.loop (rec .ready none)) := by rw [← hW1]; exact World.alloc_heap_new w _
  have hI1 : I 0 W1 := by rw [← hW1]; exact hI.new _ h0
  have hk1 : Keeps L B w W1 := by rw [← hW1]; exact Keeps.alloc _ _ _ _
  refine ⟨w.heap.size, [], W1, { target := .fn (.func gf) lb, args := #[.func (.yield w.heap.size) #[] #[]] }, W1, gf,
    #[.func (.yield w.heap.size) #[] #[]] ++ lb, W1, ?_, ?_, ?_, ?_, fun _ => h1, ?_⟩
  · rw [← hW1, hrec]; exact run_enterLoop_inner hl₀ _ _ _ _ _
  · simp only [resolve, hg]
    simp [go_sem]
  · intro f' hf'; simp [Target.leads] at hf'; subst hf'; exact hFg
  · simp [invoke, go_sem, eg]
  · have hgb : ∀ {W W' : World}, W.grownBy W' (some B) → Harm B w.heap.size W W' := fun h => ⟨some B, h, fun r e => .inl (by cases e; rfl)⟩
    have hst : ∀ {W W' : World} {r : Nat} {o : Obj}, W.grownBy W' (some B) → w.heap.size ≤ r → W.heap[r]? = some o → W'.heap[r]? = some o :=
      fun {W W' r o} h hr hl => (h.block r (Array.getElem?_eq_some_iff.1 hl).1 (by intro e; cases e; omega)).trans hl
    refine (hseq w.heap.size
      (fun k W => I k W ∧ W.heap[w.heap.size]? = some (.loop (rec .ready none)))
      (fun k W => ∃ c, Ix c k W ∧ W.heap[w.heap.size]? = some (.loop (rec .done (some c))))
      W1 hk1
      (fun k A C hs hg' => ⟨hI k A C hs.1 (hgb hg'), hst hg' (Nat.le_refl _) hs.2⟩)
      (fun k A C hs hg' => by
        obtain ⟨c, hc, hl⟩ := hs
        exact ⟨c, hIx c k A C hc (hgb hg'), hst hg' (Nat.le_refl _) hl⟩)
      ?_ ⟨hI1, hL1⟩).mono ?_
    · rintro k W v ⟨hi, hl⟩ hv
      have hlt : w.heap.size < W.heap.size := (Array.getElem?_eq_some_iff.1 hl).1
      have hy := run_yield (P := P) (args := #[v]) hl (by rw [hrec]; exact hps.symm)
      rw [hrec] at hy
      refine ⟨fn, _, assign, body, hy, roundIn_of_wpIn hfn (hassign _ v W _ ⟨_, run_beginRound hl (by rw [hrec]), ?_⟩)⟩
      have hl2 : (W.putObj w.heap.size (.loop { rec .ready none with state := .busy })).heap[w.heap.size]? = some (.loop { rec .ready none with state := .busy }) := World.putObj_heap_same hlt
      have hz2 : (W.putObj w.heap.size (.loop { rec .ready none with state := .busy })).heap.size = W.heap.size := World.putObj_size
      have hi2 := hI.put (.loop { rec .ready none with state := .busy }) hi (Nat.le_refl _) hl rfl
      refine wpIn_mono (hbody _ k v _ hi2 hv (by rw [hz2]; omega) (Nat.le_refl _) ⟨_, hl2⟩) ?_
      have fin : ∀ (jump : Option Code) (W3 : World), Keeps L B (W.putObj w.heap.size (.loop { rec .ready none with state := .busy })) W3 →
          (Instr.endRound w.heap.size jump).run P W3 = .ok (.bool jump.isNone) (W3.putObj w.heap.size (.loop (rec (if jump.isNone then .ready else .done) jump))) ∧
          W3.heap[w.heap.size]? = some (.loop { rec .ready none with state := .busy }) ∧
          (W3.putObj w.heap.size (.loop (rec (if jump.isNone then .ready else .done) jump))).heap[w.heap.size]? = some (.loop (rec (if jump.isNone then .ready else .done) jump)) := fun jump W3 hk3 => by
        have hl3 := (hk3.block _ (.inr (.inr ⟨_, hl2, rfl⟩)) (by rw [hz2]; omega)).trans hl2
        have := run_endRound (P := P) jump hl3
        rw [hrec] at this ⊢
        exact ⟨this, by rw [hrec] at hl3; exact hl3, World.putObj_heap_same (Array.getElem?_eq_some_iff.1 hl3).1⟩
      have keep : ∀ (W3 : World) (o : Obj), Keeps L B (W.putObj w.heap.size (.loop { rec .ready none with state := .busy })) W3 →
          o = .loop (rec .ready none) → Keeps L B W (W3.putObj w.heap.size o) := fun W3 o hk3 ho => by
        refine ⟨by rw [World.putObj_size]; have := hk3.size; rw [hz2] at this; exact this, fun r hb hr => ?_⟩
        by_cases e : r = w.heap.size
        · subst e; rw [World.putObj_heap_same (Nat.lt_of_lt_of_le hlt (by have := hk3.size; rw [hz2] at this; exact this)), ho]; exact hl.symm
        · rw [World.putObj_heap_other e, hk3.block r (by rwa [World.putObj_heap_other e]) (by rw [hz2]; exact hr), World.putObj_heap_other e]
      rintro e a3 W3 hp
      cases e with
      | normal =>
        obtain ⟨hk3, hi3⟩ := hp
        obtain ⟨hr, hl3, hl4⟩ := fin none W3 hk3
        exact ⟨_, _, hr, .inl ⟨rfl, ⟨hI.put _ hi3 (Nat.le_refl _) hl3 rfl, hl4⟩, keep W3 _ hk3 (by simp)⟩⟩
      | ret =>
        obtain ⟨hk3, hi3⟩ := hp
        obtain ⟨hr, hl3, hl4⟩ := fin (some .ret) W3 hk3
        exact ⟨_, _, hr, .inr ⟨rfl, .ret, (hIx _).put _ hi3 (Nat.le_refl _) hl3 rfl, hl4⟩⟩
      | exit id =>
        obtain ⟨hk3, hi3⟩ := hp
        obtain ⟨hr, hl3, hl4⟩ := fin (some (.exit id)) W3 hk3
        exact ⟨_, _, hr, .inr ⟨rfl, .exit id, (hIx _).put _ hi3 (Nat.le_refl _) hl3 rfl, hl4⟩⟩
      | goto t =>
        obtain ⟨hk3, hi3⟩ := hp
        obtain ⟨hr, hl3, hl4⟩ := fin (some (.goto t)) W3 hk3
        exact ⟨_, _, hr, .inr ⟨rfl, .goto t, (hIx _).put _ hi3 (Nat.le_refl _) hl3 rfl, hl4⟩⟩
      | panic ch => exact hp.elim
      | outgrown => exact hp.elim
    · rintro e W2 ⟨⟨v, rfl⟩, (⟨hi, hl⟩ | ⟨k, c, hi, hl⟩)⟩
      · exact ⟨none, _, by have := run_endLoop (P := P) hl (by rw [hrec]; simp); rw [hrec] at this; exact this, hdone _ (hI.put _ hi (Nat.le_refl _) hl rfl)⟩
      · exact ⟨some c, _, by have := run_endLoop (P := P) hl (by rw [hrec]; simp); rw [hrec] at this; exact this, hstop c k _ ((hIx c).put _ hi (Nat.le_refl _) hl rfl)⟩
theorem Iter.inRound {gf : Nat} {lb : Array Value} {L B : Nat} {xs : List Value} {w : World} (l : Nat) (h : Iter F n P gf lb L B xs w) : Iter (F.inRound l) n P gf lb L B xs w := h
end Go.Proofs.Cuts

set_option linter.unusedSimpArgs false
set_option linter.unusedVariables false
namespace Go.Lg.Tryz
open Go Go.Proofs Go.RowKit Go.Shelf Go.Proofs.Cuts Go.Lg.Sem
attribute [local go_sem] Oper.semAt_some
def seqW (s sep : ByteArray) (w : World) : World := ((w.alloc (.cells #[.string s] 9)).alloc (.cells #[.string sep] 9)).alloc (.cells #[.int .i64 0] 3)
def seqV (B : Nat) : Value := .func (.func 73) #[] #[.pointer (some ⟨B + 1, 0, none⟩), .pointer (some ⟨B, 0, none⟩), .pointer (some ⟨B + 2, 0, none⟩)]
set_option maxRecDepth 100000 in
theorem splitSeq_any (s sep : ByteArray) (w : World) :
    Calls Tryz.prog 53 #[.string s, .string sep, .int .i64 0] w fun e w' => e = .returned (seqV w.heap.size) ∧ w' = seqW s sep w := by
  go_enter Tryz.func53, Tryz.ntmps53
  go_wp2_with fail
  go_ret
  exact ⟨rfl, rfl⟩
set_option maxRecDepth 100000 in
theorem SplitSeq_any (s sep : ByteArray) (w : World) :
    Calls Tryz.prog 28 #[.string s, .string sep] w fun e w' => e = .returned (seqV w.heap.size) ∧ w' = seqW s sep w := by
  go_enter Tryz.func28, Tryz.ntmps28
  go_wp2_with fail
  refine (splitSeq_any s sep w).mono ?_
  rintro e w' ⟨rfl, rfl⟩
  go_wp2_with fail
  go_ret
  exact ⟨rfl, rfl⟩
def IterRel (B : Nat) (s sep : ByteArray) (J : Nat → World → Prop) (m : Int) (wr : World) : Prop :=
  ∃ k r, wr.heap[B]? = some (.cells #[.string r] 9 (0, 0)) ∧ J k wr ∧ ((pieces sep s).map Value.string).drop k = (pieces sep r).map Value.string ∧ r.size ≤ s.size ∧
    wr.cell? ⟨B + 1, 0, none⟩ = some (.string sep) ∧ wr.cell? ⟨B + 2, 0, none⟩ = some (.int .i64 0) ∧ wr.cell? ⟨2, 0, none⟩ = some (.int .i64 m)
def left (B : Nat) (wr : World) : Nat := match wr.cell? ⟨B, 0, none⟩ with | some (.string r) => r.size | _ => 0
theorem left_eq {B : Nat} {wr : World} {r : ByteArray} (h : wr.heap[B]? = some (.cells #[.string r] 9 (0, 0))) : left B wr = r.size := by simp [left, World.cell?, h]
theorem index_any (r sep : ByteArray) (m : Int) (w : World) (h : r.size < 4294967281 ∨ ∃ c, sep = ⟨#[c]⟩) (hm : w.cell? ⟨2, 0, none⟩ = some (.int .i64 m)) :
    Calls Tryz.prog 75 #[.string r, .string sep] w fun e w' => e = .returned (.int .i64 (Lib.index r.data.toList sep.data.toList)) ∧ w' = w := by
  rcases h with h | ⟨c, rfl⟩
  · exact Tryz.strings_Index r sep m w h hm
  · have := Tryz.strings_Index_one r c w
    rw [← Lib.index_one] at this
    exact this
set_option maxHeartbeats 2000000 in
set_option maxRecDepth 100000 in
theorem split_iter (n : Nat) (hn : 1 ≤ n) (l B : Nat) (hLB : 6 ≤ B) (s sep : ByteArray) (hs : s.size < 9223372036854775808) (hx1 : s.size < 4294967281 ∨ ∃ c, sep = ⟨#[c]⟩) (h1 : 1 ≤ sep.size) (J Jx : Nat → World → Prop) (W : World)
    (hJ : HoldB B J) (hJx : HoldB B Jx)
    (hY : ∀ k W1 v, J k W1 → ((pieces sep s).map Value.string)[k]? = some v → YieldAt Fence.wide (n - 1) Tryz.prog l #[v] W1 fun e W' => (e = .returned (.bool true) ∧ J (k + 1) W' ∧ Keeps 6 B W1 W') ∨ (e = .returned (.bool false) ∧ Jx (k + 1) W'))
    (hb0 : W.heap[B]? = some (.cells #[.string s] 9 (0, 0))) (hb1 : W.heap[B + 1]? = some (.cells #[.string sep] 9 (0, 0))) (hb2 : W.heap[B + 2]? = some (.cells #[.int .i64 0] 3 (0, 0)))
    (m : Int) (hm : W.cell? ⟨2, 0, none⟩ = some (.int .i64 m)) (h0 : J 0 W) :
    CallsIn Fence.wide n Tryz.prog 73 (#[.func (.yield l) #[] #[]] ++ #[.pointer (some ⟨B + 1, 0, none⟩), .pointer (some ⟨B, 0, none⟩), .pointer (some ⟨B + 2, 0, none⟩)]) W fun e W' => (∃ v, e = .returned v) ∧
      (J ((pieces sep s).map Value.string).length W' ∨ ∃ k, Jx k W') := by
  refine callsIn_of_wp Tryz.func73 rfl trivial ?_ rfl
  simp only [Tryz.ntmps73, List.size_toArray, List.length_cons, List.length_nil, Nat.reduceAdd, Nat.reduceSub, Array.replicate_succ, Array.replicate_zero, List.push_toArray, List.append_toArray, List.nil_append, List.cons_append]
  have c1 : W.cell? ⟨B + 1, 0, none⟩ = some (.string sep) := by simp [World.cell?, hb1]
  have c1' : W.cell? ⟨B + 1, 0, none⟩ = some (.string sep) := c1
  have c2' : W.cell? ⟨B + 2, 0, none⟩ = some (.int .i64 0) := by simp [World.cell?, hb2]
  have hne : ((sep.size : Int) == 0) = false := beq_eq_false_iff_ne.2 (by omega)
  clear hb1
  gi_wp2_with fail
  gi_loopw [7] (fun _ wr => IterRel B s sep J m wr) (fun _ wr => left B wr)
  case atStart => exact ⟨0, s, hb0, h0, rfl, Nat.le_refl _, c1', c2', hm⟩
  case round =>
    obtain ⟨k, r, hr0, hJk, hd, hle, g1, g2, gm⟩ := hrel
    clear c1 c1' c2' hm hb0 hb2 h0
    have cr : wr.cell? ⟨B, 0, none⟩ = some (.string r) := by simp [World.cell?, hr0]
    have fr : wr.frozen? ⟨B, 0, none⟩ = false := by simp [World.frozen?, hr0]
    have HD := Lib.hid hd
    have HR0 := Lib.hid hr0
    have HL := Lib.hid (left_eq hr0)
    clear hd hr0
    by_cases hi : Lib.indexB r sep = -1
    · have hx : Lib.index r.data.toList sep.data.toList = -1 := hi
      have hcall := Lib.hid (index_any r sep m wr (hx1.imp (fun h => by omega) (fun h => h)) gm)
      have hp := pieces_miss sep r hi
      have HN : Hid (k + 1 = ((pieces sep s).map Value.string).length) := Lib.hid (by
        have := congrArg List.length HD.out
        rw [hp] at this; simp at this
        have hlt : k < ((pieces sep s).map Value.string).length := by rw [List.length_map]; omega
        rw [List.length_map]; omega)
      obtain ⟨fn, tmps, assign, body, hy, hR⟩ := hY k wr (.string r) hJk (by have := congrArg (fun l => l[0]?) HD.out; simpa [hp] using this)
      clear hi hp
      have HX := Lib.hid hx
      clear hx
      gi_wp2_with fail
      refine ⟨trivial, (callsIn_wide.2 hcall.out).mono ?_⟩
      rintro e w' ⟨rfl, rfl⟩
      rw [HX.out]
      gi_wp2_with fail
      refine hR.mono ?_
      rintro e W3 (⟨rfl, hJ3, hk3⟩ | ⟨rfl, hJx3⟩)
      · gi_wp2_with fail
        refine bodyPost_end (results_none rfl _ _ _) rfl ?_
        exact ⟨⟨_, rfl⟩, .inl (by rw [← HN.out]; exact hJ3)⟩
      · gi_wp2_with fail
        refine bodyPost_end (results_none rfl _ _ _) rfl ?_
        exact ⟨⟨_, rfl⟩, .inr ⟨_, hJx3⟩⟩
    · obtain ⟨i, hi', hib⟩ : ∃ i : Nat, Lib.indexB r sep = i ∧ i + sep.size ≤ r.size := (Lib.indexB_cases r sep).resolve_left hi
      have hx : Lib.index r.data.toList sep.data.toList = (i : Int) := hi'
      have hcall := Lib.hid (index_any r sep m wr (hx1.imp (fun h => by omega) (fun h => h)) gm)
      have hp := pieces_hit sep r h1 i hi'
      have HN : Hid (((pieces sep s).map Value.string).drop (k + 1) = (pieces sep (r.extract (i + sep.size) r.size)).map Value.string) := Lib.hid (by
        have := congrArg (fun l => l.drop 1) HD.out
        simp only [hp, List.map_cons, List.drop_succ_cons, List.drop_zero, List.drop_drop] at this
        rw [← this])
      have hY' := hY k wr (.string (r.extract 0 i)) hJk (by have := congrArg (fun l => l[0]?) HD.out; simpa [hp] using this)
      obtain ⟨fn, tmps, assign, body, hy, hR⟩ := hY'
      have HX := Lib.hid hx
      clear hi hi' hp hx
      gi_wp2_with fail
      refine ⟨trivial, (callsIn_wide.2 hcall.out).mono ?_⟩
      rintro e w' ⟨rfl, rfl⟩
      rw [HX.out]
      gi_wp2_with fail
      refine hR.mono ?_
      rintro e W3 (⟨rfl, hJ3, hk3⟩ | ⟨rfl, hJx3⟩)
      · have hr3 : W3.heap[B]? = some (.cells #[.string r] 9 (0, 0)) := (hk3.block B (.inr (.inl ⟨Nat.le_refl _, by omega⟩)) (by have := (Array.getElem?_eq_some_iff.1 HR0.out).1; exact this)).trans HR0.out
        have cr3 : W3.cell? ⟨B, 0, none⟩ = some (.string r) := by simp [World.cell?, hr3]
        have fr3 : W3.frozen? ⟨B, 0, none⟩ = false := by simp [World.frozen?, hr3]
        have g13 := hk3.cell (p := ⟨B + 1, 0, none⟩) (.inr ⟨Nat.le_succ _, by show B + 1 < B + 3; omega⟩) g1
        have g23 := hk3.cell (p := ⟨B + 2, 0, none⟩) (.inr ⟨by show B ≤ B + 2; omega, by show B + 2 < B + 3; omega⟩) g2
        have gm3 := hk3.cell (p := ⟨2, 0, none⟩) (.inl (by show 2 < 6; omega)) gm
        have HR3 := Lib.hid hr3
        clear hr3 hk3
        gi_wp2_with fail
        have hrel3 : IterRel B s sep J m (W3.setCell ⟨B, 0, none⟩ (.string (r.extract (i + sep.size) r.size))) :=
          ⟨k + 1, _, one_setCell HR3.out, hJ _ _ _ hJ3 (grownBy_setCell' _ _ _), HN.out, by rw [ByteArray.size_extract]; omega,
            (World.cell?_setCell_other _ _ _ _ (by simp)).trans g13, (World.cell?_setCell_other _ _ _ _ (by simp)).trans g23, (World.cell?_setCell_other _ _ _ _ (by intro e; cases e; omega)).trans gm3⟩
        have hme : left B (W3.setCell ⟨B, 0, none⟩ (.string (r.extract (i + sep.size) r.size))) < left B w' := by rw [left_eq (one_setCell HR3.out), HL.out, ByteArray.size_extract]; omega
        exact ⟨hrel3, hme⟩
      · gi_wp2_with fail
        refine bodyPost_ret (results_none rfl _ _ _) rfl ?_
        exact ⟨⟨_, rfl⟩, .inr ⟨_, hJx3⟩⟩
def seqB (B : Nat) : Array Value := #[.pointer (some ⟨B + 1, 0, none⟩), .pointer (some ⟨B, 0, none⟩), .pointer (some ⟨B + 2, 0, none⟩)]
theorem seqW_at (s sep : ByteArray) (w : World) : (seqW s sep w).heap[w.heap.size]? = some (.cells #[.string s] 9 (0, 0)) ∧
    (seqW s sep w).heap[w.heap.size + 1]? = some (.cells #[.string sep] 9 (0, 0)) ∧ (seqW s sep w).heap[w.heap.size + 2]? = some (.cells #[.int .i64 0] 3 (0, 0)) ∧ (seqW s sep w).heap.size = w.heap.size + 3 := by
  have e2 : ((w.alloc (.cells #[.string s] 9)).alloc (.cells #[.string sep] 9)).heap.size = w.heap.size + 2 := by simp
  have e1 : (w.alloc (.cells #[.string s] 9)).heap.size = w.heap.size + 1 := by simp
  unfold seqW
  refine ⟨?_, ?_, ?_, by simp⟩
  · rw [Below.heap_alloc _ _ _ (by omega), Below.heap_alloc _ _ _ (by omega)]; exact World.alloc_heap_new _ _
  · rw [Below.heap_alloc _ _ _ (by omega), ← e1]; exact World.alloc_heap_new _ _
  · rw [← e2]; exact World.alloc_heap_new _ _
theorem split_Iter (n : Nat) (hn : 1 ≤ n) (s sep : ByteArray) (hs : s.size < 9223372036854775808) (hx1 : s.size < 4294967281 ∨ ∃ c, sep = ⟨#[c]⟩) (h1 : 1 ≤ sep.size) (w : World) (hG : Gw w) :
    Iter Fence.wide n Tryz.prog 73 (seqB w.heap.size) 6 w.heap.size ((pieces sep s).map Value.string) (seqW s sep w) := by
  intro l J Jx W hk hJ hJx hY h0
  obtain ⟨a0, a1, a2, az⟩ := seqW_at s sep w
  obtain ⟨m, hm⟩ := hG.most
  have hb := hG.big
  have hm' : (seqW s sep w).cell? ⟨2, 0, none⟩ = some (.int .i64 m) := pcell_below ((((Below.refl _ w).alloc (Nat.le_refl _) _).alloc (by simp) _).alloc (by simp; omega) _) hm
  exact split_iter n hn l w.heap.size (by omega) s sep hs hx1 h1 J Jx W hJ hJx hY
    ((hk.block _ (.inr (.inl ⟨Nat.le_refl _, by omega⟩)) (by rw [az]; omega)).trans a0) ((hk.block _ (.inr (.inl ⟨Nat.le_succ _, by omega⟩)) (by rw [az]; omega)).trans a1) ((hk.block _ (.inr (.inl ⟨by omega, by omega⟩)) (by rw [az]; omega)).trans a2)
    m (hk.cell (.inl (by show 2 < 6; omega)) hm') h0
structure PreI (s : ByteArray) (w : World) (k : Nat) (W : World) : Prop where
  le : k ≤ 4
  all : ((pieces dot s).take k).all (fun p => markL p.data.toList) = true
  r : W.heap[w.heap.size]? = some (.cells #[.bool false] 4 (0, 0))
  n : W.heap[w.heap.size + 1]? = some (.cells #[.int .i64 k] 3 (0, 0))
  bel : Below w.heap.size w W
structure PreX (s : ByteArray) (w : World) (W : World) : Prop where
  no : preB s = false
  r : W.heap[w.heap.size]? = some (.cells #[.bool false] 4 (0, 0))
  bel : Below w.heap.size w W
theorem harm_block {b E r : Nat} {W W' : World} {o : Obj} (h : Harm b E W W') (hr : W.heap[r]? = some o) (h1 : r ≠ b) (h2 : o.isCells = true) : W'.heap[r]? = some o := by
  obtain ⟨row, hg, hrow⟩ := h
  refine (hg.block r (Array.getElem?_eq_some_iff.1 hr).1 (fun e => ?_)).trans hr
  rcases hrow r e.symm with e1 | ⟨_, o', ho', hc⟩
  · exact h1 e1
  · rw [hr] at ho'; cases ho'; rw [h2] at hc; cases hc
theorem harm_below {b E B : Nat} {w W W' : World} (h : Harm b E W W') (hb : Below B w W) (hB : B ≤ W.heap.size) (h1 : B ≤ b) (h2 : B ≤ E) : Below B w W' := by
  obtain ⟨row, hg, hrow⟩ := h
  refine hb.grown hg hB (fun k e => ?_)
  rcases hrow k e with e1 | ⟨e1, _⟩ <;> omega
set_option maxHeartbeats 2000000 in
set_option maxRecDepth 100000 in
theorem pre_any (s : ByteArray) (hs : s.size < 9223372036854775808) (w : World) (hG : Gw w) :
    Calls Tryz.prog 40 #[.string s] w fun e w' => e = .returned (.bool (preB s)) ∧ Below w.heap.size w w' := by
  refine (callsIn_wide (n := 9)).1 ?_
  refine callsIn_of_wp_marks Tryz.func40 rfl trivial ?_ rfl
  simp only [Tryz.ntmps40, List.size_toArray, List.length_cons, List.length_nil, Nat.reduceAdd, Nat.reduceSub, Array.replicate_succ, Array.replicate_zero, List.push_toArray, List.append_toArray, List.nil_append, List.cons_append]
  have HG := Lib.hid hG
  clear hG
  gi_wp2_with fail
  refine ⟨trivial, (callsIn_wide.2 (SplitSeq_any s dot _)).mono ?_⟩
  rintro e w' ⟨rfl, rfl⟩
  gi_wp2_with fail
  have hz : ((w.alloc (.cells #[.bool false] 4)).alloc (.cells #[.int .i64 0] 3)).heap.size = w.heap.size + 2 := by simp
  have hbel0 : Below w.heap.size w ((w.alloc (.cells #[.bool false] 4)).alloc (.cells #[.int .i64 0] 3)) := ((Below.refl _ w).alloc (Nat.le_refl _) _).alloc (by simp) _
  have hr0 : ((w.alloc (.cells #[.bool false] 4)).alloc (.cells #[.int .i64 0] 3)).heap[w.heap.size]? = some (.cells #[.bool false] 4 (0, 0)) := by
    rw [Below.heap_alloc _ _ _ (by simp)]; exact World.alloc_heap_new _ _
  have hn0 : ((w.alloc (.cells #[.bool false] 4)).alloc (.cells #[.int .i64 0] 3)).heap[w.heap.size + 1]? = some (.cells #[.int .i64 0] 3 (0, 0)) := by
    have := World.alloc_heap_new (w.alloc (.cells #[.bool false] 4)) (.cells #[.int .i64 0] 3); rwa [World.size_alloc] at this
  generalize hW0 : (w.alloc (.cells #[.bool false] 4)).alloc (.cells #[.int .i64 0] 3) = W0 at *
  have hz' : W0.heap.size = w.heap.size + 1 + 1 := hz
  have hit := split_Iter 8 (by omega) s dot hs (.inr ⟨46, rfl⟩) (by decide) W0 (Gw.below _ _ HG.out hbel0)
  obtain ⟨a0, a1, a2, az⟩ := seqW_at s dot W0
  have hbW : Below W0.heap.size W0 (seqW s dot W0) := (((Below.refl _ W0).alloc (Nat.le_refl _) _).alloc (by simp) _).alloc (by simp; omega) _
  rw [hz'] at hit a0 a1 a2 az hbW
  refine range_cuts rfl (by omega) (gf := 73) (lb := seqB (w.heap.size + 1 + 1)) rfl trivial (enters_of Tryz.func73 (by kernel_rfl) rfl) (L := 6) (B := w.heap.size + 1 + 1) (by rw [az]; omega)
    hit rfl
    (fun k W => PreI s w k W) (fun c k W => c = .ret ∧ PreX s w W)
    ?hI ?hIx ?h0 (fun v => { tmps := #[.string s, undef, .pointer (some ⟨w.heap.size, 0, none⟩), .pointer (some ⟨w.heap.size + 1, 0, none⟩), v, .string s, seqV (w.heap.size + 1 + 1), v, undef, undef, undef, undef, undef, undef, undef, undef, undef], defers := [] }) ?assign ?body ?done ?stop
  case hI =>
    intro k W W' h hh
    exact ⟨h.le, h.all, harm_block hh h.r (by omega) rfl, harm_block hh h.n (by omega) rfl, harm_below hh h.bel h.bel.size (by omega) (by omega)⟩
  case hIx =>
    rintro c k W W' ⟨rfl, h⟩ hh
    exact ⟨rfl, h.no, harm_block hh h.r (by omega) rfl, harm_below hh h.bel h.bel.size (by omega) (by omega)⟩
  case h0 =>
    exact ⟨by omega, rfl, (hbW.block _ (by omega)).trans hr0, (hbW.block _ (by omega)).trans hn0, hbel0.trans (hbW.mono (by omega))⟩
  case assign =>
    intro l v W K hK
    gi_wp2
    exact hK
  case body =>
    rintro l k v W hI hv hsz - -
    obtain ⟨p, rfl, hp⟩ : ∃ p, v = .string p ∧ (pieces dot s)[k]? = some p := by
      rw [List.getElem?_map] at hv
      obtain ⟨p, h1, h2⟩ := Option.map_eq_some_iff.1 hv
      exact ⟨p, h2.symm, h1⟩
    have cn := cell_of_one hI.n
    have fn := free_of_one hI.n
    have cr := cell_of_one hI.r
    have fr := free_of_one hI.r
    have hk4 := hI.le
    have HI := Lib.hid hI
    have hbig := HG.out.big
    have kn : ∀ v, Keeps 6 (w.heap.size + 1 + 1) W (W.setCell ⟨w.heap.size + 1, 0, none⟩ v) := fun v => Keeps.setCell W _ v (by show 6 ≤ w.heap.size + 1; omega) (.inl (by show w.heap.size + 1 < _; omega))
    have hlen : k < (pieces dot s).length := (List.getElem?_eq_some_iff.1 hp).1
    have hWb : ∀ v, Below w.heap.size w (W.setCell ⟨w.heap.size + 1, 0, none⟩ v) := fun v => hI.bel.setCell (p := ⟨w.heap.size + 1, 0, none⟩) (by show w.heap.size ≤ w.heap.size + 1; omega) _
    have r1 : ∀ v, (W.setCell ⟨w.heap.size + 1, 0, none⟩ v).heap[w.heap.size]? = some (.cells #[.bool false] 4 (0, 0)) := fun v => (Below.heap_setCell W ⟨w.heap.size + 1, 0, none⟩ _ _ (by show w.heap.size ≠ w.heap.size + 1; omega)).trans hI.r
    have n1 : ∀ v, (W.setCell ⟨w.heap.size + 1, 0, none⟩ v).heap[w.heap.size + 1]? = some (.cells #[v] 3 (0, 0)) := fun v => one_setCell hI.n
    have KN := Lib.hid kn
    have HP := Lib.hid hp
    have HR1 := Lib.hid r1
    have HN1 := Lib.hid n1
    have HWB := Lib.hid hWb
    clear kn hp r1 n1 hWb hI a0 a1 a2 az hit hz hz' hbW hr0 hn0 hW0 hv hbel0
    by_cases h4 : k = 4
    · subst h4
      have hno : Hid (preB s = false) := Lib.hid (by
        have : decide ((pieces dot s).length ≤ 4) = false := by simp; omega
        simp [preB, this])
      gi_wp2_with fail
      refine ⟨trivial, ?_⟩
      have cr5 := cell_of_one (HR1.out (.int .i64 5))
      have fr5 := free_of_one (HR1.out (.int .i64 5))
      gi_wp2_with fail
      exact ⟨(KN.out _).trans (Keeps.setCell _ _ _ (by show 6 ≤ w.heap.size; omega) (.inl (by show w.heap.size < _; omega))), rfl, hno.out, one_setCell (HR1.out _), (HWB.out _).setCell (p := ⟨w.heap.size, 0, none⟩) (Nat.le_refl _) _⟩
    · have hk3 : k ≤ 3 := by omega
      have hms := Lib.hid (fun v => (mark_ok p).calls rfl rfl (W.setCell ⟨w.heap.size + 1, 0, none⟩ v) (Gw.below _ _ HG.out (HWB.out v)))
      have hstep : Hid ((pieces dot s).take (k + 1) = (pieces dot s).take k ++ [p]) := Lib.hid (by rw [List.take_succ_eq_append_getElem hlen]; congr 2; exact (List.getElem?_eq_some_iff.1 HP.out).2)
      have d4 : decide ((4 : Int) < (k : Int) + 1) = false := by simp; omega
      clear h4
      gi_wp2_with fail
      refine ⟨trivial, (CallsIn.inRound l (callsIn_wide.2 (hms.out _))).mono ?_⟩
      rintro e w2 ⟨rfl, hb2⟩
      have HR2 := Lib.hid ((hb2.block _ (by have := (Array.getElem?_eq_some_iff.1 (HR1.out (.int .i64 ((k : Int) + 1)))).1; exact this)).trans (HR1.out (.int .i64 ((k : Int) + 1))))
      have HN2 := Lib.hid ((hb2.block _ (by have := (Array.getElem?_eq_some_iff.1 (HN1.out (.int .i64 ((k : Int) + 1)))).1; exact this)).trans (HN1.out (.int .i64 ((k : Int) + 1))))
      have HK2 : Hid (Keeps 6 (w.heap.size + 1 + 1) W w2) := Lib.hid ((KN.out _).trans (Keeps.below hb2))
      have HB2 : Hid (Below w.heap.size w w2) := Lib.hid ((HWB.out _).trans (hb2.mono (HWB.out _).size))
      clear hb2
      cases hm : markL p.data.toList with
      | true =>
        have HM := Lib.hid hm
        clear hm
        gi_wp2_with fail
        exact ⟨HK2.out, by omega, by rw [hstep.out, List.all_append, HI.out.all]; simp [HM.out], HR2.out, HN2.out, HB2.out⟩
      | false =>
        have hno : Hid (preB s = false) := Lib.hid (by
          have : (pieces dot s).all (fun p => markL p.data.toList) = false := by
            rw [← Bool.not_eq_true, List.all_eq_true]
            intro h
            have := h p (List.mem_of_getElem? HP.out)
            rw [hm] at this; cases this
          simp only [preB, this, Bool.and_false])
        have cr5 := cell_of_one HR2.out
        have fr5 := free_of_one HR2.out
        clear hm
        gi_wp2_with fail
        exact ⟨HK2.out.trans (Keeps.setCell _ _ _ (by show 6 ≤ w.heap.size; omega) (.inl (by show w.heap.size < _; omega))), rfl, hno.out, one_setCell HR2.out, HB2.out.setCell (p := ⟨w.heap.size, 0, none⟩) (Nat.le_refl _) _⟩
  case done =>
    rintro D W hI hK hD
    have cr := cell_of_one hI.r
    have fr := free_of_one hI.r
    have HI := Lib.hid hI
    have HK := Lib.hid hK
    have hDs : w.heap.size + 2 ≤ D := by rw [az] at hD; omega
    clear hI hK hD hit a0 a1 a2 az hbW hr0 hn0 hW0 hz hz'
    gi_wp2
    have hK2 : (W.setCell ⟨w.heap.size, 0, none⟩ (.bool true)).heap[D]? = some (.deferred (some [])) := (Below.heap_setCell W ⟨w.heap.size, 0, none⟩ _ _ (by show D ≠ w.heap.size; omega)).trans HK.out
    have r2 : ((W.setCell ⟨w.heap.size, 0, none⟩ (.bool true)).putObj D (.deferred none)).heap[w.heap.size]? = some (.cells #[.bool true] 4 (0, 0)) := (World.putObj_heap_other (by omega)).trans (one_setCell HI.out.r)
    have c2 := cell_of_one r2
    have hpre : preB s = true := by
      have h1 := HI.out.le
      have h2 := HI.out.all
      rw [List.length_map] at h1 h2
      rw [List.take_of_length_le (Nat.le_refl _)] at h2
      simp only [preB, h2, Bool.and_true, decide_eq_true_eq]; exact h1
    refine ⟨by simp, .inl ⟨_, _, rfl, run_takeDeferred hK2, ?_⟩⟩
    exact ⟨.bool true, by simp [results, Tryz.results40, go_sem, c2], by rw [hpre], (HI.out.bel.setCell (p := ⟨w.heap.size, 0, none⟩) (Nat.le_refl _) _).grown (grownBy_put _ _ _) (by simpa using HI.out.bel.size) (fun j e => by cases e; omega)⟩
  case stop =>
    rintro D c k W ⟨rfl, hX⟩ hK hD
    have cr := cell_of_one hX.r
    have hDs : w.heap.size + 2 ≤ D := by rw [az] at hD; omega
    have HX := Lib.hid hX
    have HK := Lib.hid hK
    clear hX hK hD hit a0 a1 a2 az hbW hr0 hn0 hW0 hz hz'
    gi_wp2
    have r2 : (W.putObj D (.deferred none)).heap[w.heap.size]? = some (.cells #[.bool false] 4 (0, 0)) := (World.putObj_heap_other (by omega)).trans HX.out.r
    have c2 := cell_of_one r2
    refine ⟨by simp, .inl ⟨_, _, rfl, run_takeDeferred HK.out, ?_⟩⟩
    exact ⟨.bool false, by simp [results, Tryz.results40, go_sem, c2], by rw [HX.out.no], HX.out.bel.grown (grownBy_put _ _ _) HX.out.bel.size (fun j e => by cases e; omega)⟩
theorem pre_ok (s : ByteArray) (hs : s.size < 9223372036854775808) : Fn Tryz.prog Gw 40 [str s] [] (· = bool (preB s)) :=
  Fn.of_calls Tryz.func40 rfl rfl rfl rfl fun w hG => pre_any s hs w hG
end Go.Lg.Tryz

set_option linter.unusedVariables false
set_option linter.unusedSimpArgs false
namespace Go.Lg.Tryz
open Go Go.Proofs Go.RowKit Go.Lib Go.Lg.Sem
theorem verRight_ok (a b c : Int) (p : ByteArray) (hp : p.size < 9223372036854775808) : Fn Tryz.prog Gw 18 [.tr (verT a b c p)] [] (· = bool (rightB a b c p)) := by
  refine Fn.of tab_ok Tryz.func18 rfl (by decide) (by simp [Tryz.f18]) rfl (fun κ v h => by cases h) Gw.below ?_
  repeat' (first|refine zS ?_|refine zR ?_|refine zE tab_ok rfl rfl ?_|refine zN ?_|(refine zG rfl rfl (fun _ => ?_) fun _ => ?_)<;>refine zE tab_ok rfl rfl ?_|(refine zC rfl (fun _ => ?_) fun _ => ?_)<;>try (rename_i h; cases h; done)|refine zB ?_|refine zK ?_|refine zZ ⟨_, rfl, ?_⟩)
  refine Tr.loopS (fun i : Nat => [(.s 1, .ptr (.l 1) 0), (.l 1, .blk 38 [int a, int b, int c, str p]), (.s 11, .own 3 [.sc (.int .i64 a), .sc (.int .i64 b), .sc (.int .i64 c)]), (.s 12, int 3), (.s 13, int i)]) (fun i => 3 - i)
    (fun i => i ≤ 3 ∧ ∀ x, x ∈ [a, b, c].take i → inN x = true)
    0 ⟨by omega, by simp⟩ (Sub.app (l := [_, _, _, _, _]) (H := []) ⟨rfl, rfl, rfl, rfl, rfl, trivial⟩ (fun κ v h => nomatch h)) ?_
  rintro i ⟨hi, hp⟩
  repeat' (first|refine zS ?_|refine zR ?_|refine zE tab_ok rfl rfl ?_|refine zN ?_|(refine zG rfl rfl (fun _ => ?_) fun _ => ?_)<;>refine zE tab_ok rfl rfl ?_|(refine zC rfl (fun _ => ?_) fun _ => ?_)<;>try (rename_i h; cases h; done)|refine zB ?_|refine zK ?_|refine zZ ⟨_, rfl, ?_⟩)
  · rename_i h
    have hlt : i < [a, b, c].length := by simp only [decide_eq_true_eq] at h; simp only [List.length_cons, List.length_nil]; omega
    obtain ⟨x, hx⟩ : ∃ x, [a, b, c][i]? = some x := ⟨_, List.getElem?_eq_getElem hlt⟩
    have hx2 : [Go.Lg.T.sc (.int .i64 a), .sc (.int .i64 b), .sc (.int .i64 c)][i]? = some (.sc (.int .i64 x)) := by
      have : ([a, b, c].map fun x => Go.Lg.T.sc (.int .i64 x))[i]? = some (.sc (.int .i64 x)) := by rw [List.getElem?_map, hx]; rfl
      exact this
    refine zI (x := .sc (.int .i64 x)) tab_ok rfl (by omega) (by simpa using hx2) rfl ?_
    repeat' (first|refine zS ?_|refine zR ?_|refine zE tab_ok rfl rfl ?_|refine zN ?_|(refine zG rfl rfl (fun _ => ?_) fun _ => ?_)<;>refine zE tab_ok rfl rfl ?_|(refine zC rfl (fun _ => ?_) fun _ => ?_)<;>try (rename_i h; cases h; done)|refine zB ?_|refine zK ?_|refine zZ ⟨_, rfl, ?_⟩)
    all_goals rename_i h2
    all_goals first
      | refine ⟨i + 1, ⟨by simp at hlt; omega, ?_⟩, by simp at hlt; omega, Sub.app (l := [_, _, _, _, _]) (H := []) ⟨rfl, rfl, rfl, rfl, congrArg some (wrapz (by omega) (by omega) (by simp at hlt; omega)), trivial⟩ (fun κ v h => nomatch h)⟩
        intro y hy
        rw [List.take_succ_eq_append_getElem hlt] at hy
        rcases List.mem_append.1 hy with hy | hy
        · exact hp y hy
        · obtain rfl : y = x := by rw [List.getElem?_eq_getElem hlt] at hx; simp only [List.mem_singleton] at hy; rw [hy]; exact Option.some.inj hx
          simp only [decide_eq_true_eq, decide_eq_false_iff_not] at *
          simp [inN]; omega
      | show bool _ = bool _
        congr 3
        have hn : inN x = false := by simp only [decide_eq_true_eq, decide_eq_false_iff_not] at *; simp [inN]; omega
        have hm := List.mem_of_getElem? hx
        simp only [List.mem_cons, List.not_mem_nil, or_false] at hm
        rcases hm with rfl | rfl | rfl <;> simp [rightB, hn]
  · rename_i h
    have : i = 3 := by simp only [decide_eq_false_iff_not] at h; omega
    subst this
    have h1 := hp a (by simp); have h2 := hp b (by simp); have h3 := hp c (by simp)
    refine Tr.exit ?_
    repeat' (first|refine zS ?_|refine zR ?_|refine zE tab_ok rfl rfl ?_|refine zN ?_|(refine zG rfl rfl (fun _ => ?_) fun _ => ?_)<;>refine zE tab_ok rfl rfl ?_|(refine zC rfl (fun _ => ?_) fun _ => ?_)<;>try (rename_i h; cases h; done)|refine zB ?_|refine zK ?_|refine zZ ⟨_, rfl, ?_⟩)
    all_goals first | (refine Sq.callv rfl (pre_ok p (by assumption)) ?_) | skip
    all_goals repeat' (first|refine zS ?_|refine zR ?_|refine zE tab_ok rfl rfl ?_|refine zN ?_|(refine zG rfl rfl (fun _ => ?_) fun _ => ?_)<;>refine zE tab_ok rfl rfl ?_|(refine zC rfl (fun _ => ?_) fun _ => ?_)<;>try (rename_i h; cases h; done)|refine zB ?_|refine zK ?_|refine zZ ⟨_, rfl, ?_⟩)
    all_goals rename_i h4
    all_goals
      show bool _ = bool _
      congr 3
      simp only [ba_toList] at h4
      simp only [rightB, h1, h2, h3, Bool.true_and, preO, ba_toList]
    · have : p.data.toList = [] := by simpa using h4
      rw [this]; rfl
    · have : p.data.toList.isEmpty = false := by cases hh : p.data.toList <;> simp_all
      rw [this]; rfl
theorem Bump_ok (a b c : Int) (p : ByteArray) (part : Int) (hp : p.size < 4294967281) : Fn Tryz.prog Gw 64 [.tr (verT a b c p), int part] []
    (· = .tup [.tr (verT (bumpV a b c p part).1.1 (bumpV a b c p part).1.2.1 (bumpV a b c p part).1.2.2 ⟨#[]⟩), int (bumpV a b c p part).2]) := by
  refine Fn.of tab_ok Tryz.func64 rfl (by decide) (by simp [Tryz.f64]) rfl (fun κ v h => by cases h) Gw.below ?_
  repeat' (first|refine zS ?_|refine zR ?_|refine zE tab_ok rfl rfl ?_|refine zN ?_|(refine zG rfl rfl (fun _ => ?_) fun _ => ?_)<;>refine zE tab_ok rfl rfl ?_|(refine zC rfl (fun _ => ?_) fun _ => ?_)<;>try (rename_i h; cases h; done)|refine zB ?_|refine zK ?_|refine zZ ⟨_, rfl, ?_⟩)
  refine Sq.callv rfl (verRight_ok a b c p (by omega)) ?_
  repeat' (first|refine zS ?_|refine zR ?_|refine zE tab_ok rfl rfl ?_|refine zN ?_|(refine zG rfl rfl (fun _ => ?_) fun _ => ?_)<;>refine zE tab_ok rfl rfl ?_|(refine zC rfl (fun _ => ?_) fun _ => ?_)<;>try (rename_i h; cases h; done)|refine zB ?_|refine zK ?_|refine zZ ⟨_, rfl, ?_⟩)
  all_goals first
    | (have hno : ¬ (rightB a b c p = true ∧ 0 ≤ part ∧ part ≤ 2) := by
        simp only [decide_eq_true_eq, decide_eq_false_iff_not, Bool.not_eq_true', Bool.not_eq_false'] at *
        rintro ⟨h1, h2, h3⟩
        first | omega | simp_all
       show AV.tup _ = AV.tup _
       simp only [bumpV, if_neg hno])
    | skip
  all_goals
    have hyes : rightB a b c p = true ∧ 0 ≤ part ∧ part ≤ 2 := by
      simp only [decide_eq_true_eq, decide_eq_false_iff_not, Bool.not_eq_true', Bool.not_eq_false'] at *
      exact ⟨by assumption, by omega, by omega⟩
    have hr := hyes.1
    simp only [rightB, inN, Bool.and_eq_true, decide_eq_true_eq] at hr
    refine Sq.callv rfl (verRight_ok _ _ _ _ (by decide)) ?_
    repeat' (first|refine zS ?_|refine zR ?_|refine zE tab_ok rfl rfl ?_|refine zN ?_|(refine zG rfl rfl (fun _ => ?_) fun _ => ?_)<;>refine zE tab_ok rfl rfl ?_|(refine zC rfl (fun _ => ?_) fun _ => ?_)<;>try (rename_i h; cases h; done)|refine zB ?_|refine zK ?_|refine zZ ⟨_, rfl, ?_⟩)
  all_goals
    have wa : IntKind.i64.wrap (a + 1) = a + 1 := Go.IntWalk.i64_in _ ⟨by omega, by omega⟩
    have wb : IntKind.i64.wrap (b + 1) = b + 1 := Go.IntWalk.i64_in _ ⟨by omega, by omega⟩
    have wc : IntKind.i64.wrap (c + 1) = c + 1 := Go.IntWalk.i64_in _ ⟨by omega, by omega⟩
    have en : (ByteArray.mk #[]).toList = [] := by rw [ba_toList]
    show AV.tup _ = AV.tup _
    simp only [bumpV, if_pos hyes]
    simp only [ba_toList, wa, wb, wc, beq_iff_eq, beq_eq_false_iff_ne, Bool.not_eq_true', Bool.not_eq_false'] at *
    simp_all [bumpN]
end Go.Lg.Tryz

set_option linter.unusedVariables false
set_option linter.unusedSimpArgs false
namespace Go.Lg.Tryz
open Go Go.Proofs Go.RowKit Go.Lib Go.Lg.Sem
abbrev Ver.t (v : Ver) : T := .ag [.sc (.int .i64 v.a), .sc (.int .i64 v.b), .sc (.int .i64 v.c), .sc (.string v.p)]
abbrev Cmp.t (c : Cmp) : T := .ag [.sc (.int .i64 c.op), .sc (.int .i64 c.v.a), .sc (.int .i64 c.v.b), .sc (.int .i64 c.v.c), .sc (.string c.v.p)]
abbrev cmpsT (l : List Cmp) : T := .ls (l.map Cmp.t)
abbrev rngT (r : Rng) : T := .ag [.ls (r.map cmpsT)]
theorem eqA_ver (d : Nat) (w : World) (x0 y0 : Int) (x1 y1 : Int) (x2 y2 : Int) (x3 y3 : ByteArray) :
    (Op.equalIn (d + 2) 38 (.agg #[.int .i64 x0, .int .i64 x1, .int .i64 x2, .string x3]) (.agg #[.int .i64 y0, .int .i64 y1, .int .i64 y2, .string y3])).run Tryz.prog w = .ok (x0 == y0 && (x1 == y1 && (x2 == y2 && (x3.toList == y3.toList)))) w := by
  refine eqA_of Tryz.underlying38 (by kernel_rfl) ?_
  refine eqf_cons (by rfl) (by go_simp; rfl) (by go_simp; rfl) (by go_simp) ?_
  refine eqf_cons (by rfl) (by go_simp; rfl) (by go_simp; rfl) (by go_simp) ?_
  refine eqf_cons (by rfl) (by go_simp; rfl) (by go_simp; rfl) (by go_simp) ?_
  exact eqf_last (by rfl) (by go_simp; rfl) (by go_simp; rfl) (by go_simp)
theorem eqA_comp (d : Nat) (w : World) (x0 y0 : Int) (x1 y1 : Int) (x2 y2 : Int) (x3 y3 : Int) (x4 y4 : ByteArray) :
    (Op.equalIn (d + 3) 48 (.agg #[.int .i64 x0, .int .i64 x1, .int .i64 x2, .int .i64 x3, .string x4]) (.agg #[.int .i64 y0, .int .i64 y1, .int .i64 y2, .int .i64 y3, .string y4])).run Tryz.prog w = .ok (x0 == y0 && ((x1 == y1 && (x2 == y2 && (x3 == y3 && (x4.toList == y4.toList)))))) w := by
  refine eqA_of Tryz.underlying48 (by kernel_rfl) ?_
  refine eqf_cons (by rfl) (by go_simp; rfl) (by go_simp; rfl) (by go_simp) ?_
  exact eqf_last (by rfl) (by go_simp) (by go_simp) (eqA_ver (d + 0) w _ _ _ _ _ _ _ _)
theorem sized_ok (k : Int) : Fn Tryz.prog Gw 41 [int k] [] (· = bool (sizedB k)) := by
  refine Fn.of tab_ok Tryz.func41 rfl (by decide) (by simp [Tryz.f41]) rfl (fun κ v h => by cases h) Gw.below ?_
  repeat' (first|refine zS ?_|refine zR ?_|refine zE tab_ok rfl rfl ?_|refine zN ?_|(refine zG rfl rfl (fun _ => ?_) fun _ => ?_)<;>refine zE tab_ok rfl rfl ?_|(refine zC rfl (fun _ => ?_) fun _ => ?_)<;>try (rename_i h; cases h; done)|refine zB ?_|refine zK ?_|refine zZ ⟨_, rfl, ?_⟩)
  all_goals simp [*, sizedB]
theorem right_ok (v : Ver) (h : v.ok) : Fn Tryz.prog Gw 18 [.tr (Ver.t v)] [] (· = bool v.right) := verRight_ok v.a v.b v.c v.p (by have := h.lt; omega)
theorem compare_ok (v u : Ver) (h1 : v.ok) (h2 : u.ok) : Fn Tryz.prog Gw 60 [.tr (Ver.t v), .tr (Ver.t u)] [] (· = int (cmpVer v u)) := Compare_ok v.a v.b v.c v.p u.a u.b u.c u.p h1.lt h2.lt
theorem cmpRight_ok (c : Cmp) (h : c.ok) : Fn Tryz.prog Gw 43 [.tr (Cmp.t c)] [] (· = bool (cmpRight c)) := by
  refine Fn.of tab_ok Tryz.func43 rfl (by decide) (by simp [Tryz.f43]) rfl (fun κ v h => by cases h) Gw.below ?_
  repeat' (first|refine zS ?_|refine zR ?_|refine zE tab_ok rfl rfl ?_|refine zN ?_|(refine zG rfl rfl (fun _ => ?_) fun _ => ?_)<;>refine zE tab_ok rfl rfl ?_|(refine zC rfl (fun _ => ?_) fun _ => ?_)<;>try (rename_i h; cases h; done)|refine zB ?_|refine zK ?_|refine zZ ⟨_, rfl, ?_⟩)
  · rename_i h1
    refine Sq.eqag rfl (by kernel_rfl) (fun w => eqA_comp 9997 w _ _ _ _ _ _ _ _ _ _) ?_
    repeat' (first|refine zS ?_|refine zR ?_|refine zE tab_ok rfl rfl ?_|refine zN ?_|(refine zG rfl rfl (fun _ => ?_) fun _ => ?_)<;>refine zE tab_ok rfl rfl ?_|(refine zC rfl (fun _ => ?_) fun _ => ?_)<;>try (rename_i h; cases h; done)|refine zB ?_|refine zK ?_|refine zZ ⟨_, rfl, ?_⟩)
    have h1 : c.op = 0 := by simpa using h1
    show bool _ = bool _
    congr 3
    simp [cmpRight, h1, cmpIsZero, ba_toList]
  all_goals first | (refine Sq.callv rfl (right_ok c.v h) ?_) | skip
  all_goals repeat' (first|refine zS ?_|refine zR ?_|refine zE tab_ok rfl rfl ?_|refine zN ?_|(refine zG rfl rfl (fun _ => ?_) fun _ => ?_)<;>refine zE tab_ok rfl rfl ?_|(refine zC rfl (fun _ => ?_) fun _ => ?_)<;>try (rename_i h; cases h; done)|refine zB ?_|refine zK ?_|refine zZ ⟨_, rfl, ?_⟩)
  all_goals
    show bool _ = bool _
    congr 3
    simp_all [cmpRight]
    try (intros; omega)
theorem cmpRight1_ok (c : Cmp) (h : c.ok) : Fn Tryz.prog Gw 42 [.tr (Cmp.t c)] [] (· = bool (!cmpRight c)) := by
  refine Fn.of tab_ok Tryz.func42 rfl (by decide) (by simp [Tryz.f42]) rfl (fun κ v h => by cases h) Gw.below ?_
  repeat' (first|refine zS ?_|refine zR ?_|refine zE tab_ok rfl rfl ?_|refine zN ?_|(refine zG rfl rfl (fun _ => ?_) fun _ => ?_)<;>refine zE tab_ok rfl rfl ?_|(refine zC rfl (fun _ => ?_) fun _ => ?_)<;>try (rename_i h; cases h; done)|refine zB ?_|refine zK ?_|refine zZ ⟨_, rfl, ?_⟩)
  refine Sq.callv rfl (cmpRight_ok c h) ?_
  repeat' (first|refine zS ?_|refine zR ?_|refine zE tab_ok rfl rfl ?_|refine zN ?_|(refine zG rfl rfl (fun _ => ?_) fun _ => ?_)<;>refine zE tab_ok rfl rfl ?_|(refine zC rfl (fun _ => ?_) fun _ => ?_)<;>try (rename_i h; cases h; done)|refine zB ?_|refine zK ?_|refine zZ ⟨_, rfl, ?_⟩)
  rfl
theorem upper_ok (c : Cmp) (h : c.ok) : Fn Tryz.prog Gw 44 [.tr (Cmp.t c)] [] (· = .tup [.tr (Ver.t (upperV c).1), bool (upperV c).2]) := by
  refine Fn.of tab_ok Tryz.func44 rfl (by decide) (by simp [Tryz.f44]) rfl (fun κ v h => by cases h) Gw.below ?_
  repeat' (first|refine zS ?_|refine zR ?_|refine zE tab_ok rfl rfl ?_|refine zN ?_|(refine zG rfl rfl (fun _ => ?_) fun _ => ?_)<;>refine zE tab_ok rfl rfl ?_|(refine zC rfl (fun _ => ?_) fun _ => ?_)<;>try (rename_i h; cases h; done)|refine zB ?_|refine zK ?_|refine zZ ⟨_, rfl, ?_⟩)
  all_goals (refine Sq.callv rfl (Bump_ok _ _ _ ⟨#[]⟩ _ (by decide)) ?_)
  all_goals repeat' (first|refine zS ?_|refine zR ?_|refine zE tab_ok rfl rfl ?_|refine zN ?_|(refine zG rfl rfl (fun _ => ?_) fun _ => ?_)<;>refine zE tab_ok rfl rfl ?_|(refine zC rfl (fun _ => ?_) fun _ => ?_)<;>try (rename_i h; cases h; done)|refine zB ?_|refine zK ?_|refine zZ ⟨_, rfl, ?_⟩)
  all_goals
    show AV.tup _ = AV.tup _
    have hp : ∀ k, upPart c = k → upperV c = (⟨(bumpV c.v.a c.v.b c.v.c ⟨#[]⟩ k).1.1, (bumpV c.v.a c.v.b c.v.c ⟨#[]⟩ k).1.2.1, (bumpV c.v.a c.v.b c.v.c ⟨#[]⟩ k).1.2.2, ⟨#[]⟩⟩, (bumpV c.v.a c.v.b c.v.c ⟨#[]⟩ k).2 == 0) := fun k e => by rw [← e]; rfl
    simp only [beq_iff_eq, beq_eq_false_iff_ne, decide_eq_true_eq, decide_eq_false_iff_not] at *
    have hk := upPart_cases c
    first
      | (rw [hp _ (hk.1 (by assumption))]; done)
      | (rw [hp _ (hk.2.1 (by assumption) (by assumption))]; done)
      | (rw [hp _ (hk.2.2.1 (by assumption) (by assumption) (by assumption))]; done)
      | (rw [hp _ (hk.2.2.2 (by assumption) (by assumption) (by assumption))]; done)
theorem has_ok (c : Cmp) (v : Ver) (h : c.ok) (hv : v.ok) : Fn Tryz.prog Gw 37 [.tr (Cmp.t c), .tr (Ver.t v)] [] (· = bool (hasC c v)) := by
  refine Fn.of tab_ok Tryz.func37 rfl (by decide) (by simp [Tryz.f37]) rfl (fun κ v h => by cases h) Gw.below ?_
  repeat' (first|refine zS ?_|refine zR ?_|refine zE tab_ok rfl rfl ?_|refine zN ?_|(refine zG rfl rfl (fun _ => ?_) fun _ => ?_)<;>refine zE tab_ok rfl rfl ?_|(refine zC rfl (fun _ => ?_) fun _ => ?_)<;>try (rename_i h; cases h; done)|refine zB ?_|refine zK ?_|refine zZ ⟨_, rfl, ?_⟩)
  refine Sq.callv rfl (compare_ok v c.v hv h) ?_
  repeat' (first|refine zS ?_|refine zR ?_|refine zE tab_ok rfl rfl ?_|refine zN ?_|(refine zG rfl rfl (fun _ => ?_) fun _ => ?_)<;>refine zE tab_ok rfl rfl ?_|(refine zC rfl (fun _ => ?_) fun _ => ?_)<;>try (rename_i h; cases h; done)|refine zB ?_|refine zK ?_|refine zZ ⟨_, rfl, ?_⟩)
  all_goals first
    | (show bool _ = bool _
       congr 3
       simp_all [hasC]
       done)
    | skip
  all_goals (refine Sq.callv rfl (upper_ok c h) ?_)
  all_goals repeat' (first|refine zS ?_|refine zR ?_|refine zE tab_ok rfl rfl ?_|refine zN ?_|(refine zG rfl rfl (fun _ => ?_) fun _ => ?_)<;>refine zE tab_ok rfl rfl ?_|(refine zC rfl (fun _ => ?_) fun _ => ?_)<;>try (rename_i h; cases h; done)|refine zB ?_|refine zK ?_|refine zZ ⟨_, rfl, ?_⟩)
  all_goals first | (refine Sq.callv rfl (compare_ok v (upperV c).1 hv (upper_pok c)) ?_) | skip
  all_goals repeat' (first|refine zS ?_|refine zR ?_|refine zE tab_ok rfl rfl ?_|refine zN ?_|(refine zG rfl rfl (fun _ => ?_) fun _ => ?_)<;>refine zE tab_ok rfl rfl ?_|(refine zC rfl (fun _ => ?_) fun _ => ?_)<;>try (rename_i h; cases h; done)|refine zB ?_|refine zK ?_|refine zZ ⟨_, rfl, ?_⟩)
  all_goals
    show bool _ = bool _
    congr 3
    simp_all [hasC]
    try (intros; omega)
end Go.Lg.Tryz

set_option linter.unusedVariables false
set_option linter.unusedSimpArgs false
namespace Go.Lg.Tryz
open Go Go.Proofs Go.RowKit Go.Lib Go.Lg.Sem
theorem idxCmp (g : Nat) (caps : List AV) (H : Store) {α : Type} (enc : α → T) (p : α → Bool) (hc : ExtOnly caps) (hH : ∀ κ v, lk H κ = some v → (∃ j, κ = .e j)) (hHr : ∀ κ ty cells, lk H κ = some (.blk ty cells) → ExtOnly cells) (xs : List α)
    (hx : ∀ x, x ∈ xs → El true 5 (enc x) ∧ Fn Tryz.prog Gw g (.tr (enc x) :: caps) H (· = .tr (.sc (.bool (p x))))) (hn : xs.length ≤ 1073741824) :
    Fn Tryz.prog Gw 59 [.tr (.ls (xs.map enc)), .fn g caps] H (fun r => ∃ i : Int, r = .tr (.sc (.int .i64 i)) ∧ (decide (i ≥ 0) = xs.any p)) := by
  refine Fn.of tab_ok Tryz.func59 rfl (by decide) (by simp [Tryz.f59]) rfl (fun κ v h => by obtain ⟨j, rfl⟩ := hH κ v h; rfl) Gw.below ?_
  repeat' (first|refine zS ?_|refine zR ?_|refine zE tab_ok rfl rfl ?_|refine zN ?_|(refine zG rfl rfl (fun _ => ?_) fun _ => ?_)<;>refine zE tab_ok rfl rfl ?_|(refine zC rfl (fun _ => ?_) fun _ => ?_)<;>try (rename_i h; cases h; done)|refine zB ?_|refine zK ?_|refine zZ ⟨_, rfl, ?_⟩)
  refine Tr.loopS (fun i : Nat => [(.s 0, .tr (.ls (xs.map enc))), (.s 1, .fn g caps), (.s 7, .tr (.sc (.int .i64 ((xs.map enc).length : Int)))), (.s 8, .tr (.sc (.int .i64 (i : Int))))] ++ H) (fun i => xs.length - i) (fun i => i ≤ xs.length ∧ (xs.take i).any p = false)
    0 ⟨by omega, by simp⟩ (Sub.app ⟨rfl, rfl, rfl, rfl, trivial⟩ (fun κ v h => by obtain ⟨j, rfl⟩ := hH κ v h; exact h)) ?_
  rintro i ⟨hi, hp⟩
  repeat' (first | refine zS ?_ | refine zR ?_ | refine zE tab_ok rfl rfl ?_ | refine zN ?_ | refine zB ?_ | refine zK ?_)
  refine zC rfl (fun h => ?_) (fun h => ?_)
  · have hlt : i < xs.length := by simpa using h
    obtain ⟨hxe, hxf⟩ := hx _ (List.getElem_mem hlt)
    repeat' (first | refine zS ?_ | refine zR ?_ | refine zE tab_ok rfl rfl ?_ | refine zN ?_ | refine zB ?_ | refine zK ?_)
    refine zI (x := enc xs[i]) tab_ok rfl (by omega) (by simp [hlt]) hxe.len ?_
    refine Sq.loadEl (x := enc xs[i]) tab_ok rfl hxe ?_
    refine Sq.callE (H := H) rfl (by
      intro x hx
      rcases List.mem_cons.1 hx with rfl | hx
      · intro κ h; cases h
      · exact hc x hx) (fun κ v h => by obtain ⟨j, rfl⟩ := hH κ v h; exact ⟨⟨j, rfl⟩, h⟩) hHr hxf ?_
    rintro _ rfl
    refine zN ?_
    refine zC rfl (fun hb => ?_) (fun hb => ?_)
    · repeat' (first|refine zS ?_|refine zR ?_|refine zE tab_ok rfl rfl ?_|refine zN ?_|(refine zG rfl rfl (fun _ => ?_) fun _ => ?_)<;>refine zE tab_ok rfl rfl ?_|(refine zC rfl (fun _ => ?_) fun _ => ?_)<;>try (rename_i h; cases h; done)|refine zB ?_|refine zK ?_|refine zZ ⟨_, rfl, ?_⟩)
      refine ⟨_, rfl, ?_⟩
      have : xs.any p = true := List.any_eq_true.2 ⟨_, List.getElem_mem hlt, hb⟩
      rw [this]; simp
    · refine zK ?_
      refine zR ?_
      refine zE tab_ok rfl rfl ?_
      refine Sq.re (wrapz (z := ((i + 1 : Nat) : Int)) (by omega) (by omega) (by omega)) ?_
      refine zE tab_ok rfl rfl ?_
      refine zN ?_
      refine ⟨i + 1, ⟨by omega, ?_⟩, by omega, Sub.app ⟨rfl, rfl, rfl, rfl, trivial⟩ (fun κ v h => by obtain ⟨j, rfl⟩ := hH κ v h; exact h)⟩
      rw [List.take_succ_eq_append_getElem hlt, List.any_append, hp]; simp [hb]
  · have hge : ¬ i < xs.length := by simpa using h
    refine Tr.exit ?_
    repeat' (first|refine zS ?_|refine zR ?_|refine zE tab_ok rfl rfl ?_|refine zN ?_|(refine zG rfl rfl (fun _ => ?_) fun _ => ?_)<;>refine zE tab_ok rfl rfl ?_|(refine zC rfl (fun _ => ?_) fun _ => ?_)<;>try (rename_i h; cases h; done)|refine zB ?_|refine zK ?_|refine zZ ⟨_, rfl, ?_⟩)
    refine ⟨_, rfl, ?_⟩
    rw [List.take_of_length_le (by omega)] at hp
    rw [hp]; rfl
theorem containsCmp (g : Nat) (caps : List AV) (H : Store) {α : Type} (enc : α → T) (p : α → Bool) (hc : ExtOnly caps) (hH : ∀ κ v, lk H κ = some v → (∃ j, κ = .e j)) (hHr : ∀ κ ty cells, lk H κ = some (.blk ty cells) → ExtOnly cells) (xs : List α)
    (hx : ∀ x, x ∈ xs → El true 5 (enc x) ∧ Fn Tryz.prog Gw g (.tr (enc x) :: caps) H (· = .tr (.sc (.bool (p x))))) (hn : xs.length ≤ 1073741824) :
    Fn Tryz.prog Gw 35 [.tr (.ls (xs.map enc)), .fn g caps] H (· = .tr (.sc (.bool (xs.any p)))) := by
  refine Fn.of tab_ok Tryz.func35 rfl (by decide) (by simp [Tryz.f35]) rfl (fun κ v h => by obtain ⟨j, rfl⟩ := hH κ v h; rfl) Gw.below ?_
  repeat' (first|refine zS ?_|refine zR ?_|refine zE tab_ok rfl rfl ?_|refine zN ?_|(refine zG rfl rfl (fun _ => ?_) fun _ => ?_)<;>refine zE tab_ok rfl rfl ?_|(refine zC rfl (fun _ => ?_) fun _ => ?_)<;>try (rename_i h; cases h; done)|refine zB ?_|refine zK ?_|refine zZ ⟨_, rfl, ?_⟩)
  refine Sq.callE (H := H) rfl (by
      intro x hx
      rcases List.mem_cons.1 hx with rfl | hx
      · intro κ h; cases h
      · rcases List.mem_cons.1 hx with rfl | hx
        · intro κ h; cases h with | fn _ _ x hx h => exact hc x hx κ h
        · cases hx) (fun κ v h => by obtain ⟨j, rfl⟩ := hH κ v h; exact ⟨⟨j, rfl⟩, h⟩) hHr (idxCmp g caps H enc p hc hH hHr xs hx hn) ?_
  rintro _ ⟨i, rfl, hi⟩
  repeat' (first|refine zS ?_|refine zR ?_|refine zE tab_ok rfl rfl ?_|refine zN ?_|(refine zG rfl rfl (fun _ => ?_) fun _ => ?_)<;>refine zE tab_ok rfl rfl ?_|(refine zC rfl (fun _ => ?_) fun _ => ?_)<;>try (rename_i h; cases h; done)|refine zB ?_|refine zK ?_|refine zZ ⟨_, rfl, ?_⟩)
  rw [hi]
theorem idxCmps (g : Nat) (caps : List AV) (H : Store) {α : Type} (enc : α → T) (p : α → Bool) (hc : ExtOnly caps) (hH : ∀ κ v, lk H κ = some v → (∃ j, κ = .e j)) (hHr : ∀ κ ty cells, lk H κ = some (.blk ty cells) → ExtOnly cells) (xs : List α)
    (hx : ∀ x, x ∈ xs → El false 1 (enc x) ∧ Fn Tryz.prog Gw g (.tr (enc x) :: caps) H (· = .tr (.sc (.bool (p x))))) (hn : xs.length ≤ 1073741824) :
    Fn Tryz.prog Gw 58 [.tr (.ls (xs.map enc)), .fn g caps] H (fun r => ∃ i : Int, r = .tr (.sc (.int .i64 i)) ∧ (decide (i ≥ 0) = xs.any p)) := by
  refine Fn.of tab_ok Tryz.func58 rfl (by decide) (by simp [Tryz.f58]) rfl (fun κ v h => by obtain ⟨j, rfl⟩ := hH κ v h; rfl) Gw.below ?_
  repeat' (first|refine zS ?_|refine zR ?_|refine zE tab_ok rfl rfl ?_|refine zN ?_|(refine zG rfl rfl (fun _ => ?_) fun _ => ?_)<;>refine zE tab_ok rfl rfl ?_|(refine zC rfl (fun _ => ?_) fun _ => ?_)<;>try (rename_i h; cases h; done)|refine zB ?_|refine zK ?_|refine zZ ⟨_, rfl, ?_⟩)
  refine Tr.loopS (fun i : Nat => [(.s 0, .tr (.ls (xs.map enc))), (.s 1, .fn g caps), (.s 7, .tr (.sc (.int .i64 ((xs.map enc).length : Int)))), (.s 8, .tr (.sc (.int .i64 (i : Int))))] ++ H) (fun i => xs.length - i) (fun i => i ≤ xs.length ∧ (xs.take i).any p = false)
    0 ⟨by omega, by simp⟩ (Sub.app ⟨rfl, rfl, rfl, rfl, trivial⟩ (fun κ v h => by obtain ⟨j, rfl⟩ := hH κ v h; exact h)) ?_
  rintro i ⟨hi, hp⟩
  repeat' (first | refine zS ?_ | refine zR ?_ | refine zE tab_ok rfl rfl ?_ | refine zN ?_ | refine zB ?_ | refine zK ?_)
  refine zC rfl (fun h => ?_) (fun h => ?_)
  · have hlt : i < xs.length := by simpa using h
    obtain ⟨hxe, hxf⟩ := hx _ (List.getElem_mem hlt)
    repeat' (first | refine zS ?_ | refine zR ?_ | refine zE tab_ok rfl rfl ?_ | refine zN ?_ | refine zB ?_ | refine zK ?_)
    refine zI (x := enc xs[i]) tab_ok rfl (by omega) (by simp [hlt]) hxe.len ?_
    refine Sq.loadEl (x := enc xs[i]) tab_ok rfl hxe ?_
    refine Sq.callE (H := H) rfl (by
      intro x hx
      rcases List.mem_cons.1 hx with rfl | hx
      · intro κ h; cases h
      · exact hc x hx) (fun κ v h => by obtain ⟨j, rfl⟩ := hH κ v h; exact ⟨⟨j, rfl⟩, h⟩) hHr hxf ?_
    rintro _ rfl
    refine zN ?_
    refine zC rfl (fun hb => ?_) (fun hb => ?_)
    · repeat' (first|refine zS ?_|refine zR ?_|refine zE tab_ok rfl rfl ?_|refine zN ?_|(refine zG rfl rfl (fun _ => ?_) fun _ => ?_)<;>refine zE tab_ok rfl rfl ?_|(refine zC rfl (fun _ => ?_) fun _ => ?_)<;>try (rename_i h; cases h; done)|refine zB ?_|refine zK ?_|refine zZ ⟨_, rfl, ?_⟩)
      refine ⟨_, rfl, ?_⟩
      have : xs.any p = true := List.any_eq_true.2 ⟨_, List.getElem_mem hlt, hb⟩
      rw [this]; simp
    · refine zK ?_
      refine zR ?_
      refine zE tab_ok rfl rfl ?_
      refine Sq.re (wrapz (z := ((i + 1 : Nat) : Int)) (by omega) (by omega) (by omega)) ?_
      refine zE tab_ok rfl rfl ?_
      refine zN ?_
      refine ⟨i + 1, ⟨by omega, ?_⟩, by omega, Sub.app ⟨rfl, rfl, rfl, rfl, trivial⟩ (fun κ v h => by obtain ⟨j, rfl⟩ := hH κ v h; exact h)⟩
      rw [List.take_succ_eq_append_getElem hlt, List.any_append, hp]; simp [hb]
  · have hge : ¬ i < xs.length := by simpa using h
    refine Tr.exit ?_
    repeat' (first|refine zS ?_|refine zR ?_|refine zE tab_ok rfl rfl ?_|refine zN ?_|(refine zG rfl rfl (fun _ => ?_) fun _ => ?_)<;>refine zE tab_ok rfl rfl ?_|(refine zC rfl (fun _ => ?_) fun _ => ?_)<;>try (rename_i h; cases h; done)|refine zB ?_|refine zK ?_|refine zZ ⟨_, rfl, ?_⟩)
    refine ⟨_, rfl, ?_⟩
    rw [List.take_of_length_le (by omega)] at hp
    rw [hp]; rfl
theorem containsCmps (g : Nat) (caps : List AV) (H : Store) {α : Type} (enc : α → T) (p : α → Bool) (hc : ExtOnly caps) (hH : ∀ κ v, lk H κ = some v → (∃ j, κ = .e j)) (hHr : ∀ κ ty cells, lk H κ = some (.blk ty cells) → ExtOnly cells) (xs : List α)
    (hx : ∀ x, x ∈ xs → El false 1 (enc x) ∧ Fn Tryz.prog Gw g (.tr (enc x) :: caps) H (· = .tr (.sc (.bool (p x))))) (hn : xs.length ≤ 1073741824) :
    Fn Tryz.prog Gw 33 [.tr (.ls (xs.map enc)), .fn g caps] H (· = .tr (.sc (.bool (xs.any p)))) := by
  refine Fn.of tab_ok Tryz.func33 rfl (by decide) (by simp [Tryz.f33]) rfl (fun κ v h => by obtain ⟨j, rfl⟩ := hH κ v h; rfl) Gw.below ?_
  repeat' (first|refine zS ?_|refine zR ?_|refine zE tab_ok rfl rfl ?_|refine zN ?_|(refine zG rfl rfl (fun _ => ?_) fun _ => ?_)<;>refine zE tab_ok rfl rfl ?_|(refine zC rfl (fun _ => ?_) fun _ => ?_)<;>try (rename_i h; cases h; done)|refine zB ?_|refine zK ?_|refine zZ ⟨_, rfl, ?_⟩)
  refine Sq.callE (H := H) rfl (by
      intro x hx
      rcases List.mem_cons.1 hx with rfl | hx
      · intro κ h; cases h
      · rcases List.mem_cons.1 hx with rfl | hx
        · intro κ h; cases h with | fn _ _ x hx h => exact hc x hx κ h
        · cases hx) (fun κ v h => by obtain ⟨j, rfl⟩ := hH κ v h; exact ⟨⟨j, rfl⟩, h⟩) hHr (idxCmps g caps H enc p hc hH hHr xs hx hn) ?_
  rintro _ ⟨i, rfl, hi⟩
  repeat' (first|refine zS ?_|refine zR ?_|refine zE tab_ok rfl rfl ?_|refine zN ?_|(refine zG rfl rfl (fun _ => ?_) fun _ => ?_)<;>refine zE tab_ok rfl rfl ?_|(refine zC rfl (fun _ => ?_) fun _ => ?_)<;>try (rename_i h; cases h; done)|refine zB ?_|refine zK ?_|refine zZ ⟨_, rfl, ?_⟩)
  rw [hi]
abbrev rngArg (r : Rng) : AV := .tr (rngT r)
theorem cmp_el (c : Cmp) : El true 5 (Cmp.t c) := .inl ⟨rfl, _, rfl, rfl⟩
theorem cmps_el (l : List Cmp) : El false 1 (cmpsT l) := .inr ⟨rfl, rfl, rfl⟩
theorem noH {R : Loc → AV → Prop} : ∀ κ v, lk ([] : Store) κ = some v → R κ v := fun κ v h => nomatch h
theorem allRight_ok (l : List Cmp) (hl : ∀ c, c ∈ l → c.ok) (hn : l.length ≤ 1073741824) :
    Fn Tryz.prog Gw 35 [.tr (cmpsT l), .fn 42 []] [] (· = bool (l.any fun c => !cmpRight c)) :=
  containsCmp _ [] [] Cmp.t _ (fun x h => nomatch h) noH (fun κ ty cells h => nomatch h) l (fun c hc => ⟨cmp_el c, cmpRight1_ok c (hl c hc)⟩) hn
theorem rngRight_ok (r : Rng) (hr : r.ok) (hn : r.length ≤ 1073741824) : Fn Tryz.prog Gw 20 [.tr (rngT r)] [] (· = bool (rngRight r)) := by
  refine Fn.of tab_ok Tryz.func20 rfl (by decide) (by simp [Tryz.f20]) rfl (fun κ v h => by cases h) Gw.below ?_
  repeat' (first|refine zS ?_|refine zR ?_|refine zE tab_ok rfl rfl ?_|refine zN ?_|(refine zG rfl rfl (fun _ => ?_) fun _ => ?_)<;>refine zE tab_ok rfl rfl ?_|(refine zC rfl (fun _ => ?_) fun _ => ?_)<;>try (rename_i h; cases h; done)|refine zB ?_|refine zK ?_|refine zZ ⟨_, rfl, ?_⟩)
  refine Tr.loopS (fun i : Nat => [(.s 1, .ptr (.l 1) 0), (.l 1, .blk 25 [.tr (.ls (r.map cmpsT))]), (.s 6, .tr (.ls (r.map cmpsT))), (.s 7, int (r.map cmpsT).length), (.s 8, int i)]) (fun i => r.length - i)
    (fun i => i ≤ r.length ∧ (r.take i).all (fun l => sizedB l.length && l.all cmpRight) = true)
    0 ⟨by omega, by simp⟩ (Sub.app (l := [_, _, _, _, _]) (H := []) ⟨rfl, rfl, rfl, rfl, rfl, trivial⟩ (fun κ v h => nomatch h)) ?_
  rintro i ⟨hi, hp⟩
  repeat' (first | refine zS ?_ | refine zR ?_ | refine zE tab_ok rfl rfl ?_ | refine zN ?_ | refine zB ?_ | refine zK ?_)
  refine zC rfl (fun h => ?_) (fun h => ?_)
  · have hlt : i < r.length := by simpa using h
    obtain ⟨hl1, hl2⟩ := hr r[i] (List.getElem_mem hlt)
    repeat' (first | refine zS ?_ | refine zR ?_ | refine zE tab_ok rfl rfl ?_ | refine zN ?_ | refine zB ?_ | refine zK ?_)
    refine zI (x := cmpsT r[i]) tab_ok rfl (by omega) (by simp [hlt]) rfl ?_
    repeat' (first|refine zS ?_|refine zR ?_|refine zE tab_ok rfl rfl ?_|refine zN ?_|(refine zG rfl rfl (fun _ => ?_) fun _ => ?_)<;>refine zE tab_ok rfl rfl ?_|(refine zC rfl (fun _ => ?_) fun _ => ?_)<;>try (rename_i h; cases h; done)|refine zB ?_|refine zK ?_|refine zZ ⟨_, rfl, ?_⟩)
    refine Sq.callv rfl (sized_ok _) ?_
    repeat' (first|refine zS ?_|refine zR ?_|refine zE tab_ok rfl rfl ?_|refine zN ?_|(refine zG rfl rfl (fun _ => ?_) fun _ => ?_)<;>refine zE tab_ok rfl rfl ?_|(refine zC rfl (fun _ => ?_) fun _ => ?_)<;>try (rename_i h; cases h; done)|refine zB ?_|refine zK ?_|refine zZ ⟨_, rfl, ?_⟩)
    all_goals first | (refine Sq.callv rfl (allRight_ok r[i] hl2 hl1) ?_) | skip
    all_goals repeat' (first|refine zS ?_|refine zR ?_|refine zE tab_ok rfl rfl ?_|refine zN ?_|(refine zG rfl rfl (fun _ => ?_) fun _ => ?_)<;>refine zE tab_ok rfl rfl ?_|(refine zC rfl (fun _ => ?_) fun _ => ?_)<;>try (rename_i h; cases h; done)|refine zB ?_|refine zK ?_|refine zZ ⟨_, rfl, ?_⟩)
    all_goals first
      | refine ⟨i + 1, ⟨by omega, ?_⟩, by omega, Sub.app (l := [_, _, _, _, _]) (H := []) ⟨rfl, rfl, rfl, rfl, congrArg some (wrapz (by omega) (by omega) (by omega)), trivial⟩ (fun κ v h => nomatch h)⟩
        rename_i h1 h2
        rw [List.take_succ_eq_append_getElem hlt, List.all_append, hp]
        simp only [List.length_map, Bool.not_eq_false', List.any_eq_false, Bool.not_eq_true', Bool.not_eq_false] at h1 h2
        simp only [List.all_cons, List.all_nil, Bool.and_true, Bool.true_and, h1, List.all_eq_true]
        exact h2
      | show bool _ = bool _
        congr 3
        have : (sizedB r[i].length && r[i].all cmpRight) = false := by
          rename_i h1 h2
          simp only [List.length_map, Bool.not_eq_false', Bool.not_eq_true'] at h1 h2
          first
            | (rw [h1]; rfl)
            | (have : r[i].all cmpRight = false := by
                 obtain ⟨c, hc, hc2⟩ := List.any_eq_true.1 h2
                 rw [← Bool.not_eq_true, List.all_eq_true]
                 intro h
                 rw [h c hc] at hc2; cases hc2
               rw [this, Bool.and_false])
        have h2 : (r.all fun l => sizedB l.length && l.all cmpRight) = false := by
          rw [← Bool.not_eq_true, List.all_eq_true]
          intro h
          rw [h _ (List.getElem_mem hlt)] at this; cases this
        simp only [rngRight, h2, Bool.false_and]
  · have hge : ¬ i < r.length := by simpa using h
    rw [List.take_of_length_le (by omega)] at hp
    refine Tr.exit ?_
    repeat' (first|refine zS ?_|refine zR ?_|refine zE tab_ok rfl rfl ?_|refine zN ?_|(refine zG rfl rfl (fun _ => ?_) fun _ => ?_)<;>refine zE tab_ok rfl rfl ?_|(refine zC rfl (fun _ => ?_) fun _ => ?_)<;>try (rename_i h; cases h; done)|refine zB ?_|refine zK ?_|refine zZ ⟨_, rfl, ?_⟩)
    refine Sq.callv rfl (sized_ok _) ?_
    repeat' (first|refine zS ?_|refine zR ?_|refine zE tab_ok rfl rfl ?_|refine zN ?_|(refine zG rfl rfl (fun _ => ?_) fun _ => ?_)<;>refine zE tab_ok rfl rfl ?_|(refine zC rfl (fun _ => ?_) fun _ => ?_)<;>try (rename_i h; cases h; done)|refine zB ?_|refine zK ?_|refine zZ ⟨_, rfl, ?_⟩)
    show bool _ = bool _
    congr 3
    simp only [rngRight, hp, Bool.true_and, List.length_map]
theorem lk1 {k κ : Loc} {v u : AV} (h : lk [(k, u)] κ = some v) : κ = k ∧ v = u := by
  rw [lk_cons] at h
  split at h
  · rename_i e; exact ⟨e.symm, (Option.some.inj h).symm⟩
  · cases h
theorem has1_ok (v : Ver) (hv : v.ok) (c : Cmp) (hc : c.ok) : Fn Tryz.prog Gw 36 [.tr (Cmp.t c), .ptr (.e 0) 0] [(.e 0, .blk 38 [int v.a, int v.b, int v.c, str v.p])] (· = bool (!hasC c v)) := by
  refine Fn.of tab_ok Tryz.func36 rfl (by decide) (by simp [Tryz.f36]) rfl (fun κ v h => (lk1 h).1 ▸ rfl) Gw.below ?_
  repeat' (first|refine zS ?_|refine zR ?_|refine zE tab_ok rfl rfl ?_|refine zN ?_|(refine zG rfl rfl (fun _ => ?_) fun _ => ?_)<;>refine zE tab_ok rfl rfl ?_|(refine zC rfl (fun _ => ?_) fun _ => ?_)<;>try (rename_i h; cases h; done)|refine zB ?_|refine zK ?_|refine zZ ⟨_, rfl, ?_⟩)
  refine Sq.callv rfl (has_ok c v hc hv) ?_
  repeat' (first|refine zS ?_|refine zR ?_|refine zE tab_ok rfl rfl ?_|refine zN ?_|(refine zG rfl rfl (fun _ => ?_) fun _ => ?_)<;>refine zE tab_ok rfl rfl ?_|(refine zC rfl (fun _ => ?_) fun _ => ?_)<;>try (rename_i h; cases h; done)|refine zB ?_|refine zK ?_|refine zZ ⟨_, rfl, ?_⟩)
  rfl
abbrev verH (v : Ver) : Store := [(.e 0, .blk 38 [int v.a, int v.b, int v.c, str v.p])]
theorem verH_e (v : Ver) : ∀ κ u, lk (verH v) κ = some u → ∃ j, κ = .e j := fun κ u h => ⟨0, (lk1 h).1⟩
theorem verH_r (v : Ver) : ∀ κ ty cells, lk (verH v) κ = some (.blk ty cells) → ExtOnly cells := fun κ ty cells h => by
  obtain ⟨_, h2⟩ := lk1 h
  injection h2 with h3 h4
  subst h4
  intro x hx κ hr
  simp only [List.mem_cons, List.not_mem_nil, or_false] at hx
  rcases hx with rfl | rfl | rfl | rfl <;> cases hr
theorem ptr_ext : ExtOnly [.ptr (.e 0) 0] := fun x hx κ h => by
  obtain rfl := List.mem_singleton.1 hx
  cases h; exact ⟨0, rfl⟩
theorem has2_ok (v : Ver) (hv : v.ok) (l : List Cmp) (hl : ∀ c, c ∈ l → c.ok) (hn : l.length ≤ 1073741824) : Fn Tryz.prog Gw 34 [.tr (cmpsT l), .ptr (.e 0) 0] (verH v) (· = bool (l.all fun c => hasC c v)) := by
  refine Fn.of tab_ok Tryz.func34 rfl (by decide) (by simp [Tryz.f34]) rfl (fun κ v h => (lk1 h).1 ▸ rfl) Gw.below ?_
  repeat' (first|refine zS ?_|refine zR ?_|refine zE tab_ok rfl rfl ?_|refine zN ?_|(refine zG rfl rfl (fun _ => ?_) fun _ => ?_)<;>refine zE tab_ok rfl rfl ?_|(refine zC rfl (fun _ => ?_) fun _ => ?_)<;>try (rename_i h; cases h; done)|refine zB ?_|refine zK ?_|refine zZ ⟨_, rfl, ?_⟩)
  refine Sq.callE (H := verH v) rfl (by
      intro x hx
      rcases List.mem_cons.1 hx with rfl | hx
      · intro κ h; cases h
      · rcases List.mem_cons.1 hx with rfl | hx
        · intro κ h; cases h with | fn _ _ x hx h => exact ptr_ext x hx κ h
        · cases hx) (fun κ u h => ⟨verH_e v κ u h, by obtain ⟨rfl, rfl⟩ := lk1 h; rfl⟩) (verH_r v)
    (containsCmp 36 [.ptr (.e 0) 0] (verH v) Cmp.t (fun c => !hasC c v) ptr_ext (verH_e v) (verH_r v) l (fun c hc => ⟨cmp_el c, has1_ok v hv c (hl c hc)⟩) hn) ?_
  rintro _ rfl
  repeat' (first|refine zS ?_|refine zR ?_|refine zE tab_ok rfl rfl ?_|refine zN ?_|(refine zG rfl rfl (fun _ => ?_) fun _ => ?_)<;>refine zE tab_ok rfl rfl ?_|(refine zC rfl (fun _ => ?_) fun _ => ?_)<;>try (rename_i h; cases h; done)|refine zB ?_|refine zK ?_|refine zZ ⟨_, rfl, ?_⟩)
  show bool _ = bool _
  congr 3
  rw [Bool.eq_iff_iff, Bool.not_eq_true', ← Bool.not_eq_true, List.any_eq_true, List.all_eq_true]
  constructor
  · intro h c hc
    rcases hh : hasC c v with _ | _
    · exact absurd ⟨c, hc, by rw [hh]; rfl⟩ h
    · rfl
  · rintro h ⟨c, hc, h2⟩
    rw [h c hc] at h2; cases h2
theorem hasR_ok (r : Rng) (v : Ver) (hr : r.ok) (hn : r.length ≤ 1073741824) (hv : v.ok) : Fn Tryz.prog Gw 16 [.tr (rngT r), .tr (Ver.t v)] [] (· = bool (hasR r v)) := by
  refine Fn.of tab_ok Tryz.func16 rfl (by decide) (by simp [Tryz.f16]) rfl (fun κ v h => by cases h) Gw.below ?_
  repeat' (first|refine zS ?_|refine zR ?_|refine zE tab_ok rfl rfl ?_|refine zN ?_|(refine zG rfl rfl (fun _ => ?_) fun _ => ?_)<;>refine zE tab_ok rfl rfl ?_|(refine zC rfl (fun _ => ?_) fun _ => ?_)<;>try (rename_i h; cases h; done)|refine zB ?_|refine zK ?_|refine zZ ⟨_, rfl, ?_⟩)
  refine Sq.callv rfl (rngRight_ok r hr hn) ?_
  repeat' (first|refine zS ?_|refine zR ?_|refine zE tab_ok rfl rfl ?_|refine zN ?_|(refine zG rfl rfl (fun _ => ?_) fun _ => ?_)<;>refine zE tab_ok rfl rfl ?_|(refine zC rfl (fun _ => ?_) fun _ => ?_)<;>try (rename_i h; cases h; done)|refine zB ?_|refine zK ?_|refine zZ ⟨_, rfl, ?_⟩)
  all_goals first | (refine Sq.callv rfl (right_ok v hv) ?_) | skip
  all_goals repeat' (first|refine zS ?_|refine zR ?_|refine zE tab_ok rfl rfl ?_|refine zN ?_|(refine zG rfl rfl (fun _ => ?_) fun _ => ?_)<;>refine zE tab_ok rfl rfl ?_|(refine zC rfl (fun _ => ?_) fun _ => ?_)<;>try (rename_i h; cases h; done)|refine zB ?_|refine zK ?_|refine zZ ⟨_, rfl, ?_⟩)
  all_goals first
    | (refine Sq.callv rfl (containsCmps 34 [.ptr (.e 0) 0] (verH v) cmpsT (fun l => l.all fun c => hasC c v) ptr_ext (verH_e v) (verH_r v) r (fun l hl => ⟨cmps_el l, has2_ok v hv l (hr l hl).2 (hr l hl).1⟩) hn) ?_)
    | skip
  all_goals repeat' (first|refine zS ?_|refine zR ?_|refine zE tab_ok rfl rfl ?_|refine zN ?_|(refine zG rfl rfl (fun _ => ?_) fun _ => ?_)<;>refine zE tab_ok rfl rfl ?_|(refine zC rfl (fun _ => ?_) fun _ => ?_)<;>try (rename_i h; cases h; done)|refine zB ?_|refine zK ?_|refine zZ ⟨_, rfl, ?_⟩)
  all_goals
    show bool _ = bool _
    congr 3
    simp_all [hasR]
end Go.Lg.Tryz

namespace Go.Lg.Cuts
open Go Go.RowKit
structure Keeps (S : Nat → Prop) (W W' : World) : Prop where
  size : W.heap.size ≤ W'.heap.size
  block : ∀ r, S r → r < W.heap.size → W'.heap[r]? = W.heap[r]?
theorem Keeps.refl (S : Nat → Prop) (W : World) : Keeps S W W := ⟨Nat.le_refl _, fun _ _ _ => rfl⟩
theorem Keeps.trans {S : Nat → Prop} {A W C : World} (h : Keeps S A W) (k : Keeps S W C) : Keeps S A C :=
  ⟨Nat.le_trans h.size k.size, fun r hb hr => (k.block r hb (Nat.lt_of_lt_of_le hr h.size)).trans (h.block r hb hr)⟩
theorem Keeps.mono {S S' : Nat → Prop} {A W : World} (h : Keeps S A W) (hs : ∀ r, S' r → S r) : Keeps S' A W := ⟨h.size, fun r hb hr => h.block r (hs r hb) hr⟩
theorem Keeps.below {S : Nat → Prop} {A W : World} (h : Below A.heap.size A W) : Keeps S A W := ⟨h.size, fun r _ hr => h.block r hr⟩
theorem Keeps.alloc (S : Nat → Prop) (W : World) (o : Obj) : Keeps S W (W.alloc o) := Keeps.below ((Below.refl _ W).alloc (Nat.le_refl _) o)
theorem Keeps.cell {S : Nat → Prop} {W W' : World} (h : Keeps S W W') {p : Addr} {v : Value} (hb : S p.block) (hc : W.cell? p = some v) : W'.cell? p = some v := by
  have hlt := World.block_lt_of_cell? W p hc
  unfold World.cell? at hc ⊢
  rw [h.block _ hb hlt]; exact hc
def Shape (W W' : World) : Prop := ∀ (b : Nat) (cs : Array Value) (ty : TypeId) (z : Nat × Nat), W.heap[b]? = some (Obj.cells cs ty z) → ∃ cs' : Array Value, W'.heap[b]? = some (Obj.cells cs' ty z) ∧ cs'.size = cs.size
theorem Shape.setCell (W : World) (p : Addr) (v : Value) : Shape W (W.setCell p v) := fun b cs ty z h => by
  simp only [World.setCell, Array.getElem?_modify, h]
  by_cases e : p.block = b
  · rw [if_pos e]
    refine ⟨_, rfl, ?_⟩
    split <;> simp
  · rw [if_neg e]; exact ⟨cs, rfl, rfl⟩
theorem Shape.alloc (W : World) (o : Obj) : Shape W (W.alloc o) := fun b cs ty z h => ⟨cs, (Below.heap_alloc _ _ _ (Array.getElem?_eq_some_iff.1 h).1).trans h, rfl⟩
theorem Shape.put {W : World} {l : Nat} {o : Obj} (o' : Obj) (hl : W.heap[l]? = some o) (hc : o.isCells = false) : Shape W (W.putObj l o') := fun b cs ty z h => by
  by_cases e : b = l
  · subst e; rw [h] at hl; obtain rfl := Option.some.inj hl; cases hc
  · exact ⟨cs, (World.putObj_heap_other e).trans h, rfl⟩
def Turn (b : Nat) (W W' : World) : Prop := W.grownBy W' (some b) ∧ Shape W W'
def Harm (b E : Nat) (W W' : World) : Prop := ∃ row, W.grownBy W' row ∧ Shape W W' ∧ ∀ r, row = some r → r = b ∨ (E ≤ r ∧ ∃ o o', W.heap[r]? = some o ∧ W'.heap[r]? = some o' ∧ o.isCells = false ∧ o'.isCells = false)
def Hold (b E : Nat) (I : Nat → World → Prop) : Prop := ∀ k W W', I k W → Harm b E W W' → I k W'
def HoldB (b : Nat) (I : Nat → World → Prop) : Prop := ∀ k W W', I k W → Turn b W W' → I k W'
theorem Hold.pure (b E : Nat) (p : Nat → Prop) : Hold b E (fun k _ => p k) := fun _ _ _ h _ => h
theorem grownBy_put (W : World) (l : Nat) (o : Obj) : W.grownBy (W.putObj l o) (some l) := grownBy_putObj' W l o
theorem Hold.put {b E : Nat} {I : Nat → World → Prop} (h : Hold b E I) {k : Nat} {W : World} {l : Nat} {o : Obj} (o' : Obj) (hi : I k W) (he : E ≤ l) (hl : W.heap[l]? = some o) (hc : o.isCells = false) (hc' : o'.isCells = false) : I k (W.putObj l o') :=
  h k W _ hi ⟨some l, grownBy_put W l o', Shape.put o' hl hc, fun r e => .inr (by cases e; exact ⟨he, o, o', hl, World.putObj_heap_same (Array.getElem?_eq_some_iff.1 hl).1, hc, hc'⟩)⟩
theorem Hold.new {b E : Nat} {I : Nat → World → Prop} (h : Hold b E I) {k : Nat} {W : World} (o : Obj) (hi : I k W) : I k (W.alloc o) :=
  h k W _ hi ⟨none, ((Below.refl _ W).alloc (Nat.le_refl _) o) |> fun hb => ⟨hb.os, hb.tape, hb.output, hb.size, fun i hi _ => hb.block i hi⟩, Shape.alloc _ _, fun r e => by cases e⟩
def cutPost (S : Nat → Prop) (I : Nat → World → Prop) (Ix : Code → Nat → World → Prop) (k : Nat) (W : World) : Exit → Act → World → Prop
  | .normal, _, W' => Keeps S W W' ∧ I (k + 1) W'
  | .ret, _, W' => Keeps S W W' ∧ Ix .ret (k + 1) W'
  | .exit id, _, W' => Keeps S W W' ∧ Ix (.exit id) (k + 1) W'
  | .goto t, _, W' => Keeps S W W' ∧ Ix (.goto t) (k + 1) W'
  | .panic _, _, _ => False
  | .outgrown, _, _ => False
def Iter (F : Fence) (n : Nat) (P : Program) (gf : Nat) (lb : Array Value) (S : Nat → Prop) (B : Nat) (xs : List Value) (w : World) : Prop :=
  ∀ (l : Nat) (J Jx : Nat → World → Prop) (W : World), Keeps S w W → HoldB B J → HoldB B Jx →
    (∀ k W1 v, J k W1 → xs[k]? = some v → YieldAt F (n - 1) P l #[v] W1 fun e W' => (e = .returned (.bool true) ∧ J (k + 1) W' ∧ Keeps S W1 W') ∨ (e = .returned (.bool false) ∧ Jx (k + 1) W')) →
    J 0 W →
    CallsIn F n P gf (#[.func (.yield l) #[] #[]] ++ lb) W fun e W' => (∃ v, e = .returned v) ∧ (J xs.length W' ∨ ∃ k, Jx k W')
variable {F : Fence} {n : Nat} {P : Program}
theorem range_cuts {g : Operand} {ps : Array Tmp} {assign body : Code} {Q : Exit → Act → World → Prop} {a : Act} {w : World}
    (hro : F.round = none) (h1 : 1 ≤ n) {gf : Nat} {lb : Array Value} (hg : a.eval g = .func (.func gf) #[] lb) (hFg : F.fn gf) (eg : ∀ args w, (callFunc gf args).run P w = .ok (.enter gf args) w)
    {S : Nat → Prop} {B : Nat} {xs : List Value} (hS : ∀ r, S r → r < w.heap.size) (hB : B < w.heap.size) (hseq : Iter F (n - 1) P gf lb S B xs w) (hps : ps.size = 1)
    (I : Nat → World → Prop) (Ix : Code → Nat → World → Prop) (hI : Hold B w.heap.size I) (hIx : ∀ c, Hold B w.heap.size (Ix c)) (h0 : I 0 w) (a₁ : Value → Act)
    (hassign : ∀ (l : Nat) (v : Value) (W : World) (K : Act → World → Prop), K (a₁ v) W →
      assign.wpIn (F.inRound l) (n - 1 - 1) P (Exit.then K (fun _ _ _ => False)) { tmps := (ps.zip #[v]).foldl (fun t (p, v) => t.setIfInBounds p v) a.tmps, defers := [] } W)
    (hbody : ∀ (l k : Nat) (v : Value) (W : World), I k W → xs[k]? = some v → w.heap.size + 1 < W.heap.size → l = w.heap.size + 1 → (∃ r, W.heap[l]? = some (.loop r)) → W.heap[w.heap.size]? = some (.deferred (some [])) → body.wpIn (F.inRound l) (n - 1 - 1) P (cutPost (fun r => S r ∨ r = w.heap.size ∨ r = w.heap.size + 1) I Ix k W) (a₁ v) W)
    (hdone : ∀ (D : Nat) (W : World), I xs.length W → W.heap[D]? = some (.deferred (some [])) → w.heap.size ≤ D → Q .normal { a with defers := { target := .collected D, args := #[] } :: a.defers } W)
    (hstop : ∀ (D : Nat) (c : Code) (k : Nat) (W : World), Ix c k W → W.heap[D]? = some (.deferred (some [])) → w.heap.size ≤ D → c.wpIn F n P Q { a with defers := { target := .collected D, args := #[] } :: a.defers } W) :
    (Code.rangeFunc g ps assign body).wpIn F n P Q a w := by
  refine wpIn_rangeFunc ?_
  intro fn hfn
  rw [hro]
  obtain ⟨rec, hrec⟩ : ∃ rec : LoopState → Option Code → Loop, rec = fun st pe => { state := st, pending := pe, fn, tmps := a.tmps, params := ps, assign, body, defers := w.heap.size } := ⟨_, rfl⟩
  obtain ⟨W1, hW1⟩ : ∃ W1, (w.alloc (.deferred (some []))).alloc (.loop (rec .ready none)) = W1 := ⟨_, rfl⟩
  have hz1 : W1.heap.size = w.heap.size + 2 := by rw [← hW1]; simp
  have hL1 : W1.heap[w.heap.size + 1]? = some (.loop (rec .ready none)) := by
    rw [← hW1]; have := World.alloc_heap_new (w.alloc (.deferred (some []))) (.loop (rec .ready none)); rwa [World.size_alloc] at this
  have hK1 : W1.heap[w.heap.size]? = some (.deferred (some [])) := by
    rw [← hW1]; exact (Below.heap_alloc _ _ _ (by simp)).trans (World.alloc_heap_new w _)
  have hI1 : I 0 W1 := by rw [← hW1]; exact hI.new _ (hI.new _ h0)
  have hk1 : Keeps S w W1 := by rw [← hW1]; exact (Keeps.alloc _ _ _).trans (Keeps.alloc _ _ _)
  refine ⟨w.heap.size + 1, [{ target := .collected w.heap.size, args := #[] }], W1, { target := .fn (.func gf) lb, args := #[.func (.yield (w.heap.size + 1)) #[] #[]] }, W1, gf,
    #[.func (.yield (w.heap.size + 1)) #[] #[]] ++ lb, W1, ?_, ?_, ?_, ?_, fun _ => h1, ?_⟩
  · rw [← hW1, hrec]; exact run_enterLoop_outer _ _ _ _ _
  · simp only [resolve, hg]
    simp [go_sem]
  · intro f' hf'; simp [Target.leads] at hf'; subst hf'; exact hFg
  · simp [invoke, go_sem, eg]
  · -- the invariant with the loop's two blocks beside it
    have hgb : ∀ {W W' : World}, Turn B W W' → Harm B w.heap.size W W' := fun h => ⟨some B, h.1, h.2, fun r e => .inl (by cases e; rfl)⟩
    have hst : ∀ {W W' : World} {r : Nat} {o : Obj}, Turn B W W' → w.heap.size ≤ r → W.heap[r]? = some o → W'.heap[r]? = some o :=
      fun {W W' r o} h hr hl => (h.1.block r (Array.getElem?_eq_some_iff.1 hl).1 (by intro e; cases e; omega)).trans hl
    refine (hseq (w.heap.size + 1)
      (fun k W => I k W ∧ W.heap[w.heap.size + 1]? = some (.loop (rec .ready none)) ∧ W.heap[w.heap.size]? = some (.deferred (some [])))
      (fun k W => ∃ c, Ix c k W ∧ W.heap[w.heap.size + 1]? = some (.loop (rec .done (some c))) ∧ W.heap[w.heap.size]? = some (.deferred (some [])))
      W1 hk1
      (fun k A C hs hg' => ⟨hI k A C hs.1 (hgb hg'), hst hg' (by omega) hs.2.1, hst hg' (Nat.le_refl _) hs.2.2⟩)
      (fun k A C hs hg' => by
        obtain ⟨c, hc, hl, hk⟩ := hs
        exact ⟨c, hIx c k A C hc (hgb hg'), hst hg' (by omega) hl, hst hg' (Nat.le_refl _) hk⟩)
      ?_ ⟨hI1, hL1, hK1⟩).mono ?_
    · -- one round
      rintro k W v ⟨hi, hl, hk⟩ hv
      have hlt : w.heap.size + 1 < W.heap.size := (Array.getElem?_eq_some_iff.1 hl).1
      have hy := run_yield (P := P) (args := #[v]) hl (by rw [hrec]; exact hps.symm)
      rw [hrec] at hy
      refine ⟨fn, _, assign, body, hy, roundIn_of_wpIn hfn (hassign _ v W _ ⟨_, run_beginRound hl (by rw [hrec]), ?_⟩)⟩
      have hl2 : (W.putObj (w.heap.size + 1) (.loop { rec .ready none with state := .busy })).heap[w.heap.size + 1]? = some (.loop { rec .ready none with state := .busy }) := World.putObj_heap_same hlt
      have hk2 : (W.putObj (w.heap.size + 1) (.loop { rec .ready none with state := .busy })).heap[w.heap.size]? = some (.deferred (some [])) := (World.putObj_heap_other (by omega)).trans hk
      have hz2 : (W.putObj (w.heap.size + 1) (.loop { rec .ready none with state := .busy })).heap.size = W.heap.size := World.putObj_size
      have hi2 := hI.put (.loop { rec .ready none with state := .busy }) hi (Nat.le_succ _) hl rfl (by rfl)
      refine wpIn_mono (hbody _ k v _ hi2 hv (by rw [hz2]; omega) rfl ⟨_, hl2⟩ hk2) ?_
      have fin : ∀ (jump : Option Code) (W3 : World), Keeps (fun r => S r ∨ r = w.heap.size ∨ r = w.heap.size + 1) (W.putObj (w.heap.size + 1) (.loop { rec .ready none with state := .busy })) W3 →
          (Instr.endRound (w.heap.size + 1) jump).run P W3 = .ok (.bool jump.isNone) (W3.putObj (w.heap.size + 1) (.loop (rec (if jump.isNone then .ready else .done) jump))) ∧
          W3.heap[w.heap.size + 1]? = some (.loop { rec .ready none with state := .busy }) ∧
          (W3.putObj (w.heap.size + 1) (.loop (rec (if jump.isNone then .ready else .done) jump))).heap[w.heap.size + 1]? = some (.loop (rec (if jump.isNone then .ready else .done) jump)) ∧
          (W3.putObj (w.heap.size + 1) (.loop (rec (if jump.isNone then .ready else .done) jump))).heap[w.heap.size]? = some (.deferred (some [])) := fun jump W3 hk3 => by
        have hl3 := (hk3.block _ (.inr (.inr rfl)) (by rw [hz2]; omega)).trans hl2
        have hd3 := (hk3.block _ (.inr (.inl rfl)) (by rw [hz2]; omega)).trans hk2
        have := run_endRound (P := P) jump hl3
        rw [hrec] at this ⊢
        exact ⟨this, by rw [hrec] at hl3; exact hl3, World.putObj_heap_same (Array.getElem?_eq_some_iff.1 hl3).1, (World.putObj_heap_other (by omega)).trans hd3⟩
      have keep : ∀ (W3 : World) (o : Obj), Keeps (fun r => S r ∨ r = w.heap.size ∨ r = w.heap.size + 1) (W.putObj (w.heap.size + 1) (.loop { rec .ready none with state := .busy })) W3 →
          o = .loop (rec .ready none) → Keeps S W (W3.putObj (w.heap.size + 1) o) := fun W3 o hk3 ho => by
        refine ⟨by rw [World.putObj_size]; have := hk3.size; rw [hz2] at this; exact this, fun r hb hr => ?_⟩
        by_cases e : r = w.heap.size + 1
        · subst e; rw [World.putObj_heap_same (Nat.lt_of_lt_of_le hlt (by have := hk3.size; rw [hz2] at this; exact this)), ho]; exact hl.symm
        · rw [World.putObj_heap_other e, hk3.block r (.inl hb) (by rw [hz2]; exact hr), World.putObj_heap_other e]
      rintro e a3 W3 hp
      cases e with
      | normal =>
        obtain ⟨hk3, hi3⟩ := hp
        obtain ⟨hr, hl3, hl4, hk4⟩ := fin none W3 hk3
        exact ⟨_, _, hr, .inl ⟨rfl, ⟨hI.put _ hi3 (Nat.le_succ _) hl3 rfl (by rfl), hl4, hk4⟩, keep W3 _ hk3 (by simp)⟩⟩
      | ret =>
        obtain ⟨hk3, hi3⟩ := hp
        obtain ⟨hr, hl3, hl4, hk4⟩ := fin (some .ret) W3 hk3
        exact ⟨_, _, hr, .inr ⟨rfl, .ret, (hIx _).put _ hi3 (Nat.le_succ _) hl3 rfl (by rfl), hl4, hk4⟩⟩
      | exit id =>
        obtain ⟨hk3, hi3⟩ := hp
        obtain ⟨hr, hl3, hl4, hk4⟩ := fin (some (.exit id)) W3 hk3
        exact ⟨_, _, hr, .inr ⟨rfl, .exit id, (hIx _).put _ hi3 (Nat.le_succ _) hl3 rfl (by rfl), hl4, hk4⟩⟩
      | goto t =>
        obtain ⟨hk3, hi3⟩ := hp
        obtain ⟨hr, hl3, hl4, hk4⟩ := fin (some (.goto t)) W3 hk3
        exact ⟨_, _, hr, .inr ⟨rfl, .goto t, (hIx _).put _ hi3 (Nat.le_succ _) hl3 rfl (by rfl), hl4, hk4⟩⟩
      | panic ch => exact hp.elim
      | outgrown => exact hp.elim
    · -- behind the iterator
      rintro e W2 ⟨⟨v, rfl⟩, (⟨hi, hl, hk⟩ | ⟨k, c, hi, hl, hk⟩)⟩
      · exact ⟨none, _, by have := run_endLoop (P := P) hl (by rw [hrec]; simp); rw [hrec] at this; exact this, hdone _ _ (hI.put _ hi (Nat.le_succ _) hl rfl (by rfl)) ((World.putObj_heap_other (by omega)).trans hk) (Nat.le_refl _)⟩
      · exact ⟨some c, _, by have := run_endLoop (P := P) hl (by rw [hrec]; simp); rw [hrec] at this; exact this, hstop _ c k _ ((hIx c).put _ hi (Nat.le_succ _) hl rfl (by rfl)) ((World.putObj_heap_other (by omega)).trans hk) (Nat.le_refl _)⟩
theorem range_cutsN {l₀ : Nat} {r₀ : Loop} {g : Operand} {ps : Array Tmp} {assign body : Code} {Q : Exit → Act → World → Prop} {a : Act} {w : World}
    (hro : F.round = some l₀) (hl₀ : w.heap[l₀]? = some (.loop r₀)) (h1 : 1 ≤ n) {gf : Nat} {lb : Array Value} (hg : a.eval g = .func (.func gf) #[] lb) (hFg : F.fn gf) (eg : ∀ args w, (callFunc gf args).run P w = .ok (.enter gf args) w)
    {S : Nat → Prop} {B : Nat} {xs : List Value} (hS : ∀ r, S r → r < w.heap.size) (hB : B < w.heap.size) (hseq : Iter F (n - 1) P gf lb S B xs w) (hps : ps.size = 1)
    (I : Nat → World → Prop) (Ix : Code → Nat → World → Prop) (hI : Hold B w.heap.size I) (hIx : ∀ c, Hold B w.heap.size (Ix c)) (h0 : I 0 w) (a₁ : Value → Act)
    (hassign : ∀ (l : Nat) (v : Value) (W : World) (K : Act → World → Prop), K (a₁ v) W →
      assign.wpIn (F.inRound l) (n - 1 - 1) P (Exit.then K (fun _ _ _ => False)) { tmps := (ps.zip #[v]).foldl (fun t (p, v) => t.setIfInBounds p v) a.tmps, defers := [] } W)
    (hbody : ∀ (l k : Nat) (v : Value) (W : World), I k W → xs[k]? = some v → w.heap.size < W.heap.size → l = w.heap.size → (∃ r, W.heap[l]? = some (.loop r)) → body.wpIn (F.inRound l) (n - 1 - 1) P (cutPost (fun r => S r ∨ r = w.heap.size) I Ix k W) (a₁ v) W)
    (hdone : ∀ (W : World), I xs.length W → Q .normal a W)
    (hstop : ∀ (c : Code) (k : Nat) (W : World), Ix c k W → c.wpIn F n P Q a W) :
    (Code.rangeFunc g ps assign body).wpIn F n P Q a w := by
  refine wpIn_rangeFunc ?_
  intro fn hfn
  rw [hro]
  obtain ⟨rec, hrec⟩ : ∃ rec : LoopState → Option Code → Loop, rec = fun st pe => { state := st, pending := pe, fn, tmps := a.tmps, params := ps, assign, body, defers := r₀.defers } := ⟨_, rfl⟩
  obtain ⟨W1, hW1⟩ : ∃ W1, w.alloc (.loop (rec .ready none)) = W1 := ⟨_, rfl⟩
  have hz1 : W1.heap.size = w.heap.size + 1 := by rw [← hW1]; simp
  have hL1 : W1.heap[w.heap.size]? = some (.loop (rec .ready none)) := by rw [← hW1]; exact World.alloc_heap_new w _
  have hI1 : I 0 W1 := by rw [← hW1]; exact hI.new _ h0
  have hk1 : Keeps S w W1 := by rw [← hW1]; exact Keeps.alloc _ _ _
  refine ⟨w.heap.size, [], W1, { target := .fn (.func gf) lb, args := #[.func (.yield w.heap.size) #[] #[]] }, W1, gf,
    #[.func (.yield w.heap.size) #[] #[]] ++ lb, W1, ?_, ?_, ?_, ?_, fun _ => h1, ?_⟩
  · rw [← hW1, hrec]; exact run_enterLoop_inner hl₀ _ _ _ _ _
  · simp only [resolve, hg]
    simp [go_sem]
  · intro f' hf'; simp [Target.leads] at hf'; subst hf'; exact hFg
  · simp [invoke, go_sem, eg]
  · have hgb : ∀ {W W' : World}, Turn B W W' → Harm B w.heap.size W W' := fun h => ⟨some B, h.1, h.2, fun r e => .inl (by cases e; rfl)⟩
    have hst : ∀ {W W' : World} {r : Nat} {o : Obj}, Turn B W W' → w.heap.size ≤ r → W.heap[r]? = some o → W'.heap[r]? = some o :=
      fun {W W' r o} h hr hl => (h.1.block r (Array.getElem?_eq_some_iff.1 hl).1 (by intro e; cases e; omega)).trans hl
    refine (hseq w.heap.size
      (fun k W => I k W ∧ W.heap[w.heap.size]? = some (.loop (rec .ready none)))
      (fun k W => ∃ c, Ix c k W ∧ W.heap[w.heap.size]? = some (.loop (rec .done (some c))))
      W1 hk1
      (fun k A C hs hg' => ⟨hI k A C hs.1 (hgb hg'), hst hg' (Nat.le_refl _) hs.2⟩)
      (fun k A C hs hg' => by
        obtain ⟨c, hc, hl⟩ := hs
        exact ⟨c, hIx c k A C hc (hgb hg'), hst hg' (Nat.le_refl _) hl⟩)
      ?_ ⟨hI1, hL1⟩).mono ?_
    · rintro k W v ⟨hi, hl⟩ hv
      have hlt : w.heap.size < W.heap.size := (Array.getElem?_eq_some_iff.1 hl).1
      have hy := run_yield (P := P) (args := #[v]) hl (by rw [hrec]; exact hps.symm)
      rw [hrec] at hy
      refine ⟨fn, _, assign, body, hy, roundIn_of_wpIn hfn (hassign _ v W _ ⟨_, run_beginRound hl (by rw [hrec]), ?_⟩)⟩
      have hl2 : (W.putObj w.heap.size (.loop { rec .ready none with state := .busy })).heap[w.heap.size]? = some (.loop { rec .ready none with state := .busy }) := World.putObj_heap_same hlt
      have hz2 : (W.putObj w.heap.size (.loop { rec .ready none with state := .busy })).heap.size = W.heap.size := World.putObj_size
      have hi2 := hI.put (.loop { rec .ready none with state := .busy }) hi (Nat.le_refl _) hl rfl (by rfl)
      refine wpIn_mono (hbody _ k v _ hi2 hv (by rw [hz2]; omega) rfl ⟨_, hl2⟩) ?_
      have fin : ∀ (jump : Option Code) (W3 : World), Keeps (fun r => S r ∨ r = w.heap.size) (W.putObj w.heap.size (.loop { rec .ready none with state := .busy })) W3 →
          (Instr.endRound w.heap.size jump).run P W3 = .ok (.bool jump.isNone) (W3.putObj w.heap.size (.loop (rec (if jump.isNone then .ready else .done) jump))) ∧
          W3.heap[w.heap.size]? = some (.loop { rec .ready none with state := .busy }) ∧
          (W3.putObj w.heap.size (.loop (rec (if jump.isNone then .ready else .done) jump))).heap[w.heap.size]? = some (.loop (rec (if jump.isNone then .ready else .done) jump)) := fun jump W3 hk3 => by
        have hl3 := (hk3.block _ (.inr rfl) (by rw [hz2]; omega)).trans hl2
        have := run_endRound (P := P) jump hl3
        rw [hrec] at this ⊢
        exact ⟨this, by rw [hrec] at hl3; exact hl3, World.putObj_heap_same (Array.getElem?_eq_some_iff.1 hl3).1⟩
      have keep : ∀ (W3 : World) (o : Obj), Keeps (fun r => S r ∨ r = w.heap.size) (W.putObj w.heap.size (.loop { rec .ready none with state := .busy })) W3 →
          o = .loop (rec .ready none) → Keeps S W (W3.putObj w.heap.size o) := fun W3 o hk3 ho => by
        refine ⟨by rw [World.putObj_size]; have := hk3.size; rw [hz2] at this; exact this, fun r hb hr => ?_⟩
        by_cases e : r = w.heap.size
        · subst e; rw [World.putObj_heap_same (Nat.lt_of_lt_of_le hlt (by have := hk3.size; rw [hz2] at this; exact this)), ho]; exact hl.symm
        · rw [World.putObj_heap_other e, hk3.block r (.inl hb) (by rw [hz2]; exact hr), World.putObj_heap_other e]
      rintro e a3 W3 hp
      cases e with
      | normal =>
        obtain ⟨hk3, hi3⟩ := hp
        obtain ⟨hr, hl3, hl4⟩ := fin none W3 hk3
        exact ⟨_, _, hr, .inl ⟨rfl, ⟨hI.put _ hi3 (Nat.le_refl _) hl3 rfl (by rfl), hl4⟩, keep W3 _ hk3 (by simp)⟩⟩
      | ret =>
        obtain ⟨hk3, hi3⟩ := hp
        obtain ⟨hr, hl3, hl4⟩ := fin (some .ret) W3 hk3
        exact ⟨_, _, hr, .inr ⟨rfl, .ret, (hIx _).put _ hi3 (Nat.le_refl _) hl3 rfl (by rfl), hl4⟩⟩
      | exit id =>
        obtain ⟨hk3, hi3⟩ := hp
        obtain ⟨hr, hl3, hl4⟩ := fin (some (.exit id)) W3 hk3
        exact ⟨_, _, hr, .inr ⟨rfl, .exit id, (hIx _).put _ hi3 (Nat.le_refl _) hl3 rfl (by rfl), hl4⟩⟩
      | goto t =>
        obtain ⟨hk3, hi3⟩ := hp
        obtain ⟨hr, hl3, hl4⟩ := fin (some (.goto t)) W3 hk3
        exact ⟨_, _, hr, .inr ⟨rfl, .goto t, (hIx _).put _ hi3 (Nat.le_refl _) hl3 rfl (by rfl), hl4⟩⟩
      | panic ch => exact hp.elim
      | outgrown => exact hp.elim
    · rintro e W2 ⟨⟨v, rfl⟩, (⟨hi, hl⟩ | ⟨k, c, hi, hl⟩)⟩
      · exact ⟨none, _, by have := run_endLoop (P := P) hl (by rw [hrec]; simp); rw [hrec] at this; exact this, hdone _ (hI.put _ hi (Nat.le_refl _) hl rfl (by rfl))⟩
      · exact ⟨some c, _, by have := run_endLoop (P := P) hl (by rw [hrec]; simp); rw [hrec] at this; exact this, hstop c k _ ((hIx c).put _ hi (Nat.le_refl _) hl rfl (by rfl))⟩
theorem Iter.inRound {gf : Nat} {lb : Array Value} {S : Nat → Prop} {B : Nat} {xs : List Value} {w : World} (l : Nat) (h : Iter F n P gf lb S B xs w) : Iter (F.inRound l) n P gf lb S B xs w := h
end Go.Lg.Cuts

set_option linter.unusedSimpArgs false
set_option linter.unusedVariables false
namespace Go.Lg.Tryz.Seq
open Go Go.Proofs Go.RowKit Go.Shelf Go.Lg.Cuts Go.Lg.Sem
attribute [local go_sem] Oper.semAt_some
def kept (b0 b1 b2 : Nat) (r : Nat) : Prop := r = b0 ∨ r = b1 ∨ r = b2 ∨ r = 2
def IterRel (b0 b1 b2 : Nat) (s sep : ByteArray) (J : Nat → World → Prop) (m : Int) (wr : World) : Prop :=
  ∃ k r, wr.heap[b0]? = some (.cells #[.string r] 9 (0, 0)) ∧ J k wr ∧ ((pieces sep s).map Value.string).drop k = (pieces sep r).map Value.string ∧ r.size ≤ s.size ∧
    wr.cell? ⟨b1, 0, none⟩ = some (.string sep) ∧ wr.cell? ⟨b2, 0, none⟩ = some (.int .i64 0) ∧ wr.cell? ⟨2, 0, none⟩ = some (.int .i64 m)
def left (b0 : Nat) (wr : World) : Nat := match wr.cell? ⟨b0, 0, none⟩ with | some (.string r) => r.size | _ => 0
theorem left_eq {b0 : Nat} {wr : World} {r : ByteArray} (h : wr.heap[b0]? = some (.cells #[.string r] 9 (0, 0))) : left b0 wr = r.size := by simp [left, World.cell?, h]
set_option maxHeartbeats 2000000 in
set_option maxRecDepth 100000 in
theorem split_iter (n : Nat) (hn : 1 ≤ n) (l b0 b1 b2 : Nat) (n1 : b1 ≠ b0) (n2 : b2 ≠ b0) (nm : 2 ≠ b0) (s sep : ByteArray) (hs : s.size < 4294967281) (h1 : 1 ≤ sep.size) (J Jx : Nat → World → Prop) (W : World)
    (hJ : HoldB b0 J) (hJx : HoldB b0 Jx)
    (hY : ∀ k W1 v, J k W1 → ((pieces sep s).map Value.string)[k]? = some v → YieldAt Fence.wide (n - 1) Tryz.prog l #[v] W1 fun e W' => (e = .returned (.bool true) ∧ J (k + 1) W' ∧ Keeps (kept b0 b1 b2) W1 W') ∨ (e = .returned (.bool false) ∧ Jx (k + 1) W'))
    (hb0 : W.heap[b0]? = some (.cells #[.string s] 9 (0, 0))) (hb1 : W.heap[b1]? = some (.cells #[.string sep] 9 (0, 0))) (hb2 : W.heap[b2]? = some (.cells #[.int .i64 0] 3 (0, 0)))
    (m : Int) (hm : W.cell? ⟨2, 0, none⟩ = some (.int .i64 m)) (h0 : J 0 W) :
    CallsIn Fence.wide n Tryz.prog 73 (#[.func (.yield l) #[] #[]] ++ #[.pointer (some ⟨b1, 0, none⟩), .pointer (some ⟨b0, 0, none⟩), .pointer (some ⟨b2, 0, none⟩)]) W fun e W' => (∃ v, e = .returned v) ∧
      (J ((pieces sep s).map Value.string).length W' ∨ ∃ k, Jx k W') := by
  refine callsIn_of_wp Tryz.func73 rfl trivial ?_ rfl
  simp only [Tryz.ntmps73, List.size_toArray, List.length_cons, List.length_nil, Nat.reduceAdd, Nat.reduceSub, Array.replicate_succ, Array.replicate_zero, List.push_toArray, List.append_toArray, List.nil_append, List.cons_append]
  have c1 : W.cell? ⟨b1, 0, none⟩ = some (.string sep) := by simp [World.cell?, hb1]
  have c1' : W.cell? ⟨b1, 0, none⟩ = some (.string sep) := c1
  have c2' : W.cell? ⟨b2, 0, none⟩ = some (.int .i64 0) := by simp [World.cell?, hb2]
  have hne : ((sep.size : Int) == 0) = false := beq_eq_false_iff_ne.2 (by omega)
  clear hb1
  gi_wp2_with fail
  gi_loopw [7] (fun _ wr => IterRel b0 b1 b2 s sep J m wr) (fun _ wr => left b0 wr)
  case atStart => exact ⟨0, s, hb0, h0, rfl, Nat.le_refl _, c1', c2', hm⟩
  case round =>
    obtain ⟨k, r, hr0, hJk, hd, hle, g1, g2, gm⟩ := hrel
    clear c1 c1' c2' hm hb0 hb2 h0
    have cr : wr.cell? ⟨b0, 0, none⟩ = some (.string r) := by simp [World.cell?, hr0]
    have fr : wr.frozen? ⟨b0, 0, none⟩ = false := by simp [World.frozen?, hr0]
    have HD := Lib.hid hd
    have HR0 := Lib.hid hr0
    have HL := Lib.hid (left_eq hr0)
    clear hd hr0
    by_cases hi : Lib.indexB r sep = -1
    · have hx : Lib.index r.data.toList sep.data.toList = -1 := hi
      have hcall := Lib.hid (Tryz.strings_Index r sep m wr (by omega) gm)
      have hp := pieces_miss sep r hi
      have HN : Hid (k + 1 = ((pieces sep s).map Value.string).length) := Lib.hid (by
        have := congrArg List.length HD.out
        rw [hp] at this; simp at this
        have hlt : k < ((pieces sep s).map Value.string).length := by rw [List.length_map]; omega
        rw [List.length_map]; omega)
      obtain ⟨fn, tmps, assign, body, hy, hR⟩ := hY k wr (.string r) hJk (by have := congrArg (fun l => l[0]?) HD.out; simpa [hp] using this)
      clear hi hp
      have HX := Lib.hid hx
      clear hx
      gi_wp2_with fail
      refine ⟨trivial, (callsIn_wide.2 hcall.out).mono ?_⟩
      rintro e w' ⟨rfl, rfl⟩
      rw [HX.out]
      gi_wp2_with fail
      refine hR.mono ?_
      rintro e W3 (⟨rfl, hJ3, hk3⟩ | ⟨rfl, hJx3⟩)
      · gi_wp2_with fail
        refine bodyPost_end (results_none rfl _ _ _) rfl ?_
        exact ⟨⟨_, rfl⟩, .inl (by rw [← HN.out]; exact hJ3)⟩
      · gi_wp2_with fail
        refine bodyPost_end (results_none rfl _ _ _) rfl ?_
        exact ⟨⟨_, rfl⟩, .inr ⟨_, hJx3⟩⟩
    · obtain ⟨i, hi', hib⟩ : ∃ i : Nat, Lib.indexB r sep = i ∧ i + sep.size ≤ r.size := (Lib.indexB_cases r sep).resolve_left hi
      have hx : Lib.index r.data.toList sep.data.toList = (i : Int) := hi'
      have hcall := Lib.hid (Tryz.strings_Index r sep m wr (by omega) gm)
      have hp := pieces_hit sep r h1 i hi'
      have HN : Hid (((pieces sep s).map Value.string).drop (k + 1) = (pieces sep (r.extract (i + sep.size) r.size)).map Value.string) := Lib.hid (by
        have := congrArg (fun l => l.drop 1) HD.out
        simp only [hp, List.map_cons, List.drop_succ_cons, List.drop_zero, List.drop_drop] at this
        rw [← this])
      have hY' := hY k wr (.string (r.extract 0 i)) hJk (by have := congrArg (fun l => l[0]?) HD.out; simpa [hp] using this)
      obtain ⟨fn, tmps, assign, body, hy, hR⟩ := hY'
      have HX := Lib.hid hx
      clear hi hi' hp hx
      gi_wp2_with fail
      refine ⟨trivial, (callsIn_wide.2 hcall.out).mono ?_⟩
      rintro e w' ⟨rfl, rfl⟩
      rw [HX.out]
      gi_wp2_with fail
      refine hR.mono ?_
      rintro e W3 (⟨rfl, hJ3, hk3⟩ | ⟨rfl, hJx3⟩)
      · have hr3 : W3.heap[b0]? = some (.cells #[.string r] 9 (0, 0)) := (hk3.block b0 (.inl rfl) (by have := (Array.getElem?_eq_some_iff.1 HR0.out).1; exact this)).trans HR0.out
        have cr3 : W3.cell? ⟨b0, 0, none⟩ = some (.string r) := by simp [World.cell?, hr3]
        have fr3 : W3.frozen? ⟨b0, 0, none⟩ = false := by simp [World.frozen?, hr3]
        have g13 := hk3.cell (p := ⟨b1, 0, none⟩) (.inr (.inl rfl)) g1
        have g23 := hk3.cell (p := ⟨b2, 0, none⟩) (.inr (.inr (.inl rfl))) g2
        have gm3 := hk3.cell (p := ⟨2, 0, none⟩) (.inr (.inr (.inr rfl))) gm
        have HR3 := Lib.hid hr3
        clear hr3 hk3
        gi_wp2_with fail
        have hrel3 : IterRel b0 b1 b2 s sep J m (W3.setCell ⟨b0, 0, none⟩ (.string (r.extract (i + sep.size) r.size))) :=
          ⟨k + 1, _, one_setCell HR3.out, hJ _ _ _ hJ3 ⟨grownBy_setCell' _ _ _, Shape.setCell _ _ _⟩, HN.out, by rw [ByteArray.size_extract]; omega,
            (World.cell?_setCell_other _ _ _ _ (by intro e; injection e with e; exact n1 e.symm)).trans g13, (World.cell?_setCell_other _ _ _ _ (by intro e; injection e with e; exact n2 e.symm)).trans g23, (World.cell?_setCell_other _ _ _ _ (by intro e; injection e with e; exact nm e.symm)).trans gm3⟩
        have hme : left b0 (W3.setCell ⟨b0, 0, none⟩ (.string (r.extract (i + sep.size) r.size))) < left b0 w' := by rw [left_eq (one_setCell HR3.out), HL.out, ByteArray.size_extract]; omega
        exact ⟨hrel3, hme⟩
      · gi_wp2_with fail
        refine bodyPost_ret (results_none rfl _ _ _) rfl ?_
        exact ⟨⟨_, rfl⟩, .inr ⟨_, hJx3⟩⟩
theorem split_Iter (n : Nat) (hn : 1 ≤ n) (s sep : ByteArray) (hs : s.size < 4294967281) (h1 : 1 ≤ sep.size) (w : World) (b0 b1 b2 : Nat) (n1 : b1 ≠ b0) (n2 : b2 ≠ b0) (nm : 2 ≠ b0)
    (a0 : w.heap[b0]? = some (.cells #[.string s] 9 (0, 0))) (a1 : w.heap[b1]? = some (.cells #[.string sep] 9 (0, 0))) (a2 : w.heap[b2]? = some (.cells #[.int .i64 0] 3 (0, 0))) (hG : Gw w) :
    Iter Fence.wide n Tryz.prog 73 #[.pointer (some ⟨b1, 0, none⟩), .pointer (some ⟨b0, 0, none⟩), .pointer (some ⟨b2, 0, none⟩)] (kept b0 b1 b2) b0 ((pieces sep s).map Value.string) w := by
  intro l J Jx W hk hJ hJx hY h0
  obtain ⟨m, hm⟩ := hG.most
  exact split_iter n hn l b0 b1 b2 n1 n2 nm s sep hs h1 J Jx W hJ hJx hY
    ((hk.block _ (.inl rfl) (Array.getElem?_eq_some_iff.1 a0).1).trans a0) ((hk.block _ (.inr (.inl rfl)) (Array.getElem?_eq_some_iff.1 a1).1).trans a1) ((hk.block _ (.inr (.inr (.inl rfl))) (Array.getElem?_eq_some_iff.1 a2).1).trans a2)
    m (hk.cell (.inr (.inr (.inr rfl))) hm) h0
end Go.Lg.Tryz.Seq

set_option linter.unusedVariables false
set_option linter.unusedSimpArgs false
namespace Go.Lg
open Go Go.RowKit Go.ChangeShapes Go.WideShapes Go.ChangeAt Go.Joins
def Mall (W : World) : Nat → Nat → Prop := fun b _ => b < W.heap.size
structure RepL (W : World) (ts : List T) (cs : List Value) : Prop where
  len : cs.length = ts.length
  one : ∀ (j : Nat) (v : Value), cs[j]? = some v → v.oneCell' = true
  rep : ∀ (j : Nat) (y : T) (v : Value), ts[j]? = some y → cs[j]? = some v → Rep W (Mall W) y v
section
variable {H : Type} {enc : TypeId × Value → H} {P : Program} {W : World}
def Opens {α : Type} (enc : TypeId × Value → H) (P : Program) (W : World) (t : TypeId) (e : α → List T) : Prop :=
  ∀ (n : Nat) (cs : List Value) (x : DataW H × List MemPlace), DataW.trod enc P W 0 (fun _ => true) true n t cs = some x → ∃ a : α, RepL W (e a) cs
theorem RepL.one_mk {v : Value} {t : T} (h : v.oneCell' = true) (hr : Rep W (Mall W) t v) : RepL W [t] [v] := by
  refine ⟨rfl, fun j u hu => ?_, fun j y u hy hu => ?_⟩
  · cases j with
    | zero => simp at hu; subst hu; exact h
    | succ j => simp at hu
  · cases j with
    | zero => simp at hu hy; subst hu; subst hy; exact hr
    | succ j => simp at hu
theorem opens_int {t : TypeId} {k : IntKind} (ht : P.underlying t = some (.int k)) : Opens enc P W t (fun z : Int => [.sc (.int k z)]) := fun n cs x h => by
  obtain ⟨z, rfl, _⟩ := DataW.trod_int ht h
  exact ⟨z, .one_mk rfl (.sc _ rfl)⟩
theorem opens_string {t : TypeId} (ht : P.underlying t = some .string) : Opens enc P W t (fun s : ByteArray => [.sc (.string s)]) := fun n cs x h => by
  obtain ⟨s, rfl, _⟩ := DataW.trod_string ht h
  exact ⟨s, .one_mk rfl (.sc _ rfl)⟩
theorem opens_slice {α : Type} [Inhabited α] {t e : TypeId} {en : α → List T} (el : α → T) (hel : ∀ a, (el a).cells = en a) (ht : P.underlying t = some (.slice e)) (hc : ∀ a, (en a).length = P.cellsOf e) (hpos : 0 < P.cellsOf e) (hd : Opens enc P W e en) :
    Opens enc P W t (fun l : List α => [.ls (l.map el)]) := fun n cs x h => by
  rcases Go.Deep.open_slice ht h with ⟨rfl, _⟩ | ⟨a, len, cap, m, n', D, Pl, rfl, hb, hl, hm, hmm, _, hx⟩
  · exact ⟨[], .one_mk rfl (.nil _ _)⟩
  · simp only [if_true] at hmm
    subst hmm
    by_cases h0 : len = 0
    · subst h0
      exact ⟨[], .one_mk rfl (.nil _ _)⟩
    obtain ⟨f, hf⟩ := Go.Deep.choose_lt (α := α × List Value) (n := len) (p := fun i v => W.cells? 0 (a.add (i * P.cellsOf e)) (P.cellsOf e) = some v.2 ∧ RepL W (en v.1) v.2) (fun i hi => by
      obtain ⟨cs', h1, h2⟩ := hx i (by omega)
      obtain ⟨v, hv⟩ := hd _ _ _ h2
      exact ⟨(v, cs'), h1, hv⟩)
    have hcell : ∀ i, i < len → ∀ j, j < P.cellsOf e → W.cell? ((a.add (i * P.cellsOf e)).add j) = (f i).2[j]? ∧ (f i).2.length = P.cellsOf e := fun i hi j hj => by
      obtain ⟨_, h3, h4⟩ := World.cells?_some (hf i hi).1
      exact ⟨h4 j hj, h3⟩
    have hspot : a.spot = none := by
      obtain ⟨h1, h2⟩ := hcell 0 (by omega) 0 hpos
      rw [Go.Deep.add_add] at h1
      have h3 : (f 0).2[0]? ≠ none := by rw [List.getElem?_eq_getElem (by omega)]; simp
      rw [← h1] at h3
      unfold World.cell? at h3
      cases hs : a.spot with
      | none => rfl
      | some q =>
        exfalso
        apply h3
        have : (a.add (0 * P.cellsOf e + 0)).spot = some q := by simp [Addr.add, hs]
        split
        · rw [this]; rfl
        · rfl
    obtain ⟨b, off, sp⟩ := a
    simp only at hspot
    subst hspot
    have hcell2 : ∀ i, i < len → ∀ j, j < P.cellsOf e → W.cell? ⟨b, off + i * P.cellsOf e + j, none⟩ = (f i).2[j]? ∧ (f i).2.length = P.cellsOf e := fun i hi j hj => by
      have := hcell i hi j hj
      rw [add_lit, add_lit] at this
      exact this
    have hlt : b < W.heap.size := by
      obtain ⟨h1, h2⟩ := hcell2 0 (by omega) 0 hpos
      rw [List.getElem?_eq_getElem (by omega)] at h1
      exact World.block_lt_of_cell? W _ h1
    refine ⟨(List.range len).map fun i => (f i).1, .one_mk rfl ?_⟩
    have hlen : (((List.range len).map fun i => (f i).1).map el).length = len := by simp
    have := Rep.ls (w := W) (M := Mall W) (((List.range len).map fun i => (f i).1).map el) b off (P.cellsOf e) m (fun i j => (f i).2.getD j undef) (by rw [hlen]; exact hl) (fun x hx => by
        obtain ⟨y, _, rfl⟩ := List.mem_map.1 hx
        rw [hel, hc]) (fun i j hi hj => hlt) (fun i j hi hj => by
        rw [hlen] at hi
        obtain ⟨h1, h2⟩ := hcell2 i hi j hj
        rw [h1, List.getD_eq_getElem?_getD, List.getElem?_eq_getElem (by omega)]; rfl) (fun i j hi hj => by
        rw [hlen] at hi
        obtain ⟨h1, h2⟩ := hcell2 i hi j hj
        have hg : (f i).2[j]? = some (f i).2[j] := List.getElem?_eq_getElem (by omega)
        rw [List.getD_eq_getElem?_getD, hg]
        exact (hf i hi).2.one j _ hg) (fun i j x y hx hy => by
        rw [List.getElem?_map, List.getElem?_map] at hx
        obtain ⟨z, hz, rfl⟩ := Option.map_eq_some_iff.1 hx
        obtain ⟨i', hi', rfl⟩ := Option.map_eq_some_iff.1 hz
        obtain ⟨hji, hi2⟩ := List.getElem?_eq_some_iff.1 hi'
        rw [List.getElem_range] at hi2
        subst hi2
        rw [List.length_range] at hji
        rw [hel] at hy
        have hj : j < P.cellsOf e := by rw [← hc]; exact (List.getElem?_eq_some_iff.1 hy).1
        obtain ⟨h1, h2⟩ := hcell2 i hji j hj
        have hg : (f i).2[j]? = some (f i).2[j] := List.getElem?_eq_getElem (by omega)
        rw [List.getD_eq_getElem?_getD, hg]
        exact (hf i hji).2.rep j y _ hy hg)
    rw [hlen] at this
    exact this
theorem RepL.app {ts us : List T} {cs ds : List Value} (h : RepL W ts cs) (k : RepL W us ds) : RepL W (ts ++ us) (cs ++ ds) := by
  refine ⟨by simp [h.len, k.len], fun j v hv => ?_, fun j y v hy hv => ?_⟩
  · rcases Nat.lt_or_ge j cs.length with hj | hj
    · rw [List.getElem?_append_left hj] at hv; exact h.one j v hv
    · rw [List.getElem?_append_right hj] at hv; exact k.one _ v hv
  · rcases Nat.lt_or_ge j cs.length with hj | hj
    · rw [List.getElem?_append_left hj] at hv
      rw [List.getElem?_append_left (by rw [← h.len]; exact hj)] at hy
      exact h.rep j y v hy hv
    · rw [List.getElem?_append_right hj] at hv
      rw [List.getElem?_append_right (by rw [← h.len]; exact hj), ← h.len] at hy
      exact k.rep _ y v hy hv
def OpensF {α : Type} (enc : TypeId × Value → H) (P : Program) (W : World) (fs : List Field) (off : Nat) (e : α → List T) : Prop :=
  ∀ (n : Nat) (cs : List Value), cs.length = off + (fs.map fun f => P.cellsOf f.type).sum → (∀ f, f ∈ fs → ∃ x, DataW.trod enc P W 0 (fun _ => true) true n f.type ((cs.drop f.offset).take (P.cellsOf f.type)) = some x) → ∃ a : α, RepL W (e a) (cs.drop off)
theorem OpensF.nil {off : Nat} : OpensF enc P W [] off (fun _ : Unit => []) := fun n cs hl _ => ⟨(), by
  rw [List.drop_of_length_le (by simp at hl; omega)]
  exact ⟨rfl, fun j v hv => by simp at hv, fun j y v hy hv => by simp at hv⟩⟩
theorem OpensF.cons {α β : Type} {f : Field} {fs : List Field} {off k : Nat} {e : α → List T} {e2 : β → List T} (ho : f.offset = off) (hk : P.cellsOf f.type = k) (hd : Opens enc P W f.type e) (h : OpensF enc P W fs (off + k) e2) :
    OpensF enc P W (f :: fs) off (fun p : α × β => e p.1 ++ e2 p.2) := fun n cs hl hx => by
  subst ho; subst hk
  obtain ⟨x, hx1⟩ := hx f (List.mem_cons_self ..)
  obtain ⟨a, ha⟩ := hd _ _ _ hx1
  obtain ⟨b, hb⟩ := h n cs (by simp at hl; omega) (fun g hg => hx g (List.mem_cons_of_mem _ hg))
  refine ⟨(a, b), ?_⟩
  have := ha.app hb
  rwa [← List.drop_drop, List.take_append_drop] at this
theorem opens_struct {α : Type} {t : TypeId} {fs : List Field} {e : α → List T} (ht : P.underlying t = some (.struct fs.toArray)) (hc : P.cellsOf t = (fs.map fun f => P.cellsOf f.type).sum) (h : OpensF enc P W fs 0 e) : Opens enc P W t e := fun n cs x hx => by
  obtain ⟨xs, n', _, _, hl, hlen, hf⟩ := DataW.trod_struct ht hx
  obtain ⟨a, ha⟩ := h n' cs (by omega) (fun f hm => by
    obtain ⟨i, hi, he⟩ := List.getElem_of_mem hm
    have h1 := hf i f (by simp [he, List.getElem?_eq_getElem hi])
    have hi2 : i < xs.length := by rw [hlen]; simpa using hi
    exact ⟨xs[i], by rw [h1]; exact List.getElem?_eq_getElem hi2⟩)
  exact ⟨a, by simpa using ha⟩
theorem Opens.map {α β : Type} {t : TypeId} {e : α → List T} {e' : β → List T} (g : α → β) (hg : ∀ a, e' (g a) = e a) (h : Opens enc P W t e) : Opens enc P W t e' := fun n cs x hx => by
  obtain ⟨a, ha⟩ := h n cs x hx
  exact ⟨g a, by rw [hg]; exact ha⟩
theorem arg_ag {α : Type} {t : TypeId} {e : α → List T} (h : Opens enc P W t e) {v : Value} {cs : Array Value} (hv : v = .agg cs) {d : DataW H} {p : List MemPlace} (ht : DataW.Trod enc P W 0 (fun _ => true) true t v d p) : ∃ a : α, Rep W (Mall W) (.ag (e a)) v := by
  subst hv
  obtain ⟨n, hn⟩ := ht
  obtain ⟨a, ha⟩ := h _ _ _ hn
  have ha : RepL W (e a) cs.toList := ha
  exact ⟨a, .ag _ _ (by simpa using ha.len) (fun i v hv => ha.one i v (by simpa using hv)) (fun i x v hx hv => ha.rep i x v hx (by simpa using hv))⟩
theorem Fn.row {G : World → Prop} {f : FuncId} {ts : List T} {r : AV} {v : Value} (hf : Fn P G f (ts.map .tr) [] (· = r)) (hr : pvA r = some v) {cargs : Array Value} (hs : cargs.size = ts.length) (ha : ∀ (i : Nat) (t : T) (u : Value), ts[i]? = some t → cargs[i]? = some u → Rep W (Mall W) t u) (hG : G W) :
    Calls P f cargs W fun e W' => e = .returned v ∧ Below W.heap.size W W' := by
  have hp : CPre P (Mall W) (fun _ _ => none) (ts.map .tr) [] cargs W :=
    { size := by simp [hs], arg := fun i x u hx hu => by
        rw [List.getElem?_map] at hx
        obtain ⟨t, ht, rfl⟩ := Option.map_eq_some_iff.1 hx
        exact .tr _ _ (ha i t u ht hu)
      blk := fun κ v h => (nomatch h), only := fun _ _ _ h => (nomatch h), inj := fun _ _ _ _ _ h => (nomatch h), lt := fun _ _ _ h => (nomatch h), mlt := fun _ _ h => h }
  refine (hf.2 (Mall W) (fun _ _ => none) W cargs hG hp).mono ?_
  rintro e w' ⟨cv, rfl, hb, M', r', o, rfl, -, -, -, -, hs⟩
  exact ⟨by rw [pvA_uniq hr hs], hb⟩
end
end Go.Lg

set_option linter.unusedVariables false
set_option linter.unusedSimpArgs false
namespace Go.Lg
open Go Go.RowKit Go.Lg.Cuts
theorem Fr.trans {w0 W W' : World} {o0 o1 : Nat → Prop} {M0 M1 : Nat → Nat → Prop} (h : Fr w0 o0 M0 W) (k : Fr W o1 M1 W') (ho : ∀ b, o1 b → o0 b ∨ w0.heap.size ≤ b) (hM : ∀ b o, M0 b o → M1 b o) : Fr w0 o0 M0 W' := {
  os := k.os.trans h.os
  tape := k.tape.trans h.tape
  output := k.output.trans h.output
  size := Nat.le_trans h.size k.size
  block := fun b hb hn => (k.block b (Nat.lt_of_lt_of_le hb h.size) (fun h1 => by rcases ho b h1 with h2 | h2; exact hn h2; omega)).trans (h.block b hb hn)
  shape := fun b cs ty z hz => by
    obtain ⟨cs1, h1, h2⟩ := h.shape b cs ty z hz
    obtain ⟨cs2, h3, h4⟩ := k.shape b cs1 ty z h1
    exact ⟨cs2, h3, h4.trans h2⟩
  keep := fun b o hb => (k.keep b o (hM b o hb)).trans (h.keep b o hb) }
mutual
def AV.refsIn (ps : List Loc) : AV → Bool
  | .ptr k _ => ps.any (fun p => p.eqb k)
  | .sl k _ _ => ps.any (fun p => p.eqb k)
  | .agg xs => refsInL ps xs
  | .tup xs => refsInL ps xs
  | .fn _ xs => refsInL ps xs
  | .blk _ xs => refsInL ps xs
  | _ => true
def refsInL (ps : List Loc) : List AV → Bool
  | [] => true
  | x :: xs => x.refsIn ps && refsInL ps xs
end
theorem refsInL_mem {ps : List Loc} : ∀ {xs : List AV} {x : AV}, refsInL ps xs = true → x ∈ xs → x.refsIn ps = true
  | y :: ys, x, h, hx => by
    simp only [refsInL, Bool.and_eq_true] at h
    rcases List.mem_cons.1 hx with rfl | hx
    · exact h.1
    · exact refsInL_mem h.2 hx
theorem refsIn_of {ps : List Loc} {κ : Loc} {v : AV} (h : Refs κ v) (hv : v.refsIn ps = true) : κ ∈ ps := by
  induction h with
  | ptr off =>
    simp only [AV.refsIn] at hv
    obtain ⟨p, hp, he⟩ := List.any_eq_true.1 hv
    exact Loc.eqb_iff.1 he ▸ hp
  | sl len cap =>
    simp only [AV.refsIn] at hv
    obtain ⟨p, hp, he⟩ := List.any_eq_true.1 hv
    exact Loc.eqb_iff.1 he ▸ hp
  | agg xs x hx _ ih => simp only [AV.refsIn] at hv; exact ih (refsInL_mem hv hx)
  | tup xs x hx _ ih => simp only [AV.refsIn] at hv; exact ih (refsInL_mem hv hx)
  | fn f xs x hx _ ih => simp only [AV.refsIn] at hv; exact ih (refsInL_mem hv hx)
  | blk ty xs x hx _ ih => simp only [AV.refsIn] at hv; exact ih (refsInL_mem hv hx)
def okS (ps : List Loc) : Store → Bool
  | [] => true
  | (l, v) :: r => (match l with
    | .s _ => !v.isOwn && v.refsIn ps
    | .l _ => v.refsIn ps
    | .e _ => false) && okS ps r
theorem okS_lk {ps : List Loc} {l : Loc} {v : AV} : ∀ {m : Store}, okS ps m = true → lk m l = some v → v.refsIn ps = true ∧ (∀ t, l = .s t → v.isOwn = false) ∧ ∀ j, l ≠ .e j
  | (k, u) :: r, h, hl => by
    simp only [okS, Bool.and_eq_true] at h
    rw [lk_cons] at hl
    split at hl
    · rename_i e; subst e
      obtain rfl := Option.some.inj hl
      cases k with
      | s t => simp only [Bool.and_eq_true, Bool.not_eq_true'] at h; exact ⟨h.1.2, fun _ _ => h.1.1, (fun j e => nomatch e)⟩
      | l t => exact ⟨h.1, (fun t e => nomatch e), (fun j e => nomatch e)⟩
      | e j => exact absurd h.1 (by simp)
    · exact okS_lk h.2 hl
def pinsB (m : Store) : List Loc → Bool
  | [] => true
  | p :: r => (match p, lk m p with
    | .l _, some (.blk _ _) => true
    | _, _ => false) && pinsB m r
theorem pinsB_at {m : Store} {κ : Loc} : ∀ {ps : List Loc}, pinsB m ps = true → κ ∈ ps → κ.isBlk = true ∧ (∃ ty cells, lk m κ = some (.blk ty cells)) ∧ ∀ j, κ ≠ .e j
  | p :: r, h, hk => by
    simp only [pinsB, Bool.and_eq_true] at h
    rcases List.mem_cons.1 hk with rfl | hk
    · have h := h.1
      split at h
      · rename_i he; exact ⟨rfl, ⟨_, _, he⟩, (fun j e => nomatch e)⟩
      · cases h
    · exact pinsB_at h.2 hk
section
variable {P : Program} {Γ : Ctx} {M : Nat → Nat → Prop} {Ow : Loc → Nat → Option Nat} {n : Nat} {m : Store} {a : Act} {w : World}
theorem Rel.filt (h : Rel P Γ M Ow n m a w) {pins : List Loc} (p : Loc → Nat → Bool) (hok : okS pins m = true) (hpin : ∀ κ, Γ.pin κ ≠ none → κ ∈ pins) (hpp : ∀ κ b, κ ∈ pins → Ow κ 0 = some b → p κ b = true)
    (hblk : ∀ κ b, lk m κ ≠ none → κ.isBlk = true → Ow κ 0 = some b → p κ b = true) (hcell : ∀ κ i b, lk m κ ≠ none → κ.isBlk = true → Ow κ (i + 1) = some b → (∃ cs ty, w.heap[b]? = some (.cells cs ty (0, 0))) → p κ b = true) :
    Rel P Γ M (fun l i => (Ow l i).filter (p l)) n m a w := by
  have up : ∀ {l i b}, (Ow l i).filter (p l) = some b → Ow l i = some b := fun e => (Option.filter_eq_some_iff.1 e).1
  have vr : ∀ {x : AV} {v : Value}, x.refsIn pins = true → VRel w M (fun κ => Ow κ 0) x v → VRel w M (fun κ => (Ow κ 0).filter (p κ)) x v := fun hx hv =>
    hv.mono (fun b o hb => ⟨hb, rfl⟩) (fun κ b _ hr e => Option.filter_eq_some_iff.2 ⟨e, hpp κ b (refsIn_of hr hx) e⟩)
  exact {
    size := h.size
    defers := h.defers
    slot := fun t v hv => by
      obtain ⟨o1, o2, _⟩ := okS_lk hok hv
      exact srel_of (vr o1 (vrel_of (h.slot t v hv) (o2 t rfl))) _
    blk := fun κ v hk hv => by
      obtain ⟨ty, cells, c, cs, rfl, ho, hc, hsz, hn, h1, h2⟩ := h.blk κ v hk hv
      have hne : lk m κ ≠ none := by rw [hv]; simp
      obtain ⟨o1, _, _⟩ := okS_lk hok hv
      refine ⟨ty, cells, c, cs, rfl, Option.filter_eq_some_iff.2 ⟨ho, hblk κ c hne hk ho⟩, hc, hsz, hn, h1, fun i y v hy hv => ?_⟩
      have h3 := h2 i y v hy hv
      have h4 : y.refsIn pins = true := refsInL_mem (by simpa only [AV.refsIn] using o1) (List.mem_of_getElem? hy)
      cases y with
      | own ty' xs =>
        obtain ⟨i', hi', hx, h5⟩ := h3
        refine ⟨i', hi', hx, ?_⟩
        rcases h5 with h5 | ⟨b, off, cap, cs', e1, rest⟩
        · exact .inl h5
        · exact .inr ⟨b, off, cap, cs', Option.filter_eq_some_iff.2 ⟨e1, hcell κ i b hne hk e1 ⟨_, _, rest.2.2.1⟩⟩, rest⟩
      | raw ty' z xs =>
        obtain ⟨i', hi', hx, h5⟩ := h3
        refine ⟨i', hi', hx, ?_⟩
        rcases h5 with h5 | ⟨b, off, cap, cs', e1, rest⟩
        · exact .inl h5
        · exact .inr ⟨b, off, cap, cs', Option.filter_eq_some_iff.2 ⟨e1, hcell κ i b hne hk e1 ⟨_, _, rest.2.2.1⟩⟩, rest⟩
      | rtup ty' z xs rest =>
        obtain ⟨cv, cs2, e0, hraw, h6, h7⟩ := h3
        obtain ⟨i', hi', hx, h5⟩ := hraw
        refine ⟨cv, cs2, e0, ⟨i', hi', hx, ?_⟩, h6, h7⟩
        rcases h5 with h5 | ⟨b, off, cap, cs', e1, rest⟩
        · exact .inl h5
        · exact .inr ⟨b, off, cap, cs', Option.filter_eq_some_iff.2 ⟨e1, hcell κ i b hne hk e1 ⟨_, _, rest.2.2.1⟩⟩, rest⟩
      | _ => exact srel_of (vr h4 (vrel_of h3 rfl)) _
    inj := fun l i l' i' b e e' => h.inj l i l' i' b (up e) (up e')
    lt := fun l i b e => h.lt l i b (up e)
    mine := fun l i b e => h.mine l i b (up e)
    mlt := h.mlt
    mold := h.mold
    mnew := h.mnew
    fr := h.fr
    pin := fun κ b hk hp => by
      have e := h.pin κ b hk hp
      exact Option.filter_eq_some_iff.2 ⟨e, hpp κ b (hpin κ (by rw [hp]; simp)) e⟩ }
def Loc.notE : Loc → Bool
  | .e _ => false
  | _ => true
theorem Rel.harm (h : Rel P Γ M Ow n m a w) {b E : Nat} {w' : World} (hh : Harm b E w w') (hds : a.defers = Γ.ds) (hE : Γ.w0.heap.size ≤ E) (hb0 : Γ.own0 b ∨ Γ.w0.heap.size ≤ b) (hbO : ∀ l i, Ow l i ≠ some b) (hbM : ∀ o, ¬ M b o) : Rel P Γ M Ow n m a w' := by
  obtain ⟨row, hg, hs, hrow⟩ := hh
  have blk_ : ∀ (c : Nat) (o : Obj), w.heap[c]? = some o → o.isCells = true → c ≠ b → w'.heap[c]? = some o := fun c o hc ho hn => by
    refine (hg.block c (Array.getElem?_eq_some_iff.1 hc).1 (fun e => ?_)).trans hc
    rcases hrow c e.symm with e1 | ⟨_, o1, o2, h1, _, h2, _⟩
    · exact hn e1
    · rw [hc] at h1; obtain rfl := Option.some.inj h1; rw [ho] at h2; cases h2
  have cell_ : ∀ c o, M c o → M c o ∧ w'.cell? ⟨c, o, none⟩ = w.cell? ⟨c, o, none⟩ := fun c o hM => ⟨hM, by
    by_cases hr : row = some c
    · rcases hrow c hr with e1 | ⟨_, o1, o2, h1, h3, h2, h4⟩
      · subst e1; exact absurd hM (hbM o)
      · unfold World.cell?
        rw [h1, h3]
        cases o1 <;> cases o2 <;> first | rfl | (cases h2; done) | (cases h4; done)
    · unfold World.cell?
      rw [hg.block c (h.mlt c o hM) (fun e => hr e.symm)]⟩
  have sr : ∀ {x : AV} {v : Value} {l : Loc} {i : Nat}, SRel P w M Ow x v (Ow l i) → SRel P w' M Ow x v (Ow l i) := fun hv =>
    hv.mono cell_ (fun κ b _ _ e => e) (fun c e => ⟨e, fun cs ty hc => blk_ c _ hc rfl (fun e' => hbO _ _ (e' ▸ e)), fun k hk => hk⟩)
  exact {
    size := h.size
    defers := ⟨[], hds, List.nodup_nil, fun D hD => by cases hD⟩
    slot := fun t v hv => sr (h.slot t v hv)
    blk := fun κ v hk hv => by
      obtain ⟨ty, cells, c, cs, rfl, ho, hc, hsz, hn, h1, h2⟩ := h.blk κ v hk hv
      exact ⟨ty, cells, c, cs, rfl, ho, blk_ c _ hc rfl (fun e => hbO _ _ (e ▸ ho)), hsz, hn, h1, fun i y v hy hv => sr (h2 i y v hy hv)⟩
    inj := h.inj
    lt := fun l i c hc => Nat.lt_of_lt_of_le (h.lt l i c hc) hg.size
    mine := h.mine
    mlt := fun c o hc => Nat.lt_of_lt_of_le (h.mlt c o hc) hg.size
    mold := h.mold
    mnew := h.mnew
    fr := {
      os := hg.os.trans h.fr.os
      tape := hg.tape.trans h.fr.tape
      output := hg.output.trans h.fr.output
      size := Nat.le_trans h.fr.size hg.size
      block := fun c hc hn => (hg.block c (Nat.lt_of_lt_of_le hc h.fr.size) (fun e => by
        rcases hrow c e.symm with e1 | ⟨h1, _⟩
        · subst e1; rcases hb0 with h2 | h2; exact hn h2; omega
        · omega)).trans (h.fr.block c hc hn)
      shape := fun c cs ty z hz => by
        obtain ⟨cs1, h1, h2⟩ := h.fr.shape c cs ty z hz
        obtain ⟨cs2, h3, h4⟩ := hs c cs1 ty z h1
        exact ⟨cs2, h3, h4.trans h2⟩
      keep := fun c o hc => (cell_ c o (h.mold c o hc)).2.trans (h.fr.keep c o hc) }
    pin := h.pin }
structure RInv (P : Program) (Γ : Ctx) (n : Nat) (m : Store) (a : Act) (Bx : Nat → Prop) (b0 : Nat) (Ds : List Nat) (W : World) (M : Nat → Nat → Prop) (Ow : Loc → Nat → Option Nat) : Prop where
  rel : Rel P { Γ with ds := a.defers } M Ow n m a W
  ow : ∀ l i b, Ow l i = some b → (∀ j, l ≠ .e j) ∧ ¬ Bx b
  mb : ∀ o, ¬ M b0 o
  ds : ∀ D, D ∈ Ds → W.heap[D]? = some (.deferred (some []))
theorem RInv.harm {Bx : Nat → Prop} {b0 : Nat} {Ds : List Nat} {W W' : World} {E : Nat} (h : RInv P Γ n m a Bx b0 Ds W M Ow) (hh : Harm b0 E W W') (hE : Γ.w0.heap.size ≤ E) (hb0 : Γ.own0 b0 ∨ Γ.w0.heap.size ≤ b0) (hB : Bx b0) (hD : ∀ D, D ∈ Ds → D < E ∧ D ≠ b0) : RInv P Γ n m a Bx b0 Ds W' M Ow where
  rel := h.rel.harm hh rfl hE hb0 (fun l i e => (h.ow l i b0 e).2 hB) h.mb
  ow := h.ow
  mb := h.mb
  ds := fun D hDm => by
    obtain ⟨row, hg, _, hrow⟩ := hh
    refine (hg.block D (Array.getElem?_eq_some_iff.1 (h.ds D hDm)).1 (fun e => ?_)).trans (h.ds D hDm)
    obtain ⟨h1, h2⟩ := hD D hDm
    rcases hrow D e.symm with e1 | ⟨e1, _⟩
    · exact h2 e1
    · omega
def OutOf (base mX m' : Store) : Prop := ∀ l v, lk mX l = some v → match l with
  | .s t => lk base (.s t) = some v
  | l => lk m' l = some v
def OutL (base : Store) : Store → Store → Prop
  | [], _ => True
  | (l, v) :: r, m' => (match l with
    | .s t => lk base (.s t) = some v
    | l => lk m' l = some v) ∧ OutL base r m'
theorem OutL.out {base : Store} : ∀ {mX m' : Store}, OutL base mX m' → OutOf base mX m'
  | (k, u) :: r, m', h, l, v, hl => by
    rw [lk_cons] at hl
    split at hl
    · rename_i e; subst e; obtain rfl := Option.some.inj hl; exact h.1
    · exact OutL.out h.2 l v hl
theorem RInv.round {G : Env} {pins : List Loc} {Bx : Nat → Prop} {b0 : Nat} {Ds : List Nat} {W : World} {S0 Sk : Store} {l : Nat} {body : Code} {Qr : Exit → Store → Prop} {t t' : Nat} {p : Value}
    (hG : Γ.G = G.st) (h : RInv P Γ n Sk a Bx b0 Ds W M Ow) (hl : ∃ r, W.heap[l]? = some (.loop r)) (hBl : Bx l) (hBW : ∀ b, Bx b → b < W.heap.size) (hp1 : p.oneCell' = true) (ht : t < n) (ht' : t' < n)
    (hDs : ∀ D, D ∈ Ds → Bx D) (hBb : Bx b0)
    (hpins : ∀ κ, Γ.pin κ ≠ none → κ ∈ pins) (hok : okS pins Sk = true) (hslots : ∀ t v, lk S0 (.s t) = some v → lk Sk (.s t) = some v)
    (hpb : pinsB Sk pins = true)
    (hbody : Tr P ⟨G.st, pins⟩ n body ((.s t', .tr (.sc p)) :: (.s t, .tr (.sc p)) :: Sk) Qr) :
    body.wpIn (FW (some l)) 0 P (fun e a' W' => ∃ m', Qr e m' ∧ Keeps (fun r => Bx r ∨ ∃ w1, Γ.G w1 ∧ r < w1.heap.size ∧ (∀ b, Γ.own0 b → w1.heap.size ≤ b) ∧ w1.heap.size ≤ Γ.w0.heap.size) W W' ∧
      ∀ mX, OutOf S0 mX m' → okS pins mX = true → ∃ M' Ow', RInv P Γ n mX a Bx b0 Ds W' M' Ow') (({ tmps := a.tmps.setIfInBounds t p, defers := [] } : Act).put (some t') p) W := by
  have hr := h.rel
  have hown : ∀ b, (∃ l i, Ow l i = some b) → Γ.own0 b ∨ Γ.w0.heap.size ≤ b := by
    rintro b ⟨l, i, e⟩
    rcases hr.mine l i b e with h1 | h1 | ⟨j, h1, _⟩
    · exact .inl h1
    · exact .inr h1
    · exact absurd h1 ((h.ow l i b e).1 j)
  have hfr : ∀ W', Fr W (fun b => ∃ l i, Ow l i = some b) M W' → Fr Γ.w0 Γ.own0 Γ.M0 W' := fun W' hf => Fr.trans hr.fr hf hown hr.mold
  obtain ⟨w1, hw1, hw2, hw3⟩ := Γ.base
  let Γ' : Ctx := {
    w0 := W, own0 := fun b => ∃ l i, Ow l i = some b, M0 := M, ro := fun _ => False, G := Γ.G
    stab := fun W' hf => Γ.stab W' (hfr W' hf)
    ds := [], rd := some l
    rl := fun l' e => by obtain rfl := Option.some.inj e; exact ⟨hl, fun ⟨l2, i, e⟩ => (h.ow l2 i _ e).2 hBl⟩
    pin := fun κ => if pins.contains κ = true then Ow κ 0 else none
    base := ⟨w1, hw1, fun b hb => by rcases hown b hb with h1 | h1; exact hw2 b h1; exact Nat.le_trans hw3 h1, Nat.le_trans hw3 hr.fr.size⟩ }
  have hΓ' : Env.ok ⟨G.st, pins⟩ Γ' := ⟨hG, fun κ hκ => by
    by_cases e : pins.contains κ = true
    · exact List.contains_iff_mem.1 e
    · exact absurd (if_neg e) hκ⟩
  have hr0 : Rel P Γ' M Ow n Sk { tmps := a.tmps, defers := [] } W := {
    size := hr.size
    defers := ⟨[], rfl, List.nodup_nil, fun D hD => by cases hD⟩
    slot := hr.slot
    blk := hr.blk
    inj := hr.inj
    lt := hr.lt
    mine := fun l i b e => .inl ⟨l, i, e⟩
    mlt := hr.mlt
    mold := fun b o hb => hb
    mnew := fun b o hb => .inl hb
    fr := ⟨rfl, rfl, rfl, Nat.le_refl _, fun _ _ _ => rfl, fun b cs ty z h => ⟨cs, h, rfl⟩, fun _ _ _ => rfl⟩
    pin := fun κ b hk hp => by
      have hp : (if pins.contains κ = true then Ow κ 0 else none) = some b := hp
      split at hp
      · exact hp
      · cases hp }
  have hr1 := (hr0.put ht (VRel.tr (.sc p) p (.sc p hp1))).put ht' (VRel.tr (.sc p) p (.sc p hp1))
  refine Go.wpIn_mono (hbody Γ' hΓ' _ W ⟨M, Ow, hr1⟩) ?_
  rintro e a' W' ⟨m', hq, M', Ow', hr'⟩
  refine ⟨m', hq, ⟨hr'.fr.size, fun r hS hlt => hr'.fr.block r hlt ?_⟩, fun mX hX hokX => ⟨M', fun l i => (Ow' l i).filter (fun _ => l.notE), ?_⟩⟩
  · rintro ⟨l2, i, e2⟩
    rcases hS with hS | ⟨w2, _, h3, h4, h5⟩
    · exact (h.ow l2 i r e2).2 hS
    · rcases hown r ⟨l2, i, e2⟩ with h6 | h6
      · have := h4 r h6; omega
      · omega
  · have hcell : ∀ b o, M b o → M' b o ∧ W'.cell? ⟨b, o, none⟩ = W.cell? ⟨b, o, none⟩ := fun b o hb => ⟨hr'.mold b o hb, hr'.fr.keep b o hb⟩
    have hbk : ∀ κ b, κ ∈ pins → Ow κ 0 = some b → Ow' κ 0 = some b := fun κ b hk e => by
      obtain ⟨h1, _, _⟩ := pinsB_at hpb hk
      exact hr'.pin κ b h1 (show (if pins.contains κ = true then Ow κ 0 else none) = some b by rw [if_pos (List.contains_iff_mem.2 hk)]; exact e)
    have hmine' : ∀ l i b, Ow' l i = some b → (∃ l i, Ow l i = some b) ∨ W.heap.size ≤ b := fun l i b e => by
      rcases hr'.mine l i b e with h1 | h1 | ⟨j, _, h1⟩
      · exact .inl h1
      · exact .inr h1
      · exact h1.elim
    have hrel : Rel P { Γ with ds := a.defers } M' Ow' n mX a W' := {
      size := hr.size
      defers := ⟨[], rfl, List.nodup_nil, fun D hD => by cases hD⟩
      slot := fun q v hv => by
        have h1 : lk S0 (.s q) = some v := hX (.s q) v hv
        have h2 := hslots q v h1
        obtain ⟨o1, o2, _⟩ := okS_lk hok h2
        have h3 := vrel_of (hr.slot q v h2) (o2 q rfl)
        exact srel_of (h3.mono hcell (fun κ b hk hrf e => hbk κ b (refsIn_of hrf o1) e)) _
      blk := fun κ v hk hv => by
        have h1 := hX κ v hv
        cases κ with
        | s q => cases hk
        | l q => exact hr'.blk _ v rfl h1
        | e q => exact hr'.blk _ v rfl h1
      inj := hr'.inj
      lt := hr'.lt
      mine := fun l i b e => by
        rcases hmine' l i b e with h1 | h1
        · rcases hown b h1 with h2 | h2
          · exact .inl h2
          · exact .inr (.inl h2)
        · exact .inr (.inl (Nat.le_trans hr.fr.size h1))
      mlt := hr'.mlt
      mold := fun b o hb => hr'.mold b o (hr.mold b o hb)
      mnew := fun b o hb => by
        rcases hr'.mnew b o hb with h1 | h1 | h1
        · exact hr.mnew b o h1
        · rcases hown b h1 with h2 | h2
          · exact .inr (.inl h2)
          · exact .inr (.inr h2)
        · exact .inr (.inr (Nat.le_trans hr.fr.size h1))
      fr := hfr W' hr'.fr
      pin := fun κ b hk hp => hbk κ b (hpins κ (by rw [show Γ.pin κ = some b from hp]; simp)) (hr.pin κ b hk hp) }
    exact {
      rel := hrel.filt (pins := pins) (fun l _ => l.notE) hokX hpins
        (fun κ b hk _ => by
          obtain ⟨_, _, h3⟩ := pinsB_at hpb hk
          cases κ with
          | e j => exact absurd rfl (h3 j)
          | _ => rfl)
        (fun κ b hne _ _ => by
          obtain ⟨v, hv⟩ := Option.ne_none_iff_exists'.1 hne
          cases κ with
          | e j => exact absurd rfl ((okS_lk hokX hv).2.2 j)
          | _ => rfl)
        (fun κ i b hne _ _ _ => by
          obtain ⟨v, hv⟩ := Option.ne_none_iff_exists'.1 hne
          cases κ with
          | e j => exact absurd rfl ((okS_lk hokX hv).2.2 j)
          | _ => rfl)
      ow := fun l i b e => by
        obtain ⟨e1, e2⟩ := Option.filter_eq_some_iff.1 e
        have h1 := hmine' l i b e1
        refine ⟨(fun j ej => by subst ej; cases e2), fun hB => ?_⟩
        rcases h1 with ⟨l2, i2, e2⟩ | h1
        · exact (h.ow l2 i2 b e2).2 hB
        · have := hBW b hB; omega
      mb := fun o hb => by
        rcases hr'.mnew b0 o hb with h1 | ⟨l2, i2, e2⟩ | h1
        · exact h.mb o h1
        · exact (h.ow l2 i2 b0 e2).2 hBb
        · have := hBW b0 hBb
          have h1 : W.heap.size ≤ b0 := h1
          omega
      ds := fun D hD => by
        refine (hr'.fr.block D (Array.getElem?_eq_some_iff.1 (h.ds D hD)).1 ?_).trans (h.ds D hD)
        rintro ⟨l2, i, e2⟩
        exact (h.ow l2 i D e2).2 (hDs D hD) }
theorem Rel.reds (h : Rel P Γ M Ow n m a w) : Rel P { Γ with ds := a.defers } M Ow n m a w := {
  size := h.size
  defers := ⟨[], rfl, List.nodup_nil, fun D hD => by cases hD⟩
  slot := h.slot
  blk := h.blk
  inj := h.inj
  lt := h.lt
  mine := h.mine
  mlt := h.mlt
  mold := h.mold
  mnew := h.mnew
  fr := h.fr
  pin := h.pin }
theorem Rel.unds {ds : List Deferred} (h : Rel P { Γ with ds := ds } M Ow n m a w) (d : List Deferred) (hd : ∃ Ds : List Nat, d = Ds.map markD ++ Γ.ds ∧ Ds.Nodup ∧ ∀ D, D ∈ Ds → Γ.w0.heap.size ≤ D ∧ w.heap[D]? = some (.deferred (some []))) : Rel P Γ M Ow n m { a with defers := d } w := {
  size := h.size
  defers := hd
  slot := h.slot
  blk := h.blk
  inj := h.inj
  lt := h.lt
  mine := h.mine
  mlt := h.mlt
  mold := h.mold
  mnew := h.mnew
  fr := h.fr
  pin := h.pin }
theorem FW.any {ro : Option Nat} {k k' : Nat} {c : Code} {Q : Exit → Act → World → Prop} (h : c.wpIn (FW ro) k P Q a w) : c.wpIn (FW ro) k' P Q a w := fun b i cs h1 h2 _ => h b i cs h1 h2 (fun d hd => by cases ro <;> cases hd)
theorem Rel.one {κ : Loc} {ty : TypeId} {v : Value} (h : Rel P Γ M Ow n m a w) (hk : κ.isBlk = true) (hl : lk m κ = some (.blk ty [.tr (.sc v)])) : ∃ b, Ow κ 0 = some b ∧ w.heap[b]? = some (.cells #[v] ty (0, 0)) ∧ ∀ o, ¬ M b o := by
  obtain ⟨ty', cells, b, cs, e, ho, hh, hsz, hn, h1, h2⟩ := h.blk κ _ hk hl
  obtain ⟨rfl, rfl⟩ : ty = ty' ∧ [AV.tr (.sc v)] = cells := by injection e with e1 e2; exact ⟨e1, e2⟩
  refine ⟨b, ho, ?_, hn⟩
  have hs1 : cs.size = 1 := hsz
  have h3 := h2 0 _ cs[0] rfl (by simp [hs1])
  have h4 : VRel w M (fun κ => Ow κ 0) (.tr (.sc v)) cs[0] := h3
  have h5 : cs[0] = v := by
    generalize cs[0] = q at h4
    cases h4 with | tr _ _ h => cases h; rfl
  rw [hh]
  congr 2
  apply Array.ext
  · simp [hs1]
  · intro i h6 h7
    obtain rfl : i = 0 := by omega
    simpa using h5
def codeOf (e : Exit) (c : Code) : Prop := (e = .ret ∧ c = .ret) ∨ (∃ id, e = .exit id ∧ c = .exit id) ∨ ∃ l, e = .goto l ∧ c = .goto l
def roundQ (pins : List Loc) (S0 : Store) (Nx : Store → Prop) (Q : Exit → Store → Prop) : Exit → Store → Prop
  | .normal, m' => Nx m'
  | .ret, m' => ∃ mX, OutL S0 mX m' ∧ okS pins mX = true ∧ Q .ret mX
  | .exit id, m' => ∃ mX, OutL S0 mX m' ∧ okS pins mX = true ∧ Q (.exit id) mX
  | .goto l, m' => ∃ mX, OutL S0 mX m' ∧ okS pins mX = true ∧ Q (.goto l) mX
  | _, _ => False
theorem Tr.range {G : Env} {g t t' : Nat} {assign body : Code} {Q : Exit → Store → Prop} {gf : FuncId} {κ0 κ1 κ2 : Loc} {s sep : ByteArray} {tst ti : TypeId} {xs : List ByteArray} {mx : Nat} (pins : List Loc) (S : Nat → Store) (inv : Nat → Prop)
    (hg : lk m (.s g) = some (.fn gf [.ptr κ1 0, .ptr κ0 0, .ptr κ2 0])) (hb0 : lk m κ0 = some (.blk tst [.tr (.sc (.string s))])) (hb1 : lk m κ1 = some (.blk tst [.tr (.sc (.string sep))])) (hb2 : lk m κ2 = some (.blk ti [.tr (.sc (.int .i64 0))]))
    (hL : (κ0.isL && κ1.isL && κ2.isL && !κ0.eqb κ1 && !κ0.eqb κ2) = true) (hmx : ∀ w, G.st w → mx < w.heap.size)
    (hit : ∀ w b0 b1 b2, G.st w → b1 ≠ b0 → b2 ≠ b0 → mx ≠ b0 → w.heap[b0]? = some (.cells #[.string s] tst (0, 0)) → w.heap[b1]? = some (.cells #[.string sep] tst (0, 0)) → w.heap[b2]? = some (.cells #[.int .i64 0] ti (0, 0)) →
      Iter Fence.wide 8 P gf #[.pointer (some ⟨b1, 0, none⟩), .pointer (some ⟨b0, 0, none⟩), .pointer (some ⟨b2, 0, none⟩)] (fun r => r = b0 ∨ r = b1 ∨ r = b2 ∨ r = mx) b0 (xs.map Value.string) w)
    (eg : ∀ args w, (callFunc gf args).run P w = .ok (.enter gf args) w) (ht : Nat.blt t n = true) (ht' : Nat.blt t' n = true)
    (hassign : ∀ (l k : Nat) (a : Act) (W : World) (K : Act → World → Prop), K (a.put (some t') (a.tmps.getD t undef)) W → assign.wpIn (FW (some l)) k P (Exit.then K fun _ _ _ => False) a W)
    (h0 : inv 0) (hs : Sub (S 0) m) (hok : ∀ k, okS pins (S k) = true) (hpb : ∀ k, pinsB (S k) pins = true) (hslots : ∀ k q v, lk (S 0) (.s q) = some v → lk (S k) (.s q) = some v)
    (hno : lk (S 0) κ0 = none ∧ lk (S 0) κ1 = none ∧ lk (S 0) κ2 = none) (hGp : G.pins.all (pins.contains ·) = true)
    (round : ∀ k p, xs[k]? = some p → inv k → Tr P ⟨G.st, pins⟩ n body ((.s t', .tr (.sc (.string p))) :: (.s t, .tr (.sc (.string p))) :: S k) (roundQ pins (S 0) (fun m' => inv (k + 1) ∧ OutL (S 0) (S (k + 1)) m') Q))
    (done : inv xs.length → Q .normal (S xs.length)) :
    Tr P G n (.rangeFunc (.tmp g) #[t] assign body) m Q := by
  intro Γ hΓ a w hrx
  obtain ⟨M, Ow, hr⟩ := hrx
  simp only [Bool.and_eq_true, Bool.not_eq_true'] at hL
  obtain ⟨⟨⟨⟨l0, l1⟩, l2⟩, l3⟩, l4⟩ := hL
  have k0 := Loc.isL_blk l0
  have k1 := Loc.isL_blk l1
  have k2 := Loc.isL_blk l2
  have hne1 : κ0 ≠ κ1 := fun e => by rw [e, Loc.eqb_self] at l3; cases l3
  have hne2 : κ0 ≠ κ2 := fun e => by rw [e, Loc.eqb_self] at l4; cases l4
  have htn : t < n := Nat.lt_of_succ_le (Nat.le_of_ble_eq_true ht)
  have htn' : t' < n := Nat.lt_of_succ_le (Nat.le_of_ble_eq_true ht')
  obtain ⟨b0, o0, c0, hM0⟩ := hr.one k0 hb0
  obtain ⟨b1, o1, c1, _⟩ := hr.one k1 hb1
  obtain ⟨b2, o2, c2, _⟩ := hr.one k2 hb2
  have n1 : b1 ≠ b0 := fun e => hne1 (hr.inj κ0 0 κ1 0 b0 o0 (e ▸ o1)).1
  have n2 : b2 ≠ b0 := fun e => hne2 (hr.inj κ0 0 κ2 0 b0 o0 (e ▸ o2)).1
  obtain ⟨w1, hw1, hw2, hw3⟩ := Γ.base
  have hGw : G.st w := by rw [← hΓ.1]; exact Γ.stab w hr.fr
  have hmx1 := hmx w1 (by rw [← hΓ.1]; exact hw1)
  have hb0m : Γ.own0 b0 ∨ Γ.w0.heap.size ≤ b0 := hr.mineL (fun j e => by rw [e] at l0; cases l0) o0
  have hmxb : mx ≠ b0 := fun e => by
    rcases hb0m with h1 | h1
    · have := hw2 b0 h1; omega
    · omega
  obtain ⟨Ds, hd1, hd2, hd3⟩ := hr.defers
  -- the closure
  obtain ⟨lb, hlb⟩ : ∃ lb : Array Value, lb = #[.pointer (some ⟨b1, 0, none⟩), .pointer (some ⟨b0, 0, none⟩), .pointer (some ⟨b2, 0, none⟩)] := ⟨_, rfl⟩
  have hfv : a.eval (.tmp g) = .func (.func gf) #[] lb := by
    have h1 : VRel w M (fun κ => Ow κ 0) (.fn gf [.ptr κ1 0, .ptr κ0 0, .ptr κ2 0]) (a.tmps.getD g undef) := hr.slot g _ hg
    show a.tmps.getD g undef = _
    generalize a.tmps.getD g undef = q at h1
    cases h1 with
    | fn _ _ cs hsz hcs =>
      congr 1
      rw [hlb]
      have at_ : ∀ (i : Nat) (κ : Loc) (b : Nat), i < 3 → ([AV.ptr κ1 0, .ptr κ0 0, .ptr κ2 0])[i]? = some (.ptr κ 0) → Ow κ 0 = some b → cs[i]? = some (.pointer (some ⟨b, 0, none⟩)) := by
        intro i κ b hi hx ho
        have hlt : i < cs.size := by rw [hsz]; exact hi
        have := hcs i _ cs[i] hx (by simp [hlt])
        rw [Array.getElem?_eq_getElem hlt]
        congr 1
        generalize cs[i] = q at this
        cases this with | ptr _ _ b' _ hb => rw [ho] at hb; obtain rfl := Option.some.inj hb; rfl
      apply Array.ext_getElem?
      intro i
      match i with
      | 0 => rw [at_ 0 κ1 b1 (by omega) rfl o1]; rfl
      | 1 => rw [at_ 1 κ0 b0 (by omega) rfl o0]; rfl
      | 2 => rw [at_ 2 κ2 b2 (by omega) rfl o2]; rfl
      | i + 3 => rw [Array.getElem?_eq_none (by rw [hsz]; simp), Array.getElem?_eq_none (by simp)]
  -- what is never touched in a round
  obtain ⟨nl, hnl⟩ : ∃ nl : Nat, nl = (match Γ.rd with | none => 2 | some _ => 1) := ⟨_, rfl⟩
  let Bx : Nat → Prop := fun b => b = b0 ∨ b = b1 ∨ b = b2 ∨ b ∈ Ds ∨ (w.heap.size ≤ b ∧ b < w.heap.size + nl)
  have hDlt : ∀ D, D ∈ Ds → D < w.heap.size ∧ D ≠ b0 := fun D hD => ⟨(Array.getElem?_eq_some_iff.1 (hd3 D hD).2).1, fun e => by
    have := (hd3 D hD).2
    rw [e, c0] at this; cases this⟩
  have notB : ∀ l i b, Ow l i = some b → (l ≠ κ0 ∧ l ≠ κ1 ∧ l ≠ κ2) → (∃ cs ty, w.heap[b]? = some (.cells cs ty (0, 0))) → ¬ Bx b := by
    rintro l i b e ⟨h1, h2, h3⟩ ⟨cs, ty, hc⟩ hB
    rcases hB with hB | hB | hB | hB | hB
    · exact h1 (hr.inj l i κ0 0 b e (hB ▸ o0)).1
    · exact h2 (hr.inj l i κ1 0 b e (hB ▸ o1)).1
    · exact h3 (hr.inj l i κ2 0 b e (hB ▸ o2)).1
    · have := (hd3 b hB).2
      rw [hc] at this; cases this
    · have := hr.lt l i b e; omega
  have hrS := (hr.sub hs).reds
  have inS : ∀ κ, lk (S 0) κ ≠ none → κ ≠ κ0 ∧ κ ≠ κ1 ∧ κ ≠ κ2 := fun κ h => ⟨fun e => h (e ▸ hno.1), fun e => h (e ▸ hno.2.1), fun e => h (e ▸ hno.2.2)⟩
  have blkCells : ∀ κ b, lk (S 0) κ ≠ none → κ.isBlk = true → Ow κ 0 = some b → ∃ cs ty, w.heap[b]? = some (.cells cs ty (0, 0)) := fun κ b hne hk e => by
    obtain ⟨v, hv⟩ := Option.ne_none_iff_exists'.1 hne
    obtain ⟨ty, cells, b', cs, _, ho, hh, _⟩ := hrS.blk κ v hk hv
    rw [e] at ho; obtain rfl := Option.some.inj ho
    exact ⟨cs, ty, hh⟩
  have hpins : ∀ κ, Γ.pin κ ≠ none → κ ∈ pins := fun κ h => List.contains_iff_mem.1 (List.all_eq_true.1 hGp κ (hΓ.2 κ h))
  classical
  have hfil := hrS.filt (pins := pins) (fun l b => l.notE && !decide (Bx b)) (hok 0) hpins
    (fun κ b hk e => by
      obtain ⟨h1, ⟨ty, cells, h2⟩, h3⟩ := pinsB_at (hpb 0) hk
      have hne : lk (S 0) κ ≠ none := by rw [h2]; simp
      have h4 : κ.notE = true := by cases κ with | e j => exact absurd rfl (h3 j) | _ => rfl
      have h5 := notB κ 0 b e (inS κ hne) (blkCells κ b hne h1 e)
      simp [h4, h5])
    (fun κ b hne hk e => by
      obtain ⟨v, hv⟩ := Option.ne_none_iff_exists'.1 hne
      have h4 : κ.notE = true := by cases κ with | e j => exact absurd rfl ((okS_lk (hok 0) hv).2.2 j) | _ => rfl
      have h5 := notB κ 0 b e (inS κ hne) (blkCells κ b hne hk e)
      simp [h4, h5])
    (fun κ i b hne hk e hc => by
      obtain ⟨v, hv⟩ := Option.ne_none_iff_exists'.1 hne
      have h4 : κ.notE = true := by cases κ with | e j => exact absurd rfl ((okS_lk (hok 0) hv).2.2 j) | _ => rfl
      have h5 := notB κ (i + 1) b e (inS κ hne) hc
      simp [h4, h5])
  have hI0 : RInv P Γ n (S 0) a Bx b0 Ds w M (fun l i => (Ow l i).filter (fun b => l.notE && !decide (Bx b))) := {
    rel := hfil
    ow := fun l i b e => by
      have h1 := (Option.filter_eq_some_iff.1 e).2
      simp only [Bool.and_eq_true, Bool.not_eq_true', decide_eq_false_iff_not] at h1
      exact ⟨fun j ej => by subst ej; exact absurd h1.1 (by simp [Loc.notE]), h1.2⟩
    mb := hM0
    ds := fun D hD => (hd3 D hD).2 }
  have hBb : Bx b0 := .inl rfl
  have hBD : ∀ D, D ∈ Ds → Bx D := fun D hD => .inr (.inr (.inr (.inl hD)))
  let I : Nat → World → Prop := fun k W => inv k ∧ ∃ M Ow, RInv P Γ n (S k) a Bx b0 Ds W M Ow
  let Ix : Code → Nat → World → Prop := fun c _ W => ∃ e mX, codeOf e c ∧ Q e mX ∧ ∃ M Ow, RInv P Γ n mX a Bx b0 Ds W M Ow
  have hI : Hold b0 w.heap.size I := fun k W W' ⟨h1, M', Ow', h2⟩ hh => ⟨h1, M', Ow', h2.harm hh hr.fr.size hb0m hBb hDlt⟩
  have hIx : ∀ c, Hold b0 w.heap.size (Ix c) := fun c k W W' ⟨e, mX, h1, h2, M', Ow', h3⟩ hh => ⟨e, mX, h1, h2, M', Ow', h3.harm hh hr.fr.size hb0m hBb hDlt⟩
  have hseq := hit w b0 b1 b2 hGw n1 n2 hmxb c0 c1 c2
  have hSlt : ∀ r, (r = b0 ∨ r = b1 ∨ r = b2 ∨ r = mx) → r < w.heap.size := by
    rintro r (rfl | rfl | rfl | rfl)
    · exact (Array.getElem?_eq_some_iff.1 c0).1
    · exact (Array.getElem?_eq_some_iff.1 c1).1
    · exact (Array.getElem?_eq_some_iff.1 c2).1
    · have := hr.fr.size; omega
  have hasg : ∀ (l k : Nat) (v : Value) (W : World) (K : Act → World → Prop), K (({ tmps := a.tmps.setIfInBounds t v, defers := [] } : Act).put (some t') v) W →
      assign.wpIn (FW (some l)) k P (Exit.then K fun _ _ _ => False) { tmps := (#[t].zip #[v]).foldl (fun t (p, v) => t.setIfInBounds p v) a.tmps, defers := [] } W := by
    intro l k v W K hK
    have e : (#[t].zip #[v]).foldl (fun t (p, v) => t.setIfInBounds p v) a.tmps = a.tmps.setIfInBounds t v := by simp
    rw [e]
    refine hassign l k _ W K ?_
    have h1 : (a.tmps.setIfInBounds t v).getD t undef = v := by
      have : t < a.tmps.size := by rw [hr.size]; exact htn
      simp [Array.getD_eq_getD_getElem?, this]
    rw [h1]; exact hK
  have hbody : ∀ (l k : Nat) (v : Value) (W : World), I k W → (xs.map Value.string)[k]? = some v → Bx l → (∀ b, Bx b → b < W.heap.size) → (∃ r, W.heap[l]? = some (.loop r)) → ∀ T : Nat → Prop, (∀ r, T r → Bx r ∨ r = mx) →
      body.wpIn (FW (some l)) 0 P (cutPost T I Ix k W) (({ tmps := a.tmps.setIfInBounds t v, defers := [] } : Act).put (some t') v) W := by
    rintro l k v W ⟨hinv, M', Ow', hRI⟩ hv hBl hBW hlp T hT
    obtain ⟨p, hp, rfl⟩ : ∃ p, xs[k]? = some p ∧ Value.string p = v := by
      rw [List.getElem?_map] at hv
      exact Option.map_eq_some_iff.1 hv
    have h1 := hRI.round (S0 := S 0) (pins := pins) (t := t) (t' := t') (p := .string p) hΓ.1 hlp hBl hBW rfl htn htn' hBD hBb hpins (hok k) (hslots k) (hpb k) (round k p hp hinv)
    refine Go.wpIn_mono h1 ?_
    rintro e a' W' ⟨m', hq, hK, hout⟩
    have hK' : Keeps T W W' := hK.mono fun r hr => by
      rcases hT r hr with h2 | rfl
      · exact .inl h2
      · exact .inr ⟨w1, hw1, hmx1, hw2, hw3⟩
    cases e with
    | normal =>
      obtain ⟨h2, h3⟩ := hq
      exact ⟨hK', h2, hout _ h3.out (hok _)⟩
    | ret => obtain ⟨mX, h2, h3, h4⟩ := hq; exact ⟨hK', .ret, mX, .inl ⟨rfl, rfl⟩, h4, hout _ h2.out h3⟩
    | exit id => obtain ⟨mX, h2, h3, h4⟩ := hq; exact ⟨hK', .exit id, mX, .inr (.inl ⟨id, rfl, rfl⟩), h4, hout _ h2.out h3⟩
    | goto q => obtain ⟨mX, h2, h3, h4⟩ := hq; exact ⟨hK', .goto q, mX, .inr (.inr ⟨q, rfl, rfl⟩), h4, hout _ h2.out h3⟩
    | panic c => exact hq.elim
    | outgrown => exact hq.elim
  have hend : ∀ (e : Exit) (c : Code) (a' : Act) (W : World) (F : Fence) (k : Nat), codeOf e c → (∃ m', Q e m' ∧ RelX P Γ n m' a' W) → c.wpIn F k P (fun e a' w' => ∃ m', Q e m' ∧ RelX P Γ n m' a' w') a' W := by
    rintro e c a' W F k (⟨rfl, rfl⟩ | ⟨id, rfl, rfl⟩ | ⟨q, rfl, rfl⟩) h
    · exact wpIn_ret h
    · exact wpIn_exit h
    · exact wpIn_goto h
  cases hrd : Γ.rd with
  | none =>
    rw [hrd] at hnl
    have hnl : nl = 2 := hnl
    refine FW.any (k := 9) (range_cuts (F := FW none) (n := 9) rfl (by omega) (gf := gf) (lb := lb) hfv trivial eg (S := fun r => r = b0 ∨ r = b1 ∨ r = b2 ∨ r = mx) (B := b0) hSlt (hSlt b0 (.inl rfl)) (by rw [hlb]; exact hseq) rfl I Ix hI hIx ⟨h0, M, _, hI0⟩ (fun v => ({ tmps := a.tmps.setIfInBounds t v, defers := [] } : Act).put (some t') v) ?_ ?_ ?_ ?_)
    · intro l v W K hK
      exact hasg _ _ v W K hK
    · intro l k v W hIk hv hsz hl hlp hmk
      subst hl
      refine FW.any (k := 0) (hbody _ k v W hIk hv (.inr (.inr (.inr (.inr ⟨by omega, by omega⟩)))) ?_ hlp _ ?_)
      · rintro b (rfl | rfl | rfl | hb | hb)
        · have := hSlt b (.inl rfl); omega
        · have := hSlt b (.inr (.inl rfl)); omega
        · have := hSlt b (.inr (.inr (.inl rfl))); omega
        · have := (hDlt b hb).1; omega
        · omega
      · rintro r ((h1 | h1 | h1 | h1) | h1 | h1)
        · exact .inl (.inl h1)
        · exact .inl (.inr (.inl h1))
        · exact .inl (.inr (.inr (.inl h1)))
        · exact .inr h1
        · exact .inl (.inr (.inr (.inr (.inr ⟨by omega, by omega⟩))))
        · exact .inl (.inr (.inr (.inr (.inr ⟨by omega, by omega⟩))))
    · rintro D W ⟨h1, M', Ow', h2⟩ hK hD
      rw [List.length_map] at h1 h2
      refine ⟨_, done h1, M', Ow', h2.rel.unds _ ⟨D :: Ds, by rw [hd1]; rfl, List.nodup_cons.2 ⟨fun hm => by have := (hDlt D hm).1; omega, hd2⟩, fun D' hD' => ?_⟩⟩
      rcases List.mem_cons.1 hD' with rfl | hD'
      · exact ⟨Nat.le_trans hr.fr.size hD, hK⟩
      · exact ⟨(hd3 D' hD').1, h2.ds D' hD'⟩
    · rintro D c k W ⟨e, mX, h1, h3, M', Ow', h2⟩ hK hD
      refine hend e c _ W _ _ h1 ⟨mX, h3, M', Ow', h2.rel.unds _ ⟨D :: Ds, by rw [hd1]; rfl, List.nodup_cons.2 ⟨fun hm => by have := (hDlt D hm).1; omega, hd2⟩, fun D' hD' => ?_⟩⟩
      rcases List.mem_cons.1 hD' with rfl | hD'
      · exact ⟨Nat.le_trans hr.fr.size hD, hK⟩
      · exact ⟨(hd3 D' hD').1, h2.ds D' hD'⟩
  | some lo =>
    rw [hrd] at hnl
    have hnl : nl = 1 := hnl
    obtain ⟨⟨r0, hr0⟩, hno0⟩ := Γ.rl lo hrd
    have hr0' : w.heap[lo]? = some (.loop r0) := (hr.fr.block lo (Array.getElem?_eq_some_iff.1 hr0).1 hno0).trans hr0
    refine FW.any (k := 9) (range_cutsN (F := FW (some lo)) (n := 9) (l₀ := lo) (r₀ := r0) rfl hr0' (by omega) (gf := gf) (lb := lb) hfv trivial eg (S := fun r => r = b0 ∨ r = b1 ∨ r = b2 ∨ r = mx) (B := b0) hSlt (hSlt b0 (.inl rfl)) (by rw [hlb]; exact hseq.inRound lo) rfl I Ix hI hIx ⟨h0, M, _, hI0⟩ (fun v => ({ tmps := a.tmps.setIfInBounds t v, defers := [] } : Act).put (some t') v) ?_ ?_ ?_ ?_)
    · intro l v W K hK
      exact hasg _ _ v W K hK
    · intro l k v W hIk hv hsz hl hlp
      subst hl
      refine FW.any (k := 0) (hbody _ k v W hIk hv (.inr (.inr (.inr (.inr ⟨by omega, by omega⟩)))) ?_ hlp _ ?_)
      · rintro b (rfl | rfl | rfl | hb | hb)
        · have := hSlt b (.inl rfl); omega
        · have := hSlt b (.inr (.inl rfl)); omega
        · have := hSlt b (.inr (.inr (.inl rfl))); omega
        · have := (hDlt b hb).1; omega
        · omega
      · rintro r ((h1 | h1 | h1 | h1) | h1)
        · exact .inl (.inl h1)
        · exact .inl (.inr (.inl h1))
        · exact .inl (.inr (.inr (.inl h1)))
        · exact .inr h1
        · exact .inl (.inr (.inr (.inr (.inr ⟨by omega, by omega⟩))))
    · rintro W ⟨h1, M', Ow', h2⟩
      rw [List.length_map] at h1 h2
      exact ⟨_, done h1, M', Ow', h2.rel.unds a.defers ⟨Ds, hd1, hd2, fun D' hD' => ⟨(hd3 D' hD').1, h2.ds D' hD'⟩⟩⟩
    · rintro c k W ⟨e, mX, h1, h3, M', Ow', h2⟩
      exact hend e c _ W _ _ h1 ⟨mX, h3, M', Ow', h2.rel.unds a.defers ⟨Ds, hd1, hd2, fun D' hD' => ⟨(hd3 D' hD').1, h2.ds D' hD'⟩⟩⟩
theorem assign_move {id d x ty : Nat} {pos : String} {after : Array Edge} (l k : Nat) (a : Act) (W : World) (K : Act → World → Prop) (hK : K (a.put (some d) (a.tmps.getD x undef)) W) :
    (Code.region id #[⟨some d, .assign (.tmp x), ty, pos, after, none⟩] false).wpIn (FW (some l)) k P (Exit.then K fun _ _ _ => False) a W := by
  refine wpIn_region_lit ?_
  unfold wpListIn
  rw [if_pos (by simp [Region.wanted])]
  refine ⟨fun _ _ => trivial, ?_⟩
  have hrun : (execOp a.eval (⟨some d, .assign (.tmp x), ty, pos, after, none⟩ : Oper)).run P W = .ok (.value (a.tmps.getD x undef)) W := rfl
  rw [show (FW (some l)).round = some l from rfl, semAt_of (some l) hrun (fun d e => by cases e), Oper.uponIn_value]
  exact hK
end
end Go.Lg

set_option linter.unusedVariables false
set_option linter.unusedSimpArgs false
namespace Go.Lg
open Go Go.RowKit
section
variable {P : Program} {G : Env} {n : Nat} {tab : Tab} {m : Store}
theorem Sq.spec {ops l : List Oper} {o : Oper} {r : R} {K : Store → Prop} (hg : gOk m ops o.guard = true) (h : OSpec P n o m r) (hf : (freshB r.1 m && pinB r.1 G.pins) = true) (k : Sq P G n ops l (r.2.2 ++ m) K) : Sq P G n ops (o :: l) m K := by
  rw [Bool.and_eq_true] at hf
  refine Sq.step (fr := r.1) ?_ (pinB_eq hf.2) k
  rintro Γ a w hpn ⟨M, Ow, hr⟩
  rw [if_pos (wanted_of hg hr)]
  exact h.act m h.here (freshB_eq hf.1) Γ a w hpn ⟨M, Ow, hr⟩
theorem Rel.putsl {Γ : Ctx} {M : Nat → Nat → Prop} {Ow : Loc → Nat → Option Nat} {a : Act} {w w' : World} (hr : Rel P Γ M Ow n m a w) {d : Nat} (hd : d < n) (hpn : Γ.pin (.l d) = none) (hf : refsM (.l d) m = false) {e : TypeId} {cells : List AV} {carr : Array Value} {len cap : Nat}
    (hbel : Below w.heap.size w w') (hnew : w'.heap[w.heap.size]? = some (.cells carr e (0, 0))) (hs : carr.size = cells.length) (h1 : ∀ (k : Nat) (u : Value), carr[k]? = some u → u.oneCell' = true)
    (hc : ∀ (i : Nat) (y : AV) (v : Value), cells[i]? = some y → carr[i]? = some v → SRel P w M Ow y v none) (hrc : refsL (.l d) cells = false) (hlc : len ≤ cap) :
    RelX P Γ n ((.s d, .sl (.l d) len cap) :: (.l d, .blk e cells) :: m) (a.put (some d) (.slice (some ⟨w.heap.size, 0, none⟩) len cap)) w' := by
  have h1' := hr.ext (w' := w') (M' := M) hbel (fun _ _ h => h) (fun _ _ h => .inl h) (fun b o hm => Nat.lt_of_lt_of_le (hr.mlt b o hm) hbel.size)
  have h2 := h1'.addblk (κ := .l d) rfl hpn hf (b := w.heap.size) hnew (fun l i e => absurd (hr.lt l i _ e) (Nat.lt_irrefl _)) hr.fr.size (fun o hm => absurd (hr.mlt _ _ hm) (Nat.lt_irrefl _)) hs h1 (fun i y v hy hv =>
    (hc i y v hy hv).mono (fun b o hm => ⟨hm, hbel.cell (p := ⟨b, o, none⟩) (hr.mlt b o hm)⟩) (fun κ b _ _ e => e) (fun b e => by cases e)) hrc
  exact ⟨_, _, h2.put hd (.sl (.l d) len cap w.heap.size rfl (by simp) hlc)⟩
def evBSl (tab : Tab) (m : Store) (d t len : Nat) (parts : List (Nat × Operand)) : Option R := match tlk tab t with
  | some ⟨_, _, .slice e, _⟩ => match tlk tab e with
    | some ⟨es, _, _, zs⟩ => match Nat.ble (len * es) 16777216, Nat.beq zs.length es, Nat.beq (len * es) 0 with
      | true, true, false => repK len zs fun cs => fillK m (fun i => some (i * es, es)) parts cs [] fun cells rs => match refsL (.l d) cells with
        | false => some ([.l d], rs, [(.s d, .sl (.l d) len len), (.l d, .blk e cells)])
        | true => none
      | _, _, _ => none
    | none => none
  | _ => none
theorem evBSl_ok {o : Oper} {d t len : Nat} {r : R} {parts : Array (Nat × Operand)} (hT : TabOk P tab) (hd : d < n) (hdst : o.dst = some d) (hop : ∀ (ρ : Operand → Value), execOp ρ o = (do pure (.value (← Instr.buildSlice t len (parts.map fun (i, x) => (i, ρ x)))))) (h : evBSl tab m d t len parts.toList = some r) : OSpec P n o m r := by
  unfold evBSl at h
  split at h
  · rename_i sz0 by0 e zs0 ht
    split at h
    · rename_i es by1 kind zs he
      split at h
      · rename_i hs1 hs2 hs3
        have hsm : len * es ≤ 16777216 := Nat.le_of_ble_eq_true hs1
        have hzl : zs.length = es := Nat.eq_of_beq_eq_true hs2
        have hne : len * es ≠ 0 := fun e => by rw [e] at hs3; cases hs3
        obtain ⟨ie, hie, hisz, _, _, ho, z, hz, hzs⟩ := hT.info he
        have hisz : ie.size = es := hisz
        obtain ⟨z1, z2, z3, z4⟩ := zsOk_all hzs ho
        have hzsz : z.cells.size = es := by rw [← hzl, z1]; simp
        have hes0 : es ≠ 0 := fun e => hne (by rw [e, Nat.mul_zero])
        obtain ⟨cs, h1, h2, h3⟩ := repK_eq h
        obtain ⟨cells', rs', h4, h5, h6⟩ := fillK_eq h1
        split at h4
        · rename_i hrc
          obtain rfl := Option.some.inj h4
          refine ⟨h5 trivial, fun m' hs hf => OAct.ofp fun Γ M Ow a w hpn hr => ?_⟩
          have hp : PFit P w M Ow cs ((Array.range (len * es)).map (z.cells[· % z.cells.size]!)) := by
            have at_ : ∀ {i : Nat} {u : Value}, ((Array.range (len * es)).map (z.cells[· % z.cells.size]!))[i]? = some u → i < len * es ∧ z.cells.toList[i % es]? = some u := by
              intro i u hu
              rw [Array.getElem?_map] at hu
              obtain ⟨j, hj, rfl⟩ := Option.map_eq_some_iff.1 hu
              have hil : i < len * es := by
                rcases Nat.lt_or_ge i (len * es) with h | h
                · exact h
                · rw [Array.getElem?_eq_none (by simpa using h)] at hj; cases hj
              have : j = i := by
                rw [Array.getElem?_eq_getElem (by simpa using hil)] at hj
                simpa using (Option.some.inj hj).symm
              subst this
              refine ⟨hil, ?_⟩
              have hm : j % es < z.cells.size := by rw [hzsz]; exact Nat.mod_lt _ (by omega)
              rw [hzsz]
              simp [hm]
            refine ⟨by simp [h2, hzl], ?_, ?_⟩
            · intro i u hu; exact z3 _ u (at_ hu).2
            · intro i y u hy hu
              obtain ⟨hil, hu'⟩ := at_ hu
              rw [h3 i (by rw [hzl]; exact hil), hzl] at hy
              exact z4 w M Ow _ y u hy hu'
          obtain ⟨carr', e1, e2⟩ := (h6 m' hs).2 P Γ M Ow n a w hr _ hp
          have hu := hT.slice ht rfl
          refine ⟨.slice (some ⟨w.heap.size, 0, none⟩) len len, w.alloc (.cells carr' e), ?_, ?_⟩
          · rw [hop]
            have := run_buildSlice (P := P) w t e len (parts.map fun (i, x) => (i, a.eval x)) carr' ie z hu hie hz (by rw [hisz]; omega) (by rw [hisz]; exact hne) (by rw [hisz]; simpa using e1)
            rw [Sem.run_bind, this]; rfl
          · rw [hdst]
            exact hr.putsl hd (hpn _ (by simp)) (hf _ (by simp)) (below_alloc w (.cells carr' e)) (alloc_at w _) e2.1 e2.2.1 e2.2.2 hrc (Nat.le_refl _)
        · cases h4
      · cases h
    · cases h
  · cases h
def evBSl' (tab : Tab) (n : Nat) (ops : List Oper) (o : Oper) (m : Store) : Option R := match o.op, o.dst, gOk m ops o.guard with
  | .buildSlice t len ps, some d, true => match Nat.blt d n with
    | true => evBSl tab m d t len ps.toList
    | false => none
  | _, _, _ => none
theorem Sq.buildSl {ops l : List Oper} {o : Oper} {r : R} {m' : Store} {K : Store → Prop} (hT : TabOk P tab) (h : evBSl' tab n ops o m = some r) (hm : r.2.2 ++ m = m') (hf : (freshB r.1 m && pinB r.1 G.pins) = true) (k : Sq P G n ops l m' K) : Sq P G n ops (o :: l) m K := by
  subst hm
  obtain ⟨dst, op, type, pos, after, guard⟩ := o
  unfold evBSl' at h
  simp only at h
  split at h
  · rename_i t len ps d' hgd
    split at h
    · rename_i hlt
      exact Sq.spec hgd (evBSl_ok (o := ⟨some d', .buildSlice t len ps, type, pos, after, guard⟩) hT (Nat.lt_of_succ_le (Nat.le_of_ble_eq_true hlt)) rfl (fun ρ => rfl) h) hf k
    · cases h
  · cases h
def evLenS (tab : Tab) (n : Nat) (ops : List Oper) (o : Oper) (m : Store) : Option (Nat × Nat) := match o.op, o.dst, gOk m ops o.guard with
  | .call ⟨.builtin .len, ⟨[x]⟩, ⟨[t]⟩⟩, some d, true => match Nat.blt d n, tlk tab t, opV m x with
    | true, some ⟨_, _, .slice _, _⟩, some (.sl _ len _) => some (len, d)
    | _, _, _ => none
  | _, _, _ => none
theorem sl_eval {x : Operand} {κ : Loc} {len cap : Nat} {w : World} {M : Nat → Nat → Prop} {Ow : Loc → Nat → Option Nat} {a : Act} {o : Option Nat} (h : SRel P w M Ow (.sl κ len cap) (a.eval x) o) :
    ∃ b, κ.isBlk = true ∧ Ow κ 0 = some b ∧ len ≤ cap ∧ a.eval x = .slice (some ⟨b, 0, none⟩) len cap := by
  have h : VRel w M (fun κ => Ow κ 0) (.sl κ len cap) (a.eval x) := h
  generalize a.eval x = q at h
  cases h with | sl _ _ _ b hk hb hc => exact ⟨b, hk, hb, hc, rfl⟩
theorem len_run {o : Oper} {t et : TypeId} {x : Operand} {a : Act} {ad : Option Addr} {len cap : Nat} (hu : P.underlying t = some (.slice et)) (hop : ∀ (ρ : Operand → Value), execOp ρ o = (do pure (.value (← Builtin.len_ #[t] o.type #[ρ x])))) (e : a.eval x = .slice ad len cap) (w : World) :
    (execOp a.eval o).run P w = .ok (.value (.int .i64 (len : Int))) w := by
  rw [hop, e]; simp [Builtin.len_, run_underlying hu, goInt]
theorem Sq.lenS {ops l : List Oper} {o : Oper} {len d : Nat} {K : Store → Prop} (hT : TabOk P tab) (h : evLenS tab n ops o m = some (len, d)) (k : Sq P G n ops l ((.s d, .tr (.sc (.int .i64 (len : Int)))) :: m) K) : Sq P G n ops (o :: l) m K := by
  obtain ⟨dst, op, type, pos, after, guard⟩ := o
  unfold evLenS at h
  simp only at h
  split at h
  · rename_i x t d' hgd
    split at h
    · rename_i e _ κ len' cap hlt ht hv
      simp only [Option.some.injEq, Prod.mk.injEq] at h
      obtain ⟨rfl, rfl⟩ := h
      refine Sq.do hgd (fun Γ M Ow a w hr => ?_) k
      obtain ⟨q, hq⟩ := opV_ok hv hr
      obtain ⟨b, _, _, _, e⟩ := sl_eval hq
      have hu := hT.slice ht rfl
      exact ⟨.int .i64 (len' : Int), w, len_run hu (fun ρ => by simp [execOp, resolve, invoke, builtin]) e w, M, Ow, hr.put (Nat.lt_of_succ_le (Nat.le_of_ble_eq_true hlt)) (.tr _ _ (.sc _ rfl))⟩
    · cases h
  · cases h
def evIdxS (tab : Tab) (n : Nat) (ops : List Oper) (o : Oper) (m : Store) : Option (Loc × Nat × Nat × Int × Nat) := match o.op, o.dst, gOk m ops o.guard with
  | .indexAddr t x i, some d, true => match Nat.blt d n, tlk tab t with
    | true, some ⟨_, _, .slice e, _⟩ => match tlk tab e, opV m x, opV m i with
      | some ⟨es, _, _, _⟩, some (.sl κ len _), some (.tr (.sc (.int _ j))) => some (κ, len, es, j, d)
      | _, _, _ => none
    | _, _ => none
  | _, _, _ => none
theorem Sq.indexS {ops l : List Oper} {o : Oper} {κ : Loc} {len es d : Nat} {j : Int} {K : Store → Prop} (hT : TabOk P tab) (h : evIdxS tab n ops o m = some (κ, len, es, j, d)) (h0 : 0 ≤ j) (hj : j < len)
    (k : Sq P G n ops l ((.s d, .ptr κ (j.toNat * es)) :: m) K) : Sq P G n ops (o :: l) m K := by
  obtain ⟨dst, op, type, pos, after, guard⟩ := o
  unfold evIdxS at h
  simp only at h
  split at h
  · rename_i t ox oi d' hgd
    split at h
    · rename_i e _ hlt ht
      split at h
      · rename_i es' _ _ _ κ' len' cap ik j' he hv hi
        simp only [Option.some.injEq, Prod.mk.injEq] at h
        obtain ⟨rfl, rfl, rfl, rfl, rfl⟩ := h
        refine Sq.do hgd (fun Γ M Ow a w hr => ?_) k
        obtain ⟨q1, hq1⟩ := opV_ok hv hr
        obtain ⟨q2, hq2⟩ := opV_ok hi hr
        have e2 := (sc_eval (Γ := Γ) hq2).1
        obtain ⟨b, hk, hb, _, e1⟩ := sl_eval hq1
        obtain ⟨ie, hie, hsz, _⟩ := hT.info he
        have hsz : ie.size = es' := hsz
        have hu := hT.slice ht rfl
        have hin : 0 ≤ j' ∧ j' < (len' : Int) := ⟨h0, hj⟩
        refine ⟨.pointer (some ⟨b, j'.toNat * es', none⟩), w, ?_, M, Ow, hr.put (Nat.lt_of_succ_le (Nat.le_of_ble_eq_true hlt)) (.ptr κ' _ b hk hb)⟩
        simp [execOp, e1, e2, Instr.indexAt, asIntOf, run_underlying hu, hin, sizeOf, typeInfo, hie, hsz, add_lit]
      · cases h
    · cases h
  · cases h
def evNilC (n : Nat) (ops : List Oper) (o : Oper) (m : Store) : Option (Loc × Nat × Nat) := match o.op, o.dst, gOk m ops o.guard with
  | .nilCheck x, some d, true => match Nat.blt d n, opV m x with
    | true, some (.ptr κ off) => some (κ, off, d)
    | _, _ => none
  | _, _, _ => none
theorem Sq.nilC {ops l : List Oper} {o : Oper} {κ : Loc} {off d : Nat} {K : Store → Prop} (h : evNilC n ops o m = some (κ, off, d)) (k : Sq P G n ops l ((.s d, .ptr κ off) :: m) K) : Sq P G n ops (o :: l) m K := by
  obtain ⟨dst, op, type, pos, after, guard⟩ := o
  unfold evNilC at h
  simp only at h
  split at h
  · rename_i x d' hgd
    split at h
    · rename_i κ' off' hlt hv
      simp only [Option.some.injEq, Prod.mk.injEq] at h
      obtain ⟨rfl, rfl, rfl⟩ := h
      refine Sq.do hgd (fun Γ M Ow a w hr => ?_) k
      obtain ⟨q1, hq1⟩ := opV_ok hv hr
      obtain ⟨b, hk, hb, e1⟩ := opK_ptr (v := .unk) (Γ := Γ) (rs := []) hq1
      exact ⟨.pointer (some ⟨b, off', none⟩), w, by simp [execOp, e1, Instr.sureAddr], M, Ow, hr.put (Nat.lt_of_succ_le (Nat.le_of_ble_eq_true hlt)) (.ptr κ' _ b hk hb)⟩
    · cases h
  · cases h
def evLoadS (tab : Tab) (n : Nat) (ops : List Oper) (o : Oper) (m : Store) : Option (List AV × Nat × Nat) := match o.op, o.dst, gOk m ops o.guard with
  | .load t (.tmp p), some d, true => match Nat.blt d n, tlk tab t, lk m (.s p) with
    | true, some ⟨_, _, kind, _⟩, some (.ptr κ off) => match kind.agg, lk m κ with
      | false, some (.blk _ cells) => some (cells, off, d)
      | _, _ => none
    | _, _, _ => none
  | _, _, _ => none
theorem Sq.loadS {ops l : List Oper} {o : Oper} {cells : List AV} {off d : Nat} {v : AV} {K : Store → Prop} (hT : TabOk P tab) (h : evLoadS tab n ops o m = some (cells, off, d)) (hv : cells[off]? = some v) (k : Sq P G n ops l ((.s d, v.deg) :: m) K) : Sq P G n ops (o :: l) m K := by
  obtain ⟨dst, op, type, pos, after, guard⟩ := o
  unfold evLoadS at h
  simp only at h
  split at h
  · rename_i t p d' hgd
    split at h
    · rename_i kind _ κ off' hlt ht hp
      split at h
      · rename_i ty cells' hagg hκ
        simp only [Option.some.injEq, Prod.mk.injEq] at h
        obtain ⟨rfl, rfl, rfl⟩ := h
        refine Sq.do hgd (fun Γ M Ow a w hr => ?_) k
        obtain ⟨b, hk, hb, e1⟩ := opK_ptr (x := .tmp p) (a := a) (o := Ow (.s p) 0) (v := .unk) (Γ := Γ) (rs := []) (hr.slot p _ hp)
        obtain ⟨ty0, cells0, b0, cs, e0, ho, hh, hs', hn, h1, hcs⟩ := hr.blk κ _ hk hκ
        obtain ⟨rfl, rfl⟩ : ty = ty0 ∧ cells' = cells0 := by injection e0 with e1 e2; exact ⟨e1, e2⟩
        obtain rfl : b = b0 := by rw [hb] at ho; exact Option.some.inj ho
        have hlt2 : off' < cs.size := by
          rw [hs']
          rcases Nat.lt_or_ge off' cells'.length with h | h
          · exact h
          · rw [List.getElem?_eq_none h] at hv; cases hv
        have hcell : w.cell? ⟨b, off', none⟩ = some cs[off'] := by simp [World.cell?, hh, hlt2]
        have hrun := run_loadVar_one hT ht hagg hcell
        have := deg_vrel (hcs off' v cs[off'] hv (by simp [hlt2]))
        exact ⟨cs[off'], w, by simp only [execOp]; rw [e1, Sem.run_bind, hrun]; rfl, M, Ow, hr.put (Nat.lt_of_succ_le (Nat.le_of_ble_eq_true hlt)) this⟩
      · cases h
    · cases h
  · cases h
def oneAV : AV → Bool
  | .tr (.sc _) => true
  | .tr (.ls _) => true
  | .ptr _ _ => true
  | .sl _ _ _ => true
  | .fn _ _ => true
  | _ => false
theorem oneAV_ok {v : AV} (h : oneAV v = true) {w : World} {M : Nat → Nat → Prop} {bk : Loc → Option Nat} {cv : Value} (hv : VRel w M bk v cv) : cv.oneCell' = true ∧ v.isOwn = false := by
  unfold oneAV at h
  split at h
  · cases hv with | tr _ _ h => cases h with | sc _ h => exact ⟨h, rfl⟩
  · cases hv with | tr _ _ h => cases h <;> exact ⟨rfl, rfl⟩
  · cases hv; exact ⟨rfl, rfl⟩
  · cases hv; exact ⟨rfl, rfl⟩
  · cases hv; exact ⟨rfl, rfl⟩
  · cases h
def evStoreS (tab : Tab) (n : Nat) (ops : List Oper) (o : Oper) (m : Store) : Option (Loc × TypeId × List AV × Nat × AV) := match o.op, o.dst, gOk m ops o.guard with
  | .store t (.tmp p) x, none, true => match tlk tab t, lk m (.s p), opV m x with
    | some ⟨1, _, _, _⟩, some (.ptr κ off), some v => match κ.isL, lk m κ, oneAV v.deg with
      | true, some (.blk ty cells), true => some (κ, ty, cells, off, v.deg)
      | _, _, _ => none
    | _, _, _ => none
  | _, _, _ => none
theorem Sq.storeS {ops l : List Oper} {o : Oper} {κ : Loc} {ty : TypeId} {cells : List AV} {off : Nat} {v : AV} {K : Store → Prop} (hT : TabOk P tab) (h : evStoreS tab n ops o m = some (κ, ty, cells, off, v)) (hlt : off < cells.length)
    (k : Sq P G n ops l ((κ, .blk ty (cells.set off v)) :: m) K) : Sq P G n ops (o :: l) m K := by
  obtain ⟨dst, op, type, pos, after, guard⟩ := o
  unfold evStoreS at h
  simp only at h
  split at h
  · rename_i t p x hgd
    split at h
    · rename_i _ _ _ κ' off' v' ht hp hx
      split at h
      · rename_i ty' cells' hL hκ hone
        simp only [Option.some.injEq, Prod.mk.injEq] at h
        obtain ⟨rfl, rfl, rfl, rfl, rfl⟩ := h
        refine Sq.step (m' := (κ', .blk ty' (cells'.set off' v'.deg)) :: m) (fr := []) ?_ (fun κ h => by cases h) k
        rintro Γ a w hpn ⟨M, Ow, hr⟩
        rw [if_pos (wanted_of hgd hr)]
        refine OAct.of_skip (fr := []) (fun Γ M Ow a w hr => ?_) Γ a w hpn ⟨M, Ow, hr⟩
        obtain ⟨b, hk, hb, e1⟩ := opK_ptr (x := .tmp p) (a := a) (o := Ow (.s p) 0) (v := .unk) (Γ := Γ) (rs := []) (hr.slot p _ hp)
        obtain ⟨ty0, cells0, b0, cs, e0, ho, hh, hs', hn, h1, hcs⟩ := hr.blk κ' _ hk hκ
        obtain ⟨rfl, rfl⟩ : ty' = ty0 ∧ cells' = cells0 := by injection e0 with e1 e2; exact ⟨e1, e2⟩
        obtain rfl : b = b0 := by rw [hb] at ho; exact Option.some.inj ho
        obtain ⟨q, hq⟩ := opV_ok hx hr
        have hv := deg_vrel hq
        obtain ⟨o1, o2⟩ := oneAV_ok hone hv
        have hcl := one_cells o1
        obtain ⟨c1, c2, c3⟩ := one_rel hv o1
        have hst := run_store_at (off := off') hT ht hh (v := a.eval x) (by rw [hcl]; rfl) (by simp; omega) c2
        refine ⟨_, by simp only [execOp]; rw [e1, Sem.run_bind, hst]; rfl, ?_⟩
        have hwr := hr.write (vs := [v'.deg]) hL hκ (off := off') hb hh hs' (by simp; omega) c1 c2 (fun i y u hy hu => srel_of (c3 i y u hy hu) _)
        have e : cells'.take off' ++ [v'.deg] ++ cells'.drop (off' + [v'.deg].length) = cells'.set off' v'.deg := by
          rw [List.set_eq_take_append_cons_drop, if_pos hlt]; simp
        rw [e] at hwr
        exact ⟨M, Ow, hwr⟩
      · cases h
    · cases h
  · cases h
def delL (κ : Loc) : Store → Store
  | [] => []
  | (l, v) :: r => match l.eqb κ with
    | true => delL κ r
    | false => (l, v) :: delL κ r
theorem lk_del {κ : Loc} : ∀ {m : Store} {l : Loc}, lk (delL κ m) l = if l = κ then none else lk m l
  | [], l => by simp [delL, lk]
  | (k, v) :: r, l => by
    simp only [delL]
    cases h : k.eqb κ with
    | true =>
      obtain rfl := Loc.eqb_iff.1 h
      simp only
      rw [lk_del, lk_cons]
      split
      · rfl
      · rename_i h2; rw [if_neg (fun e => h2 e.symm)]
    | false =>
      simp only
      rw [lk_cons, lk_cons, lk_del]
      split
      · rename_i e; subst e
        rw [if_neg (fun e => by rw [e, Loc.eqb_self] at h; cases h)]
      · rfl
theorem Rel.addM {Γ : Ctx} {M : Nat → Nat → Prop} {Ow : Loc → Nat → Option Nat} {a : Act} {w : World} (h : Rel P Γ M Ow n m a w) {κ : Loc} {b N : Nat} (hL : κ.isL = true) (hb : Ow κ 0 = some b) (hno : lk m κ = none) :
    Rel P Γ (fun c o => M c o ∨ (c = b ∧ o < N)) Ow n m a w := by
  have sr : ∀ {l : Loc} {i : Nat} {x : AV} {v : Value}, (l ≠ κ ∨ i ≠ 0) → SRel P w M Ow x v (Ow l i) → SRel P w (fun c o => M c o ∨ (c = b ∧ o < N)) Ow x v (Ow l i) := fun hne hv =>
    hv.mono (fun c o hc => ⟨.inl hc, rfl⟩) (fun _ _ _ _ e => e) (fun c e => ⟨e, fun cs ty hc => hc, fun k hk => by
      rcases hk with hk | ⟨rfl, _⟩
      · exact hk
      · have := h.inj _ _ _ _ _ e hb
        rcases hne with h1 | h1
        · exact absurd this.1 h1
        · exact absurd this.2 h1⟩)
  exact {
    size := h.size
    defers := h.defers
    slot := fun t v hv => sr (.inl (fun e => by rw [← e] at hL; cases hL)) (h.slot t v hv)
    blk := fun κ' v hk hv => by
      obtain ⟨ty, cells, c, cs, rfl, ho, hc, hsz, hn, h1, h2⟩ := h.blk κ' v hk hv
      refine ⟨ty, cells, c, cs, rfl, ho, hc, hsz, ?_, h1, fun i y v hy hv => sr (.inr (Nat.succ_ne_zero i)) (h2 i y v hy hv)⟩
      rintro o (hM | ⟨rfl, _⟩)
      · exact hn o hM
      · have := (h.inj _ _ _ _ _ ho hb).1
        subst this; rw [hno] at hv; cases hv
    inj := h.inj
    lt := h.lt
    mine := h.mine
    mlt := fun c o hc => by
      rcases hc with hc | ⟨rfl, _⟩
      · exact h.mlt c o hc
      · exact h.lt _ _ _ hb
    mold := fun c o hc => .inl (h.mold c o hc)
    mnew := fun c o hc => by
      rcases hc with hc | ⟨rfl, _⟩
      · exact h.mnew c o hc
      · rcases h.mineL (fun j e => by rw [e] at hL; cases hL) hb with h1 | h1
        · exact .inr (.inl h1)
        · exact .inr (.inr h1)
    fr := h.fr
    pin := h.pin }
theorem Tr.turn {c : Code} {Q : Exit → Store → Prop} {m' : Store} (ht : ∀ Γ a w, RelX P Γ n m a w → RelX P Γ n m' a w) (k : Tr P G n c m' Q) : Tr P G n c m Q := fun Γ hΓ a w hr => k Γ hΓ a w (ht Γ a w hr)
theorem Sq.turn {ops l : List Oper} {K : Store → Prop} {m' : Store} (ht : ∀ Γ a w, RelX P Γ n m a w → RelX P Γ n m' a w) (k : Sq P G n ops l m' K) : Sq P G n ops l m K := fun Γ hΓ a w hr Q hQ => k Γ hΓ a w (ht Γ a w hr) Q hQ
end
end Go.Lg

set_option linter.unusedVariables false
set_option linter.unusedSimpArgs false
namespace Go.Lg.Tryz
open Go Go.Proofs Go.RowKit Go.Lib Go.Shelf Go.Lg.Sem
theorem cut_ok (s sep : ByteArray) (hs : s.size < 4294967281) : Fn Tryz.prog Gw 77 [str s, str sep] [] (· = .tup [str (toBytes (Lib.cut s.data.toList sep.data.toList).1), str (toBytes (Lib.cut s.data.toList sep.data.toList).2.1), bool (Lib.cut s.data.toList sep.data.toList).2.2]) :=
  Fn.of_calls Tryz.func77 rfl rfl rfl rfl fun w hG => by
    obtain ⟨m, hm⟩ := hG.most
    exact (Tryz.strings_Cut s sep m w hs hm).mono fun e w' ⟨he, n, hn⟩ => ⟨he, by
      subst hn; exact ⟨rfl, rfl, rfl, by simp [World.drewN], fun j hj => rfl⟩⟩
abbrev verA (r : Int × Int × Int × ByteArray × Int) : AV := .tup [.tr (verT r.1 r.2.1 r.2.2.1 r.2.2.2.1), int r.2.2.2.2]
theorem Parse_ok (s : ByteArray) (hs : s.size < 4294967281) : Fn Tryz.prog Gw 56 [str s] [] (· = verA (parseV s)) := by
  have hcut := cut_ok s ⟨#[45]⟩ hs
  have hle := cut_le s.data.toList [45]
  have hpv := parseV_eq s
  have hl := data_length s
  rw [hpv]
  clear hpv
  change Fn Tryz.prog Gw 77 [str s, str ⟨#[45]⟩] [] (· = .tup [str (toBytes (Lib.cut s.data.toList [45]).1), str (toBytes (Lib.cut s.data.toList [45]).2.1), bool (Lib.cut s.data.toList [45]).2.2]) at hcut
  have h1 : (toBytes (Lib.cut s.data.toList [45]).1).size < 4294967281 := by rw [toBytes_size]; omega
  have h2 : (toBytes (Lib.cut s.data.toList [45]).2.1).size < 4294967281 := by rw [toBytes_size]; omega
  generalize toBytes (Lib.cut s.data.toList [45]).1 = c1 at *
  generalize toBytes (Lib.cut s.data.toList [45]).2.1 = p at *
  generalize (Lib.cut s.data.toList [45]).2.2 = d at *
  have hsp := split_dot c1 h1
  have hpre := pre_ok p (by omega)
  generalize pieces dot c1 = ps at *
  have hv : pvV ps p d = if ps.length ≠ 3 ∨ (d = true ∧ preB p = false) ∨ ps.all numP = false then badV else (valP (ps.getD 0 ByteArray.empty), valP (ps.getD 1 ByteArray.empty), valP (ps.getD 2 ByteArray.empty), p, 0) := rfl
  have hne : ((((ps.map strT).length : Nat) : Int) != 3) = !decide (ps.length = 3) := by
    rw [Bool.eq_iff_iff, List.length_map]; simp; omega
  refine Fn.of tab_ok Tryz.func56 rfl (by decide) (by simp [Tryz.f56]) rfl (fun κ v h => by cases h) Gw.below ?_
  repeat' (first|refine zS ?_|refine zR ?_|refine zE tab_ok rfl rfl ?_|refine zN ?_|(refine zG rfl rfl (fun _ => ?_) fun _ => ?_)<;>refine zE tab_ok rfl rfl ?_|(refine zC rfl (fun _ => ?_) fun _ => ?_)<;>try (rename_i h; cases h; done)|refine zB ?_|refine zK ?_|refine zZ ⟨_, rfl, ?_⟩)
  refine Sq.callv rfl (hcut) ?_
  repeat' (first|refine zS ?_|refine zR ?_|refine zE tab_ok rfl rfl ?_|refine zN ?_|(refine zG rfl rfl (fun _ => ?_) fun _ => ?_)<;>refine zE tab_ok rfl rfl ?_|(refine zC rfl (fun _ => ?_) fun _ => ?_)<;>try (rename_i h; cases h; done)|refine zB ?_|refine zK ?_|refine zZ ⟨_, rfl, ?_⟩)
  refine Sq.callv rfl (hsp) ?_
  repeat' (first|refine zS ?_|refine zR ?_|refine zE tab_ok rfl rfl ?_|refine zN ?_|(refine zG rfl rfl (fun _ => ?_) fun _ => ?_)<;>refine zE tab_ok rfl rfl ?_|(refine zC rfl (fun _ => ?_) fun _ => ?_)<;>try (rename_i h; cases h; done)|refine zB ?_|refine zK ?_|refine zZ ⟨_, rfl, ?_⟩)
  all_goals first | (refine Sq.callv rfl hpre ?_) | skip
  all_goals repeat' (first|refine zS ?_|refine zR ?_|refine zE tab_ok rfl rfl ?_|refine zN ?_|(refine zG rfl rfl (fun _ => ?_) fun _ => ?_)<;>refine zE tab_ok rfl rfl ?_|(refine zC rfl (fun _ => ?_) fun _ => ?_)<;>try (rename_i h; cases h; done)|refine zB ?_|refine zK ?_|refine zZ ⟨_, rfl, ?_⟩)
  · refine (?_ : _ = _)
    rename_i h _
    have h : ¬ ps.length = 3 := by rw [hne] at h; simpa using h
    rw [hv, if_pos (.inl h)]; rfl
  · refine (?_ : _ = _)
    rename_i _ h1 h2
    have h2 : preB p = false := by simpa using h2
    rw [hv, if_pos (.inr (.inl ⟨h1, h2⟩))]; rfl
  all_goals
    have hl3 : ps.length = 3 := by
      first
        | (rename_i h _ _; rw [hne] at h; simpa using h)
        | (rename_i h _; rw [hne] at h; simpa using h)
    have hg : pvV ps p d = if ps.all numP = false then badV else (valP (ps.getD 0 ByteArray.empty), valP (ps.getD 1 ByteArray.empty), valP (ps.getD 2 ByteArray.empty), p, 0) := by
      rw [hv]
      by_cases h : ps.all numP = false
      · rw [if_pos (.inr (.inr h)), if_pos h]
      · rw [if_neg h, if_neg]
        rintro (h3 | h3 | h3)
        · exact h3 hl3
        · first
            | exact absurd h3.1 (by rw [(by assumption : d = false)]; decide)
            | exact absurd h3.2 (by have h5 : (!preB p) = false := by assumption
                                    simpa using h5)
        · exact h h3
    rw [hg]
    clear hv hg
    refine Sq.buildSl tab_ok rfl rfl rfl ?_
    refine Sq.lenS tab_ok rfl ?_
    repeat' (first|refine zS ?_|refine zR ?_|refine zE tab_ok rfl rfl ?_|refine zN ?_|(refine zG rfl rfl (fun _ => ?_) fun _ => ?_)<;>refine zE tab_ok rfl rfl ?_|(refine zC rfl (fun _ => ?_) fun _ => ?_)<;>try (rename_i h; cases h; done)|refine zB ?_|refine zK ?_|refine zZ ⟨_, rfl, ?_⟩)
    refine Tr.loopS (fun i : Nat => [(.s 2, .ptr (.l 2) 0), (.l 2, .blk 38 [int 0, int 0, int 0, str ⟨#[]⟩]), (.s 4, .ptr (.l 4) 0), (.l 4, .blk 38 [int (pv ps i 0), int (pv ps i 1), int (pv ps i 2), str p]), (.s 7, .own 9 (ps.map strT)), (.s 36, .sl (.l 36) 3 3),
        (.l 36, .blk 117 [.ptr (.l 4) 0, .ptr (.l 4) 1, .ptr (.l 4) 2]), (.s 37, int 3), (.s 38, int i)]) (fun i => 3 - i) (fun i => i ≤ 3 ∧ (ps.take i).all numP = true)
      0 ⟨by omega, by simp⟩ (Sub.app (l := [_, _, _, _, _, _, _, _, _]) (H := []) ⟨rfl, rfl, rfl, rfl, rfl, rfl, rfl, rfl, rfl, trivial⟩ (fun κ v h => nomatch h)) ?_
    rintro i ⟨hi, hp⟩
    have hpt : ∀ j : Nat, j < 3 → ([AV.ptr (.l 4) 0, .ptr (.l 4) 1, .ptr (.l 4) 2])[j]? = some (.ptr (.l 4) j) := by
      intro j hj
      match j, hj with
      | 0, _ => rfl
      | 1, _ => rfl
      | 2, _ => rfl
    repeat' (first|refine zS ?_|refine zR ?_|refine zE tab_ok rfl rfl ?_|refine zN ?_|(refine zG rfl rfl (fun _ => ?_) fun _ => ?_)<;>refine zE tab_ok rfl rfl ?_|(refine zC rfl (fun _ => ?_) fun _ => ?_)<;>try (rename_i h; cases h; done)|refine zB ?_|refine zK ?_|refine zZ ⟨_, rfl, ?_⟩)
    · rename_i h
      have hlt : i < 3 := by have := of_decide_eq_true h; omega
      have hlp : i < ps.length := by omega
      obtain ⟨q, hq⟩ : ∃ q, ps[i] = q := ⟨_, rfl⟩
      have he : (ps.map strT)[i]? = some (strT q) := by rw [List.getElem?_map, List.getElem?_eq_getElem hlp, hq]; rfl
      have hqd : ps.getD i ByteArray.empty = q := by rw [List.getD_eq_getElem?_getD, List.getElem?_eq_getElem hlp, hq]; rfl
      have hqm : q ∈ ps := hq ▸ List.getElem_mem hlp
      refine Sq.indexS tab_ok rfl (by omega) (by omega) ?_
      refine Sq.loadS (v := .ptr (.l 4) i) tab_ok rfl (by rw [show (i : Int).toNat * 1 = i by omega]; exact hpt i hlt) ?_
      repeat' (first|refine zS ?_|refine zR ?_|refine zE tab_ok rfl rfl ?_|refine zN ?_|(refine zG rfl rfl (fun _ => ?_) fun _ => ?_)<;>refine zE tab_ok rfl rfl ?_|(refine zC rfl (fun _ => ?_) fun _ => ?_)<;>try (rename_i h; cases h; done)|refine zB ?_|refine zK ?_|refine zZ ⟨_, rfl, ?_⟩)
      refine zI (x := strT q) tab_ok rfl (by omega) (by simpa using he) rfl ?_
      repeat' (first|refine zS ?_|refine zR ?_|refine zE tab_ok rfl rfl ?_|refine zN ?_|(refine zG rfl rfl (fun _ => ?_) fun _ => ?_)<;>refine zE tab_ok rfl rfl ?_|(refine zC rfl (fun _ => ?_) fun _ => ?_)<;>try (rename_i h; cases h; done)|refine zB ?_|refine zK ?_|refine zZ ⟨_, rfl, ?_⟩)
      refine Sq.callv rfl (number_ok q) ?_
      repeat' (first|refine zS ?_|refine zR ?_|refine zE tab_ok rfl rfl ?_|refine zN ?_|(refine zG rfl rfl (fun _ => ?_) fun _ => ?_)<;>refine zE tab_ok rfl rfl ?_|(refine zC rfl (fun _ => ?_) fun _ => ?_)<;>try (rename_i h; cases h; done)|refine zB ?_|refine zK ?_|refine zZ ⟨_, rfl, ?_⟩)
      · rename_i h3
        have h3 : numP q = false := by simpa using h3
        have : ps.all numP = false := by
          rw [← Bool.not_eq_true, List.all_eq_true]
          intro h4
          rw [h4 q hqm] at h3; cases h3
        rw [if_pos this]; rfl
      · rename_i h3
        have h3 : numP q = true := by simpa using h3
        refine zI (x := strT q) tab_ok rfl (by omega) (by simpa using he) rfl ?_
        repeat' (first|refine zS ?_|refine zR ?_|refine zE tab_ok rfl rfl ?_|refine zN ?_|(refine zG rfl rfl (fun _ => ?_) fun _ => ?_)<;>refine zE tab_ok rfl rfl ?_|(refine zC rfl (fun _ => ?_) fun _ => ?_)<;>try (rename_i h; cases h; done)|refine zB ?_|refine zK ?_|refine zZ ⟨_, rfl, ?_⟩)
        refine Sq.callv rfl (atoi_num q h3) ?_
        repeat' (first|refine zS ?_|refine zR ?_|refine zE tab_ok rfl rfl ?_|refine zN ?_|(refine zG rfl rfl (fun _ => ?_) fun _ => ?_)<;>refine zE tab_ok rfl rfl ?_|(refine zC rfl (fun _ => ?_) fun _ => ?_)<;>try (rename_i h; cases h; done)|refine zB ?_|refine zK ?_|refine zZ ⟨_, rfl, ?_⟩)
        refine Sq.nilC rfl ?_
        refine Sq.storeS tab_ok rfl (by show i < 4; omega) ?_
        repeat' (first|refine zS ?_|refine zR ?_|refine zE tab_ok rfl rfl ?_|refine zN ?_|(refine zG rfl rfl (fun _ => ?_) fun _ => ?_)<;>refine zE tab_ok rfl rfl ?_|(refine zC rfl (fun _ => ?_) fun _ => ?_)<;>try (rename_i h; cases h; done)|refine zB ?_|refine zK ?_|refine zZ ⟨_, rfl, ?_⟩)
        refine ⟨i + 1, ⟨by omega, ?_⟩, by omega, Sub.app (l := [_, _, _, _, _, _, _, _, _]) (H := []) ⟨rfl, rfl, rfl, congrArg some (congrArg (AV.blk _) ?_), rfl, rfl, rfl, rfl, congrArg some (wrapz (by omega) (by omega) (by omega)), trivial⟩ (fun κ v h => nomatch h)⟩
        · rw [List.take_succ_eq_append_getElem hlp, List.all_append, hp, hq]; simp [h3]
        · obtain rfl | rfl | rfl : i = 0 ∨ i = 1 ∨ i = 2 := by omega
          all_goals first | (simp [pv, hqd]; done) | (simp [pv, hqd]; rfl) | (rw [← hqd]; simp [pv]; rfl) | (rw [← hqd]; simp [pv]; done)
    · rename_i h
      obtain rfl : i = 3 := by have := of_decide_eq_false h; omega
      have hall : ps.all numP = true := by rwa [List.take_of_length_le (by omega)] at hp
      refine Tr.exit ?_
      repeat' (first|refine zS ?_|refine zR ?_|refine zE tab_ok rfl rfl ?_|refine zN ?_|(refine zG rfl rfl (fun _ => ?_) fun _ => ?_)<;>refine zE tab_ok rfl rfl ?_|(refine zC rfl (fun _ => ?_) fun _ => ?_)<;>try (rename_i h; cases h; done)|refine zB ?_|refine zK ?_|refine zZ ⟨_, rfl, ?_⟩)
      rw [if_neg (by rw [hall]; decide)]
      rfl
end Go.Lg.Tryz

set_option linter.unusedVariables false
set_option linter.unusedSimpArgs false
namespace Go.Lg.Sem
open Go Go.Lib
theorem pieces_lenS (sep s : ByteArray) (h : 1 ≤ sep.size) : (pieces sep s).length ≤ s.size + 1 := by
  unfold pieces
  rw [Lib.splitB_all sep h 0 _ s rfl]
  have := Lib.countB_le sep h s.size s (Nat.le_refl _)
  omega
theorem pieces_sizeS (sep : ByteArray) (h : 1 ≤ sep.size) : ∀ (n : Nat) (s : ByteArray), s.size = n → ∀ p, p ∈ pieces sep s → p.size ≤ s.size := by
  intro n
  induction n using Nat.strongRecOn with
  | _ n ih =>
    intro s hn p hp
    rcases Lib.indexB_cases s sep with hi | ⟨i, hi, hib⟩
    · rw [pieces_miss sep s hi] at hp
      rw [List.mem_singleton.1 hp]; exact Nat.le_refl _
    · rw [pieces_hit sep s h i hi] at hp
      rcases List.mem_cons.1 hp with rfl | hp
      · rw [ByteArray.size_extract]; omega
      · have hz : (s.extract (i + sep.size) s.size).size = s.size - (i + sep.size) := by rw [ByteArray.size_extract]; omega
        have := ih (s.size - (i + sep.size)) (by omega) _ hz p hp
        omega
def signL : List ByteArray := [⟨#[42]⟩, ⟨#[61]⟩, ⟨#[60]⟩, ⟨#[60, 61]⟩, ⟨#[62]⟩, ⟨#[62, 61]⟩, ⟨#[94]⟩, ⟨#[126]⟩]
def signAt (i : Nat) : ByteArray := signL.getD i ByteArray.empty
def opStep (s : ByteArray) (op : Nat) (i : Nat) : Nat := if 0 < i ∧ Lib.hasPrefix s.data.toList (signAt i).data.toList = true ∧ (op = 0 ∨ (signAt i).size = 2) then i else op
def opUpto (s : ByteArray) : Nat → Nat
  | 0 => 0
  | k + 1 => opStep s (opUpto s k) k
def opOf (s : ByteArray) : Nat := opUpto s 8
def verOf (r : Int × Int × Int × ByteArray × Int) : Ver := ⟨r.1, r.2.1, r.2.2.1, r.2.2.2.1⟩
def parseVer (s : ByteArray) : Ver × Int := (verOf (parseV s), (parseV s).2.2.2.2)
def Cmp.zero : Cmp := ⟨0, Ver.zero⟩
def compV (s : ByteArray) : Cmp × Bool :=
  if s.data.toList = [42] then (Cmp.zero, true) else if opOf s = 0 then (Cmp.zero, false)
  else (⟨opOf s, (parseVer (s.extract (signAt (opOf s)).size s.size)).1⟩, (parseVer (s.extract (signAt (opOf s)).size s.size)).2 == 0)
def sp : ByteArray := ⟨#[32]⟩
def bars : ByteArray := ⟨#[32, 124, 124, 32]⟩
def altOk (a : ByteArray) : Bool := (pieces sp a).all fun t => (compV t).2
def altL (a : ByteArray) : List Cmp := (pieces sp a).map fun t => (compV t).1
def rangeV (s : ByteArray) : Rng × Int :=
  if (pieces bars s).all altOk = true ∧ rngRight ((pieces bars s).map altL) = true then ((pieces bars s).map altL, 0) else ([], 10)
theorem parse_size (s : ByteArray) : (parseVer s).1.p.size ≤ s.size := by
  show (parseV s).2.2.2.1.size ≤ s.size
  rw [parseV_eq]
  have := (cut_le s.data.toList [45]).2
  have hl := data_length s
  unfold pvV
  split
  · show (ByteArray.mk #[]).size ≤ _; exact Nat.zero_le _
  · show (toBytes _).size ≤ _; rw [toBytes_size]; omega
theorem compV_size (s : ByteArray) : (compV s).1.v.p.size ≤ s.size := by
  unfold compV
  split
  · exact Nat.zero_le _
  · split
    · exact Nat.zero_le _
    · refine Nat.le_trans (parse_size _) ?_
      rw [ByteArray.size_extract]; omega
theorem opUpto_le (s : ByteArray) : ∀ k, opUpto s k ≤ k
  | 0 => Nat.le_refl _
  | k + 1 => by
    show opStep s (opUpto s k) k ≤ k + 1
    have := opUpto_le s k
    unfold opStep; split <;> omega
theorem opUpto_lt (s : ByteArray) : ∀ k, 0 < k → opUpto s k < k
  | 0, h => absurd h (by omega)
  | k + 1, _ => by
    show opStep s (opUpto s k) k < k + 1
    have := opUpto_le s k
    unfold opStep; split <;> omega
theorem opOf_lt (s : ByteArray) : opOf s < 8 := opUpto_lt s 8 (by omega)
theorem prefix_len (l p : List UInt8) (h : Lib.hasPrefix l p = true) : p.length ≤ l.length :=
  (List.isPrefixOf_iff_prefix.1 h).length_le
theorem opUpto_size (s : ByteArray) : ∀ k, opUpto s k ≠ 0 → (signAt (opUpto s k)).size ≤ s.size
  | 0, h => absurd rfl h
  | k + 1, h => by
    have ih := opUpto_size s k
    have e : opUpto s (k + 1) = opStep s (opUpto s k) k := rfl
    rw [e] at h ⊢
    unfold opStep at h ⊢
    split at h
    · rename_i hc
      rw [if_pos hc]
      have := prefix_len _ _ hc.2.1
      rw [data_length, data_length] at this; exact this
    · rename_i hc
      rw [if_neg hc]; exact ih h
end Go.Lg.Sem

set_option linter.unusedVariables false
set_option linter.unusedSimpArgs false
namespace Go.Lg
open Go Go.RowKit
section
variable {P : Program} {G : Env} {n : Nat} {tab : Tab} {m : Store}
def evRaw (n : Nat) (ops : List Oper) (o : Oper) (m : Store) : Option (FuncId × List Value × Nat) := match o.op, o.dst, gOk m ops o.guard with
  | .call ⟨.value (.func f), args, _⟩, some d, true => match Nat.blt d n, valsO m args.toList with
    | true, some vs => some (f, vs, d)
    | _, _ => none
  | _, _, _ => none
theorem Sq.raw {ops l : List Oper} {o : Oper} {f : FuncId} {vs : List Value} {d : Nat} {K : Store → Prop} {m' : Store} {fr : List Loc} {Post : World → Value → World → Prop} (h : evRaw n ops o m = some (f, vs, d)) (hcl : Callable P f)
    (hc : ∀ w, Calls P f vs.toArray w fun e w' => ∃ v, e = .returned v ∧ Post w v w') (hf : (freshB fr m && pinB fr G.pins) = true)
    (hp : ∀ (Γ : Ctx) (M : Nat → Nat → Prop) (Ow : Loc → Nat → Option Nat) (a : Act) (w : World) (v : Value) (w' : World), (∀ κ, κ ∈ fr → Γ.pin κ = none) → Rel P Γ M Ow n m a w → d < n → Post w v w' → RelX P Γ n m' (a.put (some d) v) w')
    (k : Sq P G n ops l m' K) : Sq P G n ops (o :: l) m K := by
  obtain ⟨dst, op, type, pos, after, guard⟩ := o
  unfold evRaw at h
  simp only at h
  split at h
  · rename_i f' cargs ats d' hgd
    split at h
    · rename_i vs' hlt hvs
      simp only [Option.some.injEq, Prod.mk.injEq] at h
      obtain ⟨rfl, rfl, rfl⟩ := h
      have hd : d' < n := Nat.lt_of_succ_le (Nat.le_of_ble_eq_true hlt)
      rw [Bool.and_eq_true] at hf
      obtain ⟨fn, hfn, hname, hbody⟩ := hcl
      intro Γ hΓ a w hr Q hQ
      obtain ⟨M, Ow, hr⟩ := hr
      have hpn : ∀ κ, κ ∈ fr → Γ.pin κ = none := fun κ hk => by
        cases hx : Γ.pin κ with
        | none => rfl
        | some b => exact absurd (hΓ.2 κ (by rw [hx]; simp)) (pinB_eq hf.2 κ hk)
      have hw := wanted_of hgd hr (o := ⟨some d', .call ⟨.value (.func f'), cargs, ats⟩, type, pos, after, guard⟩)
      have hrun : (execOp a.eval (⟨some d', .call ⟨.value (.func f'), cargs, ats⟩, type, pos, after, guard⟩ : Oper)).run P w = .ok (.enter f' vs'.toArray) w := by
        have hname' : ¬ fn.name = "runtime.NumGoroutine" := by simpa using hname
        have hbody' : ¬ fn.body = none := fun e => by rw [e] at hbody; cases hbody
        have hv : cargs.map a.eval = vs'.toArray := by
          have := valsO_ok hr hvs
          rw [← this, ← Array.toList_map]
        have hfe : a.eval (.func f') = .func (.func f') #[] #[] := rfl
        simp [execOp, resolve, Deferred.ofValue, hfe, invoke, callFunc, hfn, hname', hbody', hv]
      unfold wpListIn
      rw [if_pos hw]
      refine ⟨fun _ _ => trivial, ?_⟩
      rw [show (FW Γ.rd).round = Γ.rd from rfl, semAt_of Γ.rd hrun (fun d e => by cases e), Oper.uponIn_enter]
      refine ⟨fun h => Bool.noConfusion (show false = true from h), FW.calls ((hc w).mono ?_)⟩
      rintro e w' ⟨v, rfl, hP⟩
      exact k Γ hΓ _ w' (hp Γ M Ow a w v w' hpn hr hd hP) Q hQ
    · cases h
  · cases h
theorem Tr.cut {x y : Code} {Q : Exit → Store → Prop} (S0 : Store) (h : Tr P G n x m (thenQ (fun m' => Sub S0 m') Q)) (k : Tr P G n y S0 Q) : Tr P G n (.seq x y) m Q :=
  zS (h.mono fun e m' hq => by
    cases e with
    | normal => exact fun Γ hΓ a w hr => k Γ hΓ a w (hr.sub hq)
    | _ => exact hq)
theorem Rel.put3 {Γ : Ctx} {M : Nat → Nat → Prop} {Ow : Loc → Nat → Option Nat} {a : Act} {w : World} (h : Rel P Γ M Ow n m a w) {d : Nat} (hd : d < n) {κ0 κ1 κ2 : Loc} (h3 : (κ0.isL && κ1.isL && κ2.isL && !κ0.eqb κ1 && !κ0.eqb κ2 && !κ1.eqb κ2) = true) (hpn : ∀ κ, κ ∈ [κ0, κ1, κ2] → Γ.pin κ = none) (hf : freshB [κ0, κ1, κ2] m = true)
    {t0 t1 t2 : TypeId} {v0 v1 v2 : Value} (o0 : v0.oneCell' = true) (o1 : v1.oneCell' = true) (o2 : v2.oneCell' = true) (gf : FuncId) :
    RelX P Γ n ((.s d, .fn gf [.ptr κ1 0, .ptr κ0 0, .ptr κ2 0]) :: (κ2, .blk t2 [.tr (.sc v2)]) :: (κ1, .blk t1 [.tr (.sc v1)]) :: (κ0, .blk t0 [.tr (.sc v0)]) :: m)
      (a.put (some d) (.func (.func gf) #[] #[.pointer (some ⟨w.heap.size + 1, 0, none⟩), .pointer (some ⟨w.heap.size, 0, none⟩), .pointer (some ⟨w.heap.size + 2, 0, none⟩)]))
      (((w.alloc (.cells #[v0] t0)).alloc (.cells #[v1] t1)).alloc (.cells #[v2] t2)) := by
  simp only [Bool.and_eq_true, Bool.not_eq_true'] at h3
  obtain ⟨⟨⟨⟨⟨l0, l1⟩, l2⟩, n01⟩, n02⟩, n12⟩ := h3
  have d01 : κ0 ≠ κ1 := fun e => by rw [e, Loc.eqb_self] at n01; cases n01
  have d02 : κ0 ≠ κ2 := fun e => by rw [e, Loc.eqb_self] at n02; cases n02
  have d12 : κ1 ≠ κ2 := fun e => by rw [e, Loc.eqb_self] at n12; cases n12
  have hfr := freshB_eq hf
  have one_ : ∀ {Ow : Loc → Nat → Option Nat} {m : Store} {w : World} (h : Rel P Γ M Ow n m a w) {κ : Loc} (hk : κ.isL = true) (hpn : Γ.pin κ = none) (hr : refsM κ m = false) {t : TypeId} {v : Value} (ho : v.oneCell' = true),
      Rel P Γ M (fun l i => if l = κ then (if i = 0 then some w.heap.size else none) else Ow l i) n ((κ, .blk t [.tr (.sc v)]) :: m) a (w.alloc (.cells #[v] t)) := by
    intro Ow m w h κ hk hpn hr t v ho
    have hb := below_alloc w (.cells #[v] t)
    have h1 := h.ext (w' := w.alloc (.cells #[v] t)) (M' := M) hb (fun _ _ h => h) (fun _ _ h => .inl h) (fun b o hm => Nat.lt_of_lt_of_le (h.mlt b o hm) hb.size)
    refine h1.addblk (Loc.isL_blk hk) hpn hr (alloc_at w _) (fun l i e => absurd (h.lt l i _ e) (Nat.lt_irrefl _)) h.fr.size (fun o hm => absurd (h.mlt _ _ hm) (Nat.lt_irrefl _)) rfl ?_ ?_ rfl
    · intro i u hu
      cases i with
      | zero => simp at hu; subst hu; exact ho
      | succ i => simp at hu
    · intro i y u hy hu
      cases i with
      | zero => simp at hy hu; subst hy; subst hu; exact VRel.tr _ _ (.sc _ ho)
      | succ i => simp at hu
  have r0 := one_ h l0 (hpn _ (by simp)) (hfr _ (by simp)) (t := t0) o0
  have r1 := one_ r0 l1 (hpn _ (by simp)) (by simp only [refsM, AV.refs, refsL, Bool.false_or]; exact hfr _ (by simp)) (t := t1) o1
  have r2 := one_ r1 l2 (hpn _ (by simp)) (by simp only [refsM, AV.refs, refsL, Bool.false_or]; exact hfr _ (by simp)) (t := t2) o2
  refine ⟨M, _, r2.put hd (.fn gf _ _ rfl ?_)⟩
  intro i x v hx hv
  match i with
  | 0 =>
    simp only [List.getElem?_cons_zero, Option.some.injEq] at hx; subst hx
    simp at hv; subst hv
    exact .ptr κ1 0 _ (Loc.isL_blk l1) (by simp only [if_neg d12, if_true]; simp)
  | 1 =>
    simp at hx; subst hx
    simp at hv; subst hv
    exact .ptr κ0 0 _ (Loc.isL_blk l0) (by simp only [if_neg d01, if_neg d02, if_true])
  | 2 =>
    simp at hx; subst hx
    simp at hv; subst hv
    exact .ptr κ2 0 _ (Loc.isL_blk l2) (by simp only [if_true]; simp)
  | i + 3 => simp at hx
end
end Go.Lg

set_option linter.unusedVariables false
set_option linter.unusedSimpArgs false
namespace Go.Lg.Tryz
open Go Go.Proofs Go.RowKit Go.Lib Go.Shelf Go.Lg.Sem
theorem signs_ok : Fn Tryz.prog Gw 54 [] [] (· = .own 9 (signL.map strT)) := by
  refine Fn.of tab_ok Tryz.func54 rfl (by decide) (by simp [Tryz.f54]) rfl (fun κ v h => by cases h) Gw.below ?_
  repeat' (first|refine zS ?_|refine zR ?_|refine zE tab_ok rfl rfl ?_|refine zN ?_|(refine zG rfl rfl (fun _ => ?_) fun _ => ?_)<;>refine zE tab_ok rfl rfl ?_|(refine zC rfl (fun _ => ?_) fun _ => ?_)<;>try (rename_i h; cases h; done)|refine zB ?_|refine zK ?_|refine zZ ⟨_, rfl, ?_⟩)
  rfl
theorem sign_at {i : Nat} (h : i < 8) : (signL.map strT)[i]? = some (strT (signAt i)) := by
  match i, h with
  | 0, _ | 1, _ | 2, _ | 3, _ | 4, _ | 5, _ | 6, _ | 7, _ => rfl
theorem comp_ok (s : ByteArray) (hs : s.size < 4294967281) : Fn Tryz.prog Gw 29 [str s] [] (· = .tup [.tr (Cmp.t (compV s).1), bool (compV s).2]) := by
  have hl8 : (signL.map strT).length = 8 := rfl
  refine Fn.of tab_ok Tryz.func29 rfl (by decide) (by simp [Tryz.f29]) rfl (fun κ v h => by cases h) Gw.below ?_
  repeat' (first|refine zS ?_|refine zR ?_|refine zE tab_ok rfl rfl ?_|refine zN ?_|(refine zG rfl rfl (fun _ => ?_) fun _ => ?_)<;>refine zE tab_ok rfl rfl ?_|(refine zC rfl (fun _ => ?_) fun _ => ?_)<;>try (rename_i h; cases h; done)|refine zB ?_|refine zK ?_|refine zZ ⟨_, rfl, ?_⟩)
  · rename_i h
    have h : s.data.toList = [42] := by rw [ba_toList] at h; simpa using h
    have : compV s = (Cmp.zero, true) := by unfold compV; rw [if_pos h]
    refine (?_ : _ = _)
    rw [this]; rfl
  · rename_i h
    have h : s.data.toList ≠ [42] := by rw [ba_toList] at h; simpa using h
    have hc : compV s = if opOf s = 0 then (Cmp.zero, false)
        else (⟨opOf s, (parseVer (s.extract (signAt (opOf s)).size s.size)).1⟩, (parseVer (s.extract (signAt (opOf s)).size s.size)).2 == 0) := by unfold compV; rw [if_neg h]
    rw [hc]
    refine Sq.callv rfl (signs_ok) ?_
    repeat' (first|refine zS ?_|refine zR ?_|refine zE tab_ok rfl rfl ?_|refine zN ?_|(refine zG rfl rfl (fun _ => ?_) fun _ => ?_)<;>refine zE tab_ok rfl rfl ?_|(refine zC rfl (fun _ => ?_) fun _ => ?_)<;>try (rename_i h; cases h; done)|refine zB ?_|refine zK ?_|refine zZ ⟨_, rfl, ?_⟩)
    rw [hl8]
    refine Tr.loopS (fun i : Nat => [(.s 0, str s), (.s 2, .ptr (.l 2) 0), (.l 2, .blk 48 [int 0, int 0, int 0, int 0, str ⟨#[]⟩]), (.s 4, int (opUpto s i)), (.s 12, .own 9 (signL.map strT)), (.s 13, int 8), (.s 14, int i)]) (fun i => 8 - i) (fun i => i ≤ 8)
      0 (by omega) (Sub.app (l := [_, _, _, _, _, _, _]) (H := []) ⟨rfl, rfl, rfl, rfl, rfl, rfl, rfl, trivial⟩ (fun κ v h => nomatch h)) ?_
    intro i hi
    repeat' (first|refine zS ?_|refine zR ?_|refine zE tab_ok rfl rfl ?_|refine zN ?_|(refine zG rfl rfl (fun _ => ?_) fun _ => ?_)<;>refine zE tab_ok rfl rfl ?_|(refine zC rfl (fun _ => ?_) fun _ => ?_)<;>try (rename_i h; cases h; done)|refine zB ?_|refine zK ?_|refine zZ ⟨_, rfl, ?_⟩)
    · rename_i h
      have hlt : i < 8 := by have := of_decide_eq_true h; omega
      have hst : opUpto s (i + 1) = if 0 < i ∧ Lib.hasPrefix s.data.toList (signAt i).data.toList = true ∧ (opUpto s i = 0 ∨ (signAt i).size = 2) then i else opUpto s i := rfl
      refine zI (x := strT (signAt i)) tab_ok rfl (by omega) (by simpa using sign_at hlt) rfl ?_
      repeat' (first|refine zS ?_|refine zR ?_|refine zE tab_ok rfl rfl ?_|refine zN ?_|(refine zG rfl rfl (fun _ => ?_) fun _ => ?_)<;>refine zE tab_ok rfl rfl ?_|(refine zC rfl (fun _ => ?_) fun _ => ?_)<;>try (rename_i h; cases h; done)|refine zB ?_|refine zK ?_|refine zZ ⟨_, rfl, ?_⟩)
      all_goals first | (refine Sq.callv rfl (hasPrefix_ok s (signAt i)) ?_) | skip
      all_goals repeat' (first|refine zS ?_|refine zR ?_|refine zE tab_ok rfl rfl ?_|refine zN ?_|(refine zG rfl rfl (fun _ => ?_) fun _ => ?_)<;>refine zE tab_ok rfl rfl ?_|(refine zC rfl (fun _ => ?_) fun _ => ?_)<;>try (rename_i h; cases h; done)|refine zB ?_|refine zK ?_|refine zZ ⟨_, rfl, ?_⟩)
      all_goals
        refine ⟨i + 1, by omega, by omega, Sub.app (l := [_, _, _, _, _, _, _]) (H := []) ⟨rfl, rfl, rfl, ?_, rfl, rfl, congrArg some (wrapz (by omega) (by omega) (by omega)), trivial⟩ (fun κ v h => nomatch h)⟩
        simp only [decide_eq_true_eq, decide_eq_false_iff_not, beq_iff_eq, beq_eq_false_iff_ne] at *
        rw [hst]
        first
          | (rw [if_pos ⟨by omega, by assumption, by omega⟩]; rfl)
          | (rw [if_neg (by rintro ⟨h1, h2, h3⟩; first | omega | simp_all)]; rfl)
    · rename_i h
      obtain rfl : i = 8 := by have := of_decide_eq_false h; omega
      have e8 : opUpto s 8 = opOf s := rfl
      rw [e8]
      have hlt := opOf_lt s
      refine Tr.exit ?_
      repeat' (first|refine zS ?_|refine zR ?_|refine zE tab_ok rfl rfl ?_|refine zN ?_|(refine zG rfl rfl (fun _ => ?_) fun _ => ?_)<;>refine zE tab_ok rfl rfl ?_|(refine zC rfl (fun _ => ?_) fun _ => ?_)<;>try (rename_i h; cases h; done)|refine zB ?_|refine zK ?_|refine zZ ⟨_, rfl, ?_⟩)
      · rename_i h2
        have h2 : opOf s = 0 := by simp at h2; omega
        refine (?_ : _ = _)
        rw [if_pos h2]; rfl
      · rename_i h2
        have h2 : opOf s ≠ 0 := by simp at h2; omega
        rw [if_neg h2]
        have hsz := opUpto_size s 8 h2
        rw [e8] at hsz
        have hz : (s.extract (signAt (opOf s)).size s.size).size = s.size - (signAt (opOf s)).size := by rw [ByteArray.size_extract]; omega
        refine Sq.callv rfl (signs_ok) ?_
        repeat' (first|refine zS ?_|refine zR ?_|refine zE tab_ok rfl rfl ?_|refine zN ?_|(refine zG rfl rfl (fun _ => ?_) fun _ => ?_)<;>refine zE tab_ok rfl rfl ?_|(refine zC rfl (fun _ => ?_) fun _ => ?_)<;>try (rename_i h; cases h; done)|refine zB ?_|refine zK ?_|refine zZ ⟨_, rfl, ?_⟩)
        refine zI (x := strT (signAt (opOf s))) tab_ok rfl (by omega) (by simpa using sign_at hlt) rfl ?_
        repeat' (first|refine zS ?_|refine zR ?_|refine zE tab_ok rfl rfl ?_|refine zN ?_|(refine zG rfl rfl (fun _ => ?_) fun _ => ?_)<;>refine zE tab_ok rfl rfl ?_|(refine zC rfl (fun _ => ?_) fun _ => ?_)<;>try (rename_i h; cases h; done)|refine zB ?_|refine zK ?_|refine zZ ⟨_, rfl, ?_⟩)
        refine Sq.substr tab_ok rfl (by show (0 : Int) ≤ ((signAt (opOf s)).size : Int); omega) (by show ((signAt (opOf s)).size : Int) ≤ (s.size : Int); omega) (by show (s.size : Int) ≤ (s.size : Int); omega) ?_
        have hP := Parse_ok (s.extract (signAt (opOf s)).size s.size) (by omega)
        have hx : s.extract (Bd.lo (.at ((signAt (opOf s)).size : Int))).toNat (Bd.hi s.size .no).toNat = s.extract (signAt (opOf s)).size s.size := rfl
        rw [hx]
        unfold parseVer
        generalize s.extract (signAt (opOf s)).size s.size = x at *
        generalize parseV x = r at *
        clear hx hz hsz hc
        refine Sq.callv rfl (hP) ?_
        repeat' (first|refine zS ?_|refine zR ?_|refine zE tab_ok rfl rfl ?_|refine zN ?_|(refine zG rfl rfl (fun _ => ?_) fun _ => ?_)<;>refine zE tab_ok rfl rfl ?_|(refine zC rfl (fun _ => ?_) fun _ => ?_)<;>try (rename_i h; cases h; done)|refine zB ?_|refine zK ?_|refine zZ ⟨_, rfl, ?_⟩)
        rfl
end Go.Lg.Tryz
