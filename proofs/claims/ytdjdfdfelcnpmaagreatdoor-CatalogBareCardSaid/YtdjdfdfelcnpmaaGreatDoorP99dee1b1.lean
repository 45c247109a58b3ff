/- Words and laws that the theorem leans on (part 3). -/
import Derived.Test.YtdjdfdfelcnpmaaGreatDoorP91203479
import Derived.Test.YtdjdfdfelcnpmaaGreatDoorPe8c6d24c
import Derived.Shelf.Strings.Trim
import Derived.Shelf.Small.Utf8
import Derived.Shelf.Small.Strs
import Derived.Shelf.Small.Wraps
import Derived.Shelf.Utf8.RuneCount
import Derived.Shelf.Strconv.Atoi
import Derived.Shelf.Strconv.Itoa0
import Derived.Shelf.Strconv.Itoa1
import Derived.Shelf.LaysM
import Derived.Shelf.Strconv.Itoa2
import Derived.Shelf.Strconv.Itoa3
import Derived.Shelf.Strconv.AtoiErrFast
import Derived.Shelf.Strconv.ParseIntEmpty
import Derived.Shelf.Strconv.Clone
import Derived.Shelf.Strconv.Lower
import Derived.Shelf.Strconv.ParseUint10Empty
import Derived.Shelf.Strconv.ParseUintEmpty
import Derived.Shelf.Strings.Search1
import Derived.Shelf.Strings.Search2
import Derived.Shelf.Strings.Search3
import Derived.Shelf.Strings.Count
import Derived.Shelf.Strings.Shaped
import Derived.Shelf.Strings.Split
import Derived.Shelf.Strings.SplitShaped
import Derived.Shelf.Unicode.Decode
import Derived.Shelf.Strings.Runes
import Derived.Shelf.Strings.RuneCount
import Derived.Shelf.Strings.AsciiSet
import Derived.Shelf.Strings.Explode
import Derived.Shelf.Unicode.DecodeSlow
import Derived.Shelf.Unicode.DecodeAny
import Derived.Shelf.Unicode.DecodeLast
import Derived.Ground.Names2Prog
import Derived.Shelf.Slices.SearchI
import Derived.Test.YtdjdfdfelcnpmaaGreatDoorProg
import Derived.Lib.SplitLaws
import Derived.Lib.CutLaws
import Derived.Shelf.Strings.SlTrimAscii
import Derived.Lib.ConvBytes
import Derived.WalkSmall
import Derived.KernelRfl
import Derived.Lib.TrailingZeros
import Derived.RangeFuncNested
import Derived.RangeFuncBound
import Derived.RangeFuncCalls
import Derived.RangeFuncLeaves
import Derived.RangeFuncFrom
import Derived.Below
import Derived.Deep.Draws
import Derived.Shelf.Abstract
import Derived.Shelf.RegionOpen
import Derived.WalkKit
import Derived.OwnWalkIn
import Derived.TacticsInMore
import Derived.LoopNIn
import Derived.LoopIn
import Derived.Lib.Hide
import Derived.OneCell
import Derived.RangeFuncBox
import Derived.Lib.IndexBytes
import Derived.Deep.Slices
import Derived.ChangeArms
import Derived.Lib.SmallJoins
set_option linter.unusedVariables false
set_option linter.unusedSimpArgs false

namespace Go.Proofs
open Go.Shelf
def Tryz.lays160_ren : Go.Shelf.Ren := ⟨fun | 160 => 74 | 232 => 98 | 231 => 97 | 227 => 99 | 234 => 101 | 233 => 100 | 236 => 103 | 235 => 102 | 228 => 123 | 271 => 126 | 151 => 125 | 197 => 124 | 120 => 139 | 152 => 138 | 260 => 137 | 137 => 104 | 119 => 154 | 224 => 155 | 225 => 156 | 217 => 127 | 266 => 140 | n => n, fun | 9 => 9 | 4 => 4 | 3 => 3 | 5 => 5 | 117 => 159 | 116 => 158 | 0 => 0 | 124 => 162 | 21 => 21 | 105 => 183 | 46 => 137 | 119 => 203 | 139 => 206 | 138 => 205 | n => n, fun | 3 => 2 | 4 => 3 | n => n⟩
theorem Tryz.lays160 : Go.Proofs.Lays.n160 Tryz.prog Tryz.lays160_ren := {
  mixed := by kernel_rfl
  f119 := Tryz.func154.trans (congrArg some (by kernel_rfl))
  f120 := Tryz.func139.trans (congrArg some (by kernel_rfl))
  f137 := Tryz.func104.trans (congrArg some (by kernel_rfl))
  f151 := Tryz.func125.trans (congrArg some (by kernel_rfl))
  f152 := Tryz.func138.trans (congrArg some (by kernel_rfl))
  f160 := Tryz.func74.trans (congrArg some (by kernel_rfl))
  f197 := Tryz.func124.trans (congrArg some (by kernel_rfl))
  f217 := Tryz.func127.trans (congrArg some (by kernel_rfl))
  f224 := Tryz.func155.trans (congrArg some (by kernel_rfl))
  f225 := Tryz.func156.trans (congrArg some (by kernel_rfl))
  f227 := Tryz.func99.trans (congrArg some (by kernel_rfl))
  f228 := Tryz.func123.trans (congrArg some (by kernel_rfl))
  f231 := Tryz.func97.trans (congrArg some (by kernel_rfl))
  f232 := Tryz.func98.trans (congrArg some (by kernel_rfl))
  f233 := Tryz.func100.trans (congrArg some (by kernel_rfl))
  f234 := Tryz.func101.trans (congrArg some (by kernel_rfl))
  f235 := Tryz.func102.trans (congrArg some (by kernel_rfl))
  f236 := Tryz.func103.trans (congrArg some (by kernel_rfl))
  f260 := Tryz.func137.trans (congrArg some (by kernel_rfl))
  f266 := Tryz.func140.trans (congrArg some (by kernel_rfl))
  f271 := Tryz.func126.trans (congrArg some (by kernel_rfl))
  t0 := Tryz.underlying0
  a0 := Tryz.isAgg0
  z0 := Tryz.sizeOf0
  v0 := Tryz.zeroValue0
  t3 := Tryz.underlying3
  a3 := Tryz.isAgg3
  z3 := Tryz.sizeOf3
  v3 := Tryz.zeroValue3
  t4 := Tryz.underlying4
  a4 := Tryz.isAgg4
  z4 := Tryz.sizeOf4
  v4 := Tryz.zeroValue4
  t5 := Tryz.underlying5
  a5 := Tryz.isAgg5
  z5 := Tryz.sizeOf5
  v5 := Tryz.zeroValue5
  t9 := Tryz.underlying9
  a9 := Tryz.isAgg9
  z9 := Tryz.sizeOf9
  v9 := Tryz.zeroValue9
  t21 := Tryz.underlying21
  a21 := Tryz.isAgg21
  z21 := Tryz.sizeOf21
  v21 := Tryz.zeroValue21
  t46 := Tryz.underlying137
  a46 := Tryz.isAgg137
  z46 := Tryz.sizeOf137
  v46 := Tryz.zeroValue137
  t105 := Tryz.underlying183
  a105 := Tryz.isAgg183
  z105 := Tryz.sizeOf183
  v105 := Tryz.zeroValue183
  t116 := Tryz.underlying158
  a116 := Tryz.isAgg158
  z116 := Tryz.sizeOf158
  t117 := Tryz.underlying159
  a117 := Tryz.isAgg159
  z117 := Tryz.sizeOf159
  v117 := Tryz.zeroValue159
  t119 := Tryz.underlying203
  a119 := Tryz.isAgg203
  z119 := Tryz.sizeOf203
  t124 := Tryz.underlying162
  a124 := Tryz.isAgg162
  z124 := Tryz.sizeOf162
  v124 := Tryz.zeroValue162
  t138 := Tryz.underlying205
  a138 := Tryz.isAgg205
  z138 := Tryz.sizeOf205
  v138 := Tryz.zeroValue205
  t139 := Tryz.underlying206
  a139 := Tryz.isAgg206
  z139 := Tryz.sizeOf206
  v139 := Tryz.zeroValue206
  g3 := by kernel_rfl
  g4 := by kernel_rfl }
def Tryz.lays137_ren : Go.Shelf.Ren := ⟨fun | 137 => 104 | 217 => 127 | 266 => 140 | n => n, fun | 9 => 9 | 5 => 5 | 3 => 3 | n => n, fun | n => n⟩
theorem Tryz.lays137 : Go.Proofs.Lays.n137 Tryz.prog Tryz.lays137_ren := {
  mixed := by kernel_rfl
  f137 := Tryz.func104.trans (congrArg some (by kernel_rfl))
  f217 := Tryz.func127.trans (congrArg some (by kernel_rfl))
  f266 := Tryz.func140.trans (congrArg some (by kernel_rfl))
  t3 := Tryz.underlying3
  a3 := Tryz.isAgg3
  z3 := Tryz.sizeOf3
  v3 := Tryz.zeroValue3
  t5 := Tryz.underlying5
  a5 := Tryz.isAgg5
  z5 := Tryz.sizeOf5
  v5 := Tryz.zeroValue5
  t9 := Tryz.underlying9
  a9 := Tryz.isAgg9
  z9 := Tryz.sizeOf9
  v9 := Tryz.zeroValue9 }
open Go.RowKit in
theorem Tryz.strings_IndexByte (s : ByteArray) (c : Int) (w : World) :
    Calls Tryz.prog 104 #[.string s, .int .u8 c] w fun e w' => e = .returned (.int .i64 (Lib.indexByte s.data.toList c.toNat.toUInt8)) ∧ w' = w := Any.strings_IndexByte Tryz.lays137 s c w
def Tryz.lays122_ren : Go.Shelf.Ren := ⟨fun | 122 => 79 | 215 => 107 | n => n, fun | 3 => 3 | 4 => 4 | n => n, fun | n => n⟩
theorem Tryz.lays122 : Go.Proofs.Lays.n122 Tryz.prog Tryz.lays122_ren := {
  mixed := by kernel_rfl
  f122 := Tryz.func79.trans (congrArg some (by kernel_rfl))
  f215 := Tryz.func107.trans (congrArg some (by kernel_rfl))
  t3 := Tryz.underlying3
  a3 := Tryz.isAgg3
  z3 := Tryz.sizeOf3
  v3 := Tryz.zeroValue3
  t4 := Tryz.underlying4
  a4 := Tryz.isAgg4
  z4 := Tryz.sizeOf4
  v4 := Tryz.zeroValue4 }
open Go.RowKit in
theorem Tryz.cmp_Compare_int (x y : Int) (w : World) :
    Calls Tryz.prog 79 #[.int .i64 x, .int .i64 y] w fun e w' => e = .returned (.int .i64 (Lib.compareInt x y)) ∧ w' = w := Any.cmp_Compare_int Tryz.lays122 x y w
def Tryz.lays172_ren : Go.Shelf.Ren := ⟨fun | 172 => 110 | 244 => 130 | 245 => 131 | 247 => 145 | 279 => 146 | 280 => 147 | 281 => 148 | 282 => 149 | 287 => 160 | 316 => 161 | 171 => 163 | 205 => 162 | 321 => 165 | 322 => 166 | 243 => 167 | 246 => 169 | 283 => 170 | 284 => 171 | 285 => 172 | 286 => 173 | 129 => 175 | 317 => 174 | 318 => 176 | 319 => 177 | 320 => 178 | 337 => 179 | 338 => 42 | n => n, fun | 9 => 9 | 3 => 3 | 75 => 170 | 76 => 171 | 4 => 4 | 5 => 5 | 167 => 194 | 37 => 187 | 0 => 0 | 85 => 195 | 2 => 2 | 168 => 197 | 53 => 103 | 175 => 209 | 46 => 137 | 210 => 213 | 127 => 217 | 145 => 220 | 143 => 218 | 21 => 21 | 171 => 225 | 173 => 227 | 212 => 230 | 51 => 221 | 20 => 20 | 213 => 231 | 232 => 234 | 233 => 136 | 80 => 235 | n => n, fun | 15 => 5 | 16 => 6 | 17 => 7 | 18 => 8 | 19 => 0 | n => n⟩
theorem Tryz.lays172 : Go.Proofs.Lays.n172 Tryz.prog Tryz.lays172_ren := {
  mixed := by kernel_rfl
  f129 := Tryz.func175.trans (congrArg some (by kernel_rfl))
  f171 := Tryz.func163.trans (congrArg some (by kernel_rfl))
  f172 := Tryz.func110.trans (congrArg some (by kernel_rfl))
  f205 := Tryz.func162.trans (congrArg some (by kernel_rfl))
  f243 := Tryz.func167.trans (congrArg some (by kernel_rfl))
  f244 := Tryz.func130.trans (congrArg some (by kernel_rfl))
  f245 := Tryz.func131.trans (congrArg some (by kernel_rfl))
  f246 := Tryz.func169.trans (congrArg some (by kernel_rfl))
  f247 := Tryz.func145.trans (congrArg some (by kernel_rfl))
  f279 := Tryz.func146.trans (congrArg some (by kernel_rfl))
  f280 := Tryz.func147.trans (congrArg some (by kernel_rfl))
  f281 := Tryz.func148.trans (congrArg some (by kernel_rfl))
  f282 := Tryz.func149.trans (congrArg some (by kernel_rfl))
  f283 := Tryz.func170.trans (congrArg some (by kernel_rfl))
  f284 := Tryz.func171.trans (congrArg some (by kernel_rfl))
  f285 := Tryz.func172.trans (congrArg some (by kernel_rfl))
  f286 := Tryz.func173.trans (congrArg some (by kernel_rfl))
  f287 := Tryz.func160.trans (congrArg some (by kernel_rfl))
  f316 := Tryz.func161.trans (congrArg some (by kernel_rfl))
  f317 := Tryz.func174.trans (congrArg some (by kernel_rfl))
  f318 := Tryz.func176.trans (congrArg some (by kernel_rfl))
  f319 := Tryz.func177.trans (congrArg some (by kernel_rfl))
  f320 := Tryz.func178.trans (congrArg some (by kernel_rfl))
  f321 := Tryz.func165.trans (congrArg some (by kernel_rfl))
  f322 := Tryz.func166.trans (congrArg some (by kernel_rfl))
  f337 := Tryz.func179.trans (congrArg some (by kernel_rfl))
  f338 := Tryz.func42.trans (congrArg some (by kernel_rfl))
  t0 := Tryz.underlying0
  a0 := Tryz.isAgg0
  z0 := Tryz.sizeOf0
  v0 := Tryz.zeroValue0
  t2 := Tryz.underlying2
  a2 := Tryz.isAgg2
  z2 := Tryz.sizeOf2
  v2 := Tryz.zeroValue2
  t3 := Tryz.underlying3
  a3 := Tryz.isAgg3
  z3 := Tryz.sizeOf3
  v3 := Tryz.zeroValue3
  t4 := Tryz.underlying4
  a4 := Tryz.isAgg4
  z4 := Tryz.sizeOf4
  v4 := Tryz.zeroValue4
  t5 := Tryz.underlying5
  a5 := Tryz.isAgg5
  z5 := Tryz.sizeOf5
  v5 := Tryz.zeroValue5
  t9 := Tryz.underlying9
  a9 := Tryz.isAgg9
  z9 := Tryz.sizeOf9
  v9 := Tryz.zeroValue9
  t20 := Tryz.underlying20
  a20 := Tryz.isAgg20
  z20 := Tryz.sizeOf20
  v20 := Tryz.zeroValue20
  t21 := Tryz.underlying21
  a21 := Tryz.isAgg21
  z21 := Tryz.sizeOf21
  v21 := Tryz.zeroValue21
  t37 := Tryz.underlying187
  a37 := Tryz.isAgg187
  z37 := Tryz.sizeOf187
  v37 := Tryz.zeroValue187
  t46 := Tryz.underlying137
  a46 := Tryz.isAgg137
  z46 := Tryz.sizeOf137
  v46 := Tryz.zeroValue137
  t51 := Tryz.underlying221
  a51 := Tryz.isAgg221
  z51 := Tryz.sizeOf221
  v51 := Tryz.zeroValue221
  t53 := Tryz.underlying103
  a53 := Tryz.isAgg103
  z53 := Tryz.sizeOf103
  v53 := Tryz.zeroValue103
  t75 := Tryz.underlying170
  a75 := Tryz.isAgg170
  z75 := Tryz.sizeOf170
  v75 := Tryz.zeroValue170
  t76 := Tryz.underlying171
  a76 := Tryz.isAgg171
  z76 := Tryz.sizeOf171
  v76 := Tryz.zeroValue171
  t85 := Tryz.underlying195
  a85 := Tryz.isAgg195
  z85 := Tryz.sizeOf195
  v85 := Tryz.zeroValue195
  t127 := Tryz.underlying217
  a127 := Tryz.isAgg217
  z127 := Tryz.sizeOf217
  v127 := Tryz.zeroValue217
  t143 := Tryz.underlying218
  a143 := Tryz.isAgg218
  z143 := Tryz.sizeOf218
  v143 := Tryz.zeroValue218
  t145 := Tryz.underlying220
  a145 := Tryz.isAgg220
  z145 := Tryz.sizeOf220
  v145 := Tryz.zeroValue220
  t167 := Tryz.underlying194
  a167 := Tryz.isAgg194
  z167 := Tryz.sizeOf194
  v167 := Tryz.zeroValue194
  t168 := Tryz.underlying197
  a168 := Tryz.isAgg197
  z168 := Tryz.sizeOf197
  v168 := Tryz.zeroValue197
  t171 := Tryz.underlying225
  a171 := Tryz.isAgg225
  z171 := Tryz.sizeOf225
  v171 := Tryz.zeroValue225
  t173 := Tryz.underlying227
  a173 := Tryz.isAgg227
  z173 := Tryz.sizeOf227
  v173 := Tryz.zeroValue227
  t175 := Tryz.underlying209
  a175 := Tryz.isAgg209
  z175 := Tryz.sizeOf209
  v175 := Tryz.zeroValue209
  t210 := Tryz.underlying213
  a210 := Tryz.isAgg213
  z210 := Tryz.sizeOf213
  v210 := Tryz.zeroValue213
  t212 := Tryz.underlying230
  a212 := Tryz.isAgg230
  z212 := Tryz.sizeOf230
  v212 := Tryz.zeroValue230
  t213 := Tryz.underlying231
  a213 := Tryz.isAgg231
  z213 := Tryz.sizeOf231
  t232 := Tryz.underlying234
  a232 := Tryz.isAgg234
  z232 := Tryz.sizeOf234
  v232 := Tryz.zeroValue234
  t233 := Tryz.underlying136
  a233 := Tryz.isAgg136
  z233 := Tryz.sizeOf136
  v233 := Tryz.zeroValue136
  g15 := by kernel_rfl
  g16 := by kernel_rfl
  g17 := by kernel_rfl
  g18 := by kernel_rfl
  g19 := by kernel_rfl }
open Go.RowKit in
theorem Tryz.strconv_Atoi (s : ByteArray) (n : Int) (hl : s.size ≤ 18) (h : Lib.atoi s.data.toList = some n) (w : World) :
    Calls Tryz.prog 110 #[.string s] w fun e w' => e = .returned (.tuple #[.int .i64 n, .nilIface]) ∧ ∃ t, w' = Lib.bytesWorld w 5 t := Any.strconv_Atoi Tryz.lays172 s n hl h w
def Tryz.lays143_ren : Go.Shelf.Ren := ⟨fun | 143 => 142 | 219 => 157 | 217 => 127 | 225 => 156 | 224 => 155 | 267 => 164 | 266 => 140 | 314 => 168 | n => n, fun | 9 => 9 | 3 => 3 | 4 => 4 | 5 => 5 | 46 => 137 | 146 => 222 | 51 => 221 | n => n, fun | 1 => 4 | n => n⟩
theorem Tryz.lays143 : Go.Proofs.Lays.n143 Tryz.prog Tryz.lays143_ren := {
  mixed := by kernel_rfl
  f143 := Tryz.func142.trans (congrArg some (by kernel_rfl))
  f217 := Tryz.func127.trans (congrArg some (by kernel_rfl))
  f219 := Tryz.func157.trans (congrArg some (by kernel_rfl))
  f224 := Tryz.func155.trans (congrArg some (by kernel_rfl))
  f225 := Tryz.func156.trans (congrArg some (by kernel_rfl))
  f266 := Tryz.func140.trans (congrArg some (by kernel_rfl))
  f267 := Tryz.func164.trans (congrArg some (by kernel_rfl))
  f314 := Tryz.func168.trans (congrArg some (by kernel_rfl))
  t3 := Tryz.underlying3
  a3 := Tryz.isAgg3
  z3 := Tryz.sizeOf3
  v3 := Tryz.zeroValue3
  t4 := Tryz.underlying4
  a4 := Tryz.isAgg4
  z4 := Tryz.sizeOf4
  v4 := Tryz.zeroValue4
  t5 := Tryz.underlying5
  a5 := Tryz.isAgg5
  z5 := Tryz.sizeOf5
  v5 := Tryz.zeroValue5
  t9 := Tryz.underlying9
  a9 := Tryz.isAgg9
  z9 := Tryz.sizeOf9
  v9 := Tryz.zeroValue9
  t46 := Tryz.underlying137
  a46 := Tryz.isAgg137
  z46 := Tryz.sizeOf137
  v46 := Tryz.zeroValue137
  t51 := Tryz.underlying221
  a51 := Tryz.isAgg221
  z51 := Tryz.sizeOf221
  v51 := Tryz.zeroValue221
  t146 := Tryz.underlying222
  a146 := Tryz.isAgg222
  z146 := Tryz.sizeOf222
  v146 := Tryz.zeroValue222
  g1 := by kernel_rfl }
open Go.RowKit Go.Lib in
theorem Tryz.strings_Index_one (s : ByteArray) (c : UInt8) (w : World) :
    Calls Tryz.prog 142 #[.string s, .string ⟨#[c]⟩] w fun e w' => e = .returned (.int .i64 (Lib.indexByte s.data.toList c)) ∧ w' = w := Any.strings_Index_one Tryz.lays143 s c w
open Go.RowKit Go.Lib in
theorem Tryz.strings_Index (s sub : ByteArray) (m : Int) (w : World) (hs : s.size < 4294967281) (hm : w.cell? ⟨4, 0, none⟩ = some (.int .i64 m)) :
    Calls Tryz.prog 142 #[.string s, .string sub] w fun e w' => e = .returned (.int .i64 (Lib.index s.data.toList sub.data.toList)) ∧ w' = w := Any.strings_Index Tryz.lays143 s sub m w hs hm
def Tryz.lays146_ren : Go.Shelf.Ren := ⟨fun | 146 => 108 | 221 => 129 | 268 => 143 | 138 => 144 | 143 => 142 | 195 => 158 | 197 => 124 | 218 => 159 | 219 => 157 | 260 => 137 | 217 => 127 | 225 => 156 | 224 => 155 | 267 => 164 | 266 => 140 | 314 => 168 | n => n, fun | 9 => 9 | 31 => 146 | 3 => 3 | 4 => 4 | 0 => 0 | 105 => 183 | 21 => 21 | 5 => 5 | 46 => 137 | 119 => 203 | 139 => 206 | 138 => 205 | 146 => 222 | 51 => 221 | n => n, fun | 1 => 4 | 3 => 2 | 4 => 3 | n => n⟩
theorem Tryz.lays146 : Go.Proofs.Lays.n146 Tryz.prog Tryz.lays146_ren := {
  mixed := by kernel_rfl
  f138 := Tryz.func144.trans (congrArg some (by kernel_rfl))
  f143 := Tryz.func142.trans (congrArg some (by kernel_rfl))
  f146 := Tryz.func108.trans (congrArg some (by kernel_rfl))
  f195 := Tryz.func158.trans (congrArg some (by kernel_rfl))
  f197 := Tryz.func124.trans (congrArg some (by kernel_rfl))
  f217 := Tryz.func127.trans (congrArg some (by kernel_rfl))
  f218 := Tryz.func159.trans (congrArg some (by kernel_rfl))
  f219 := Tryz.func157.trans (congrArg some (by kernel_rfl))
  f221 := Tryz.func129.trans (congrArg some (by kernel_rfl))
  f224 := Tryz.func155.trans (congrArg some (by kernel_rfl))
  f225 := Tryz.func156.trans (congrArg some (by kernel_rfl))
  f260 := Tryz.func137.trans (congrArg some (by kernel_rfl))
  f266 := Tryz.func140.trans (congrArg some (by kernel_rfl))
  f267 := Tryz.func164.trans (congrArg some (by kernel_rfl))
  f268 := Tryz.func143.trans (congrArg some (by kernel_rfl))
  f314 := Tryz.func168.trans (congrArg some (by kernel_rfl))
  t0 := Tryz.underlying0
  a0 := Tryz.isAgg0
  z0 := Tryz.sizeOf0
  v0 := Tryz.zeroValue0
  t3 := Tryz.underlying3
  a3 := Tryz.isAgg3
  z3 := Tryz.sizeOf3
  v3 := Tryz.zeroValue3
  t4 := Tryz.underlying4
  a4 := Tryz.isAgg4
  z4 := Tryz.sizeOf4
  v4 := Tryz.zeroValue4
  t5 := Tryz.underlying5
  a5 := Tryz.isAgg5
  z5 := Tryz.sizeOf5
  v5 := Tryz.zeroValue5
  t9 := Tryz.underlying9
  a9 := Tryz.isAgg9
  z9 := Tryz.sizeOf9
  v9 := Tryz.zeroValue9
  t21 := Tryz.underlying21
  a21 := Tryz.isAgg21
  z21 := Tryz.sizeOf21
  v21 := Tryz.zeroValue21
  t31 := Tryz.underlying146
  a31 := Tryz.isAgg146
  z31 := Tryz.sizeOf146
  v31 := Tryz.zeroValue146
  t46 := Tryz.underlying137
  a46 := Tryz.isAgg137
  z46 := Tryz.sizeOf137
  v46 := Tryz.zeroValue137
  t51 := Tryz.underlying221
  a51 := Tryz.isAgg221
  z51 := Tryz.sizeOf221
  v51 := Tryz.zeroValue221
  t105 := Tryz.underlying183
  a105 := Tryz.isAgg183
  z105 := Tryz.sizeOf183
  v105 := Tryz.zeroValue183
  t119 := Tryz.underlying203
  a119 := Tryz.isAgg203
  z119 := Tryz.sizeOf203
  t138 := Tryz.underlying205
  a138 := Tryz.isAgg205
  z138 := Tryz.sizeOf205
  v138 := Tryz.zeroValue205
  t139 := Tryz.underlying206
  a139 := Tryz.isAgg206
  z139 := Tryz.sizeOf206
  v139 := Tryz.zeroValue206
  t146 := Tryz.underlying222
  a146 := Tryz.isAgg222
  z146 := Tryz.sizeOf222
  v146 := Tryz.zeroValue222
  g1 := by kernel_rfl
  g3 := by kernel_rfl
  g4 := by kernel_rfl }
open Go.RowKit Go.Lib in
theorem Tryz.strings_Split (s sep : ByteArray) (m : Int) (w : World) (hs : s.size < 4294967281) (hm : w.cell? ⟨4, 0, none⟩ = some (.int .i64 m)) (h1 : 1 ≤ sep.size) :
    Calls Tryz.prog 108 #[.string s, .string sep] w fun e w' =>
      e = .returned (.slice (some ⟨w.heap.size, 0, none⟩) (Lib.countB s sep + 1) (Lib.countB s sep + 1)) ∧ w' = w.alloc (.cells ((Lib.splitB sep 0 (Lib.countB s sep) s).map Value.string).toArray 9) := Any.strings_Split Tryz.lays146 (by kernel_rfl) s sep m w hs hm h1
end Go.Proofs

set_option linter.unusedVariables false
set_option linter.unusedSimpArgs false
namespace Go.Lg.Sem
open Go Go.Lib
def toBytes (l : List UInt8) : ByteArray := ⟨l.toArray⟩
theorem data_length (s : ByteArray) : s.data.toList.length = s.size := by simp
def okB (c : Nat) : Bool := (decide (48 ≤ c) && decide (c ≤ 57)) || (decide (97 ≤ c) && decide (c ≤ 122))
def digits : ByteArray := ⟨#[48, 49, 50, 51, 52, 53, 54, 55, 56, 57]⟩
theorem ba_toList_loop (s : ByteArray) : ∀ (n i : Nat) (r : List UInt8), s.size - i = n → ByteArray.toList.loop s i r = r.reverse ++ s.data.toList.drop i := by
  intro n
  induction n with
  | zero =>
    intro i r h
    unfold ByteArray.toList.loop
    rw [if_neg (by omega), List.drop_of_length_le (by rw [data_length]; omega), List.append_nil]
  | succ n ih =>
    intro i r h
    have hi : i < s.size := by omega
    unfold ByteArray.toList.loop
    rw [if_pos hi, ih (i + 1) _ (by omega)]
    have hl : i < s.data.toList.length := by rw [data_length]; exact hi
    rw [List.drop_eq_getElem_cons hl]
    simp only [List.reverse_cons, List.append_assoc, List.singleton_append]
    congr 2
    have h2 : i < s.data.size := hi
    exact getElem!_pos s.data i h2
theorem ba_toList (s : ByteArray) : s.toList = s.data.toList := by
  unfold ByteArray.toList; rw [ba_toList_loop s s.size 0 [] (by omega)]; simp
def isDig (b : UInt8) : Bool := decide (48 ≤ b.toNat) && decide (b.toNat ≤ 57)
def numL (l : List UInt8) : Bool := !l.isEmpty && decide (l.length ≤ 6) && !(decide (l.head? = some 48) && decide (l.length ≠ 1)) && l.all isDig
def markL (l : List UInt8) : Bool := !l.isEmpty && decide (l.length ≤ 10) && l.all (fun b => okB b.toNat) && (!(l.all isDig) || numL l)
theorem digits_contains (b : UInt8) : digits.data.toList.contains b = isDig b := by
  have h : ∀ n : Fin 256, digits.data.toList.contains (UInt8.ofNat n.1) = isDig (UInt8.ofNat n.1) := by decide +kernel
  have := h ⟨b.toNat, b.toNat_lt⟩
  simpa using this
theorem dropWhile_nil {α : Type} (p : α → Bool) (l : List α) : (l.dropWhile p = []) ↔ l.all p = true := by
  induction l with
  | nil => simp
  | cons x l ih =>
    by_cases h : p x = true
    · simp [List.dropWhile_cons, h, ih]
    · simp [List.dropWhile_cons, h]
theorem all_of_dropWhile {α : Type} (p : α → Bool) (l : List α) (h : (l.dropWhile p).all p = true) : l.all p = true := by
  induction l with
  | nil => rfl
  | cons x l ih =>
    by_cases hx : p x = true
    · rw [List.dropWhile_cons, if_pos hx] at h
      simp [hx]; simpa using ih h
    · rw [List.dropWhile_cons, if_neg hx] at h
      exact h
theorem trim_nil (l : List UInt8) : (Lib.trimS l digits.data.toList = []) ↔ l.all isDig = true := by
  have hf : (fun b => digits.data.toList.contains b) = isDig := funext digits_contains
  unfold Lib.trimS Lib.trimLeftS Lib.trimRightS
  rw [hf, dropWhile_nil]
  constructor
  · intro h
    rw [List.all_reverse] at h
    have := all_of_dropWhile isDig l.reverse h
    rwa [List.all_reverse] at this
  · intro h
    have h2 : l.reverse.dropWhile isDig = [] := (dropWhile_nil _ _).2 (by rw [List.all_reverse]; exact h)
    rw [h2]; rfl
theorem toBytes_toList (l : List UInt8) : (toBytes l).toList = l := by rw [ba_toList]; simp [toBytes]
theorem trim_empty (s : ByteArray) : ((toBytes (Lib.trimS s.data.toList digits.data.toList)).toList == ([] : List UInt8)) = s.data.toList.all isDig := by
  rw [toBytes_toList, Bool.eq_iff_iff, beq_iff_eq, trim_nil]
def pieces (sep s : ByteArray) : List ByteArray := Lib.splitB sep 0 (Lib.countB s sep) s
theorem pieces_miss (sep s : ByteArray) (h : Lib.indexB s sep = -1) : pieces sep s = [s] := Lib.splitB_miss _ _ _ _ h
theorem pieces_hit (sep s : ByteArray) (h1 : 1 ≤ sep.size) (i : Nat) (h : Lib.indexB s sep = i) : pieces sep s = s.extract 0 i :: pieces sep (s.extract (i + sep.size) s.size) := by
  unfold pieces
  rw [Lib.countB_hit s sep i h1 h, Nat.add_comm 1, Lib.splitB_hit _ _ _ _ i h]
  rfl
def seqV (B : Nat) : Value := .func (.func 73) #[] #[.pointer (some ⟨B + 1, 0, none⟩), .pointer (some ⟨B, 0, none⟩), .pointer (some ⟨B + 2, 0, none⟩)]
def seqB (B : Nat) : Array Value := #[.pointer (some ⟨B + 1, 0, none⟩), .pointer (some ⟨B, 0, none⟩), .pointer (some ⟨B + 2, 0, none⟩)]
def dot : ByteArray := ⟨#[46]⟩
def preB (s : ByteArray) : Bool := decide ((pieces dot s).length ≤ 4) && (pieces dot s).all (fun p => markL p.data.toList)
def decV (acc : Nat) (l : List UInt8) : Nat := l.foldl (fun a b => a * 10 + (b.toNat - 48)) acc
def numV (l : List UInt8) : Int := (decV 0 l : Nat)
def numP (p : ByteArray) : Bool := numL p.data.toList
def valP (p : ByteArray) : Int := numV p.data.toList
theorem decFrom_digits : ∀ (l : List UInt8) (acc : Nat), l.all isDig = true → Lib.decFrom acc l = some (decV acc l) := by
  intro l
  induction l with
  | nil => intro acc _; rfl
  | cons b t ih =>
    intro acc h
    simp only [List.all_cons, Bool.and_eq_true] at h
    have hb : 48 ≤ b.toNat ∧ b.toNat ≤ 57 := by simpa [isDig] using h.1
    simp only [Lib.decFrom, Lib.digitVal, if_pos hb, ih _ h.2]
    rfl
theorem numL_parts {l : List UInt8} (h : numL l = true) : l ≠ [] ∧ l.length ≤ 6 ∧ l.all isDig = true ∧ ¬ (l.head? = some 48 ∧ l.length ≠ 1) := by
  simp only [numL, Bool.and_eq_true, Bool.not_eq_true', decide_eq_true_eq, List.isEmpty_eq_false_iff] at h
  obtain ⟨⟨⟨h1, h2⟩, h3⟩, h4⟩ := h
  refine ⟨h1, h2, h4, fun hc => ?_⟩
  rw [decide_eq_true hc.1, decide_eq_true hc.2] at h3
  simp at h3
def pv (ps : List ByteArray) (k j : Nat) : Int := if j < k then valP (ps.getD j ByteArray.empty) else 0
def cmpS (a b : ByteArray) : Int := if Op.bytesLess a.toList b.toList = true then -1 else if (a.toList == b.toList) = true then 0 else 1
def cmpI (a b : Int) : Int := if a < b then -1 else if a > b then 1 else 0
def cmpM (p q : ByteArray) : Int :=
  if numP p = true then (if numP q = true then cmpI (valP p) (valP q) else -1) else if numP q = true then 1 else cmpS p q
def cmpL (m n : Nat) : List ByteArray → List ByteArray → Int
  | p :: x, q :: y => if p.toList = q.toList then cmpL m n x y else cmpM p q
  | _, _ => cmpI m n
def marksV (a b : ByteArray) : Int :=
  if a.toList = [] ∨ b.toList = [] then cmpI b.size a.size else cmpL (pieces dot a).length (pieces dot b).length (pieces dot a) (pieces dot b)
theorem pieces_len (s : ByteArray) : (pieces dot s).length ≤ s.size + 1 := by
  unfold pieces
  rw [Lib.splitB_all dot (by decide) 0 _ s rfl]
  have := Lib.countB_le dot (by decide) s.size s (Nat.le_refl _)
  omega
def b8 (s : ByteArray) (j : Nat) : UInt8 := s.data.toList.getD j 0
theorem isDig_iff (b : UInt8) : isDig b = true ↔ 48 ≤ b.toNat ∧ b.toNat ≤ 57 := by simp [isDig]
theorem decV_snoc (a : Nat) (l : List UInt8) (b : UInt8) : decV a (l ++ [b]) = decV a l * 10 + (b.toNat - 48) := by simp [decV]
theorem decV_lt_acc : ∀ (l : List UInt8) (a : Nat), l.all isDig = true → decV a l < (a + 1) * 10 ^ l.length := by
  intro l
  induction l with
  | nil => intro a _; simp [decV]
  | cons b t ih =>
    intro a h
    simp only [List.all_cons, Bool.and_eq_true] at h
    have hb := (isDig_iff b).1 h.1
    have h1 := ih (a * 10 + (b.toNat - 48)) h.2
    have h2 : (a * 10 + (b.toNat - 48) + 1) * 10 ^ t.length ≤ ((a + 1) * 10) * 10 ^ t.length := Nat.mul_le_mul_right _ (by omega)
    rw [List.length_cons, Nat.pow_succ, Nat.mul_comm (10 ^ t.length) 10, ← Nat.mul_assoc]
    exact Nat.lt_of_lt_of_le h1 h2
theorem decV_lt (l : List UInt8) (h : l.all isDig = true) : decV 0 l < 10 ^ l.length := by have := decV_lt_acc l 0 h; simpa using this
def numO (s : ByteArray) : Int × Bool := if numP s = true then (valP s, true) else (0, false)
def one (c : UInt8) : ByteArray := ⟨#[c]⟩
theorem ext_data (s : ByteArray) (a b : Nat) : (s.extract a b).data.toList = (s.data.toList.take b).drop a := by
  simp [ByteArray.data_extract, List.extract_eq_take_drop, List.drop_take]
theorem occ_one (l : List UInt8) (c : UInt8) (j : Nat) : Lib.occAt l [c] j = decide (l[j]? = some c) := by
  unfold Lib.occAt
  cases h : l.drop j with
  | nil =>
    have : l[j]? = none := by rw [List.getElem?_eq_none_iff]; exact List.drop_eq_nil_iff.1 h
    rw [this]; rfl
  | cons x t =>
    have : l[j]? = some x := by have := congrArg (·[0]?) h; simpa using this
    rw [this]
    simp [List.isPrefixOf]
    rw [Bool.eq_iff_iff]; simp; exact eq_comm
theorem ext_at (s : ByteArray) (a j : Nat) : (s.extract a s.size).data.toList[j]? = s.data.toList[a + j]? := by
  rw [ext_data, List.take_of_length_le (by rw [data_length]; exact Nat.le_refl _), List.getElem?_drop]
theorem b8_get (s : ByteArray) (j : Nat) (h : j < s.size) : s.data.toList[j]? = some (b8 s j) := by
  have h2 : j < s.data.toList.length := by rw [data_length]; exact h
  unfold b8; rw [List.getD_eq_getElem?_getD, List.getElem?_eq_getElem h2]; rfl
theorem indexB_one (s : ByteArray) (c : UInt8) (a i : Nat) (hai : a ≤ i) (hi : i < s.size) (hc : b8 s i = c) (hno : ∀ j, a ≤ j → j < i → b8 s j ≠ c) : Lib.indexB (s.extract a s.size) (one c) = ((i - a : Nat) : Int) := by
  show Lib.index _ [c] = _
  refine Lib.index_first ?_ ?_ ?_
  · rw [ext_data, List.length_drop, List.length_take, data_length]; omega
  · rw [occ_one, ext_at, b8_get s _ (by omega)]
    rw [show a + (i - a) = i by omega, hc]; simp
  · intro j hj
    rw [occ_one, ext_at, b8_get s _ (by omega)]
    simp; exact hno _ (by omega) (by omega)
theorem indexB_none (s : ByteArray) (c : UInt8) (a : Nat) (hno : ∀ j, a ≤ j → j < s.size → b8 s j ≠ c) : Lib.indexB (s.extract a s.size) (one c) = -1 := by
  show Lib.index _ [c] = _
  refine Lib.index_none ?_
  intro j _
  rw [occ_one, ext_at]
  by_cases h : a + j < s.size
  · rw [b8_get s _ h]; simp; exact hno _ (by omega) h
  · rw [List.getElem?_eq_none_iff.2 (by rw [data_length]; omega)]; rfl
theorem ext_ext (s : ByteArray) (a b c d : Nat) (h0 : a ≤ b) (h : d ≤ b - a) : (s.extract a b).extract c d = s.extract (a + c) (a + d) := by
  apply ByteArray.ext; apply Array.ext'
  rw [ext_data, ext_data, ext_data, List.take_drop, List.drop_drop, List.take_take]
  congr 2
  omega
theorem ext_all (s : ByteArray) : s.extract 0 s.size = s := by
  apply ByteArray.ext; apply Array.ext'
  rw [ext_data, List.drop_zero, List.take_of_length_le (by rw [data_length]; exact Nat.le_refl _)]
def preO (s : ByteArray) : Bool := s.toList.isEmpty || preB s
def inN (n : Int) : Bool := decide (0 ≤ n) && decide (n ≤ 999999)
def rightB (a b c : Int) (p : ByteArray) : Bool := inN a && (inN b && (inN c && preO p))
theorem cmpI_zero {a b : Int} : cmpI a b = 0 ↔ a = b := by unfold cmpI; split; omega; split <;> omega
theorem cmpI_rng (a b : Int) : cmpI a b = -1 ∨ cmpI a b = 0 ∨ cmpI a b = 1 := by unfold cmpI; split; simp; split <;> simp
def orL : List Int → Int
  | [] => 0
  | x :: l => if x = 0 then orL l else x
def cmpV (a b c : Int) (p : ByteArray) (a' b' c' : Int) (p' : ByteArray) : Int := orL [cmpI a a', cmpI b b', cmpI c c', cmpI (marksV p p') 0]
def t2 : ByteArray := ⟨#[49, 46, 48, 46, 48]⟩
def t3 : ByteArray := ⟨#[48, 49, 46, 48, 46, 48]⟩
structure OrdOn {α : Type} (S : α → Prop) (f : α → α → Int) : Prop where
  rng : ∀ a b, f a b = -1 ∨ f a b = 0 ∨ f a b = 1
  anti : ∀ a b, S a → S b → f a b = - f b a
  zero : ∀ a b, S a → S b → f a b = 0 → a = b
  self : ∀ a, S a → f a a = 0
  trans : ∀ a b c, S a → S b → S c → f a b ≤ 0 → f b c ≤ 0 → f a c ≤ 0
theorem OrdOn.trans_lt {α : Type} {S : α → Prop} {f : α → α → Int} (o : OrdOn S f) {a b c : α} (ha : S a) (hb : S b) (hc : S c) (h1 : f a b ≤ 0) (h2 : f b c ≤ 0) (h : f a b = -1 ∨ f b c = -1) : f a c = -1 := by
  have h3 := o.trans a b c ha hb hc h1 h2
  rcases o.rng a c with h4 | h4 | h4
  · exact h4
  · exfalso
    have e := o.zero a c ha hc h4
    subst e
    have := o.anti a b ha hb
    have := o.anti b a hb ha
    rcases h with h | h <;> omega
  · omega
def lexL {α : Type} (f : α → α → Int) : List α → List α → Int
  | [], [] => 0
  | [], _ :: _ => -1
  | _ :: _, [] => 1
  | a :: x, b :: y => if f a b = 0 then lexL f x y else f a b
theorem ordL {α : Type} {S : α → Prop} {f : α → α → Int} (o : OrdOn S f) : OrdOn (fun l => ∀ x ∈ l, S x) (lexL f) := by
  refine ⟨?_, ?_, ?_, ?_, ?_⟩
  · intro a
    induction a with
    | nil => intro b; cases b <;> simp [lexL]
    | cons x a ih => intro b; cases b with
      | nil => simp [lexL]
      | cons y b => unfold lexL; split; exact ih b; exact o.rng x y
  · intro a
    induction a with
    | nil => intro b _ _; cases b <;> simp [lexL]
    | cons x a ih => intro b ha hb; cases b with
      | nil => simp [lexL]
      | cons y b =>
        have h1 := o.anti x y (ha _ List.mem_cons_self) (hb _ List.mem_cons_self)
        have := ih b (fun z hz => ha z (List.mem_cons_of_mem _ hz)) (fun z hz => hb z (List.mem_cons_of_mem _ hz))
        unfold lexL
        by_cases e : f x y = 0
        · rw [if_pos e, if_pos (by omega)]; exact this
        · rw [if_neg e, if_neg (by omega)]; exact h1
  · intro a
    induction a with
    | nil => intro b _ _ h; cases b with
      | nil => rfl
      | cons y b => simp [lexL] at h
    | cons x a ih => intro b ha hb h; cases b with
      | nil => simp [lexL] at h
      | cons y b =>
        unfold lexL at h
        by_cases e : f x y = 0
        · rw [if_pos e] at h
          rw [o.zero x y (ha _ List.mem_cons_self) (hb _ List.mem_cons_self) e, ih b (fun z hz => ha z (List.mem_cons_of_mem _ hz)) (fun z hz => hb z (List.mem_cons_of_mem _ hz)) h]
        · rw [if_neg e] at h; exact absurd h e
  · intro a
    induction a with
    | nil => intro _; rfl
    | cons x a ih =>
      intro ha
      unfold lexL; rw [if_pos (o.self x (ha _ List.mem_cons_self))]
      exact ih (fun z hz => ha z (List.mem_cons_of_mem _ hz))
  · intro a
    induction a with
    | nil => intro b c _ _ _ _ _; cases c <;> simp [lexL]
    | cons x a ih =>
      intro b c ha hb hc h1 h2
      cases b with
      | nil => simp [lexL] at h1
      | cons y b =>
        cases c with
        | nil => simp [lexL] at h2
        | cons z c =>
          have sx := ha x List.mem_cons_self
          have sy := hb y List.mem_cons_self
          have sz := hc z List.mem_cons_self
          have ta := fun z hz => ha z (List.mem_cons_of_mem _ hz)
          have tb := fun z hz => hb z (List.mem_cons_of_mem _ hz)
          have tc := fun z hz => hc z (List.mem_cons_of_mem _ hz)
          unfold lexL at h1 h2 ⊢
          by_cases e1 : f x y = 0
          · rw [if_pos e1] at h1
            have := o.zero x y sx sy e1
            subst this
            by_cases e2 : f x z = 0
            · rw [if_pos e2] at h2 ⊢; exact ih b c ta tb tc h1 h2
            · rw [if_neg e2] at h2 ⊢; exact h2
          · rw [if_neg e1] at h1
            by_cases e2 : f y z = 0
            · have := o.zero y z sy sz e2
              subst this
              rw [if_neg e1]; exact h1
            · rw [if_neg e2] at h2
              have h3 := o.trans_lt sx sy sz h1 h2 (by rcases o.rng x y with h | h | h <;> omega)
              rw [if_neg (by omega)]; omega
theorem ordI : OrdOn (fun _ => True) cmpI := by
  refine ⟨cmpI_rng, ?_, ?_, ?_, ?_⟩
  · intro a b _ _; unfold cmpI; (repeat' split) <;> omega
  · intro a b _ _ h; exact cmpI_zero.1 h
  · intro a _; exact cmpI_zero.2 rfl
  · intro a b c _ _ _; unfold cmpI; (repeat' split) <;> omega
def cmpB (a b : UInt8) : Int := cmpI (a.toNat : Int) (b.toNat : Int)
theorem ordB : OrdOn (fun _ => True) cmpB := by
  refine ⟨fun _ _ => cmpI_rng _ _, fun a b _ _ => ordI.anti _ _ trivial trivial, ?_, fun a _ => ordI.self _ trivial, fun a b c _ _ _ => ordI.trans _ _ _ trivial trivial trivial⟩
  intro a b _ _ h
  have := cmpI_zero.1 h
  rw [← UInt8.toNat_inj]; omega
theorem less_lex : ∀ (x y : List UInt8), (if Op.bytesLess x y = true then (-1 : Int) else if (x == y) = true then 0 else 1) = lexL cmpB x y := by
  intro x
  induction x with
  | nil => intro y; cases y <;> simp [Op.bytesLess, lexL]
  | cons a x ih =>
    intro y
    cases y with
    | nil => simp [Op.bytesLess, lexL]
    | cons b y =>
      have h := ih y
      unfold lexL Op.bytesLess
      by_cases hab : a = b
      · subst hab
        rw [if_pos (ordB.self a trivial), ← h]
        simp
      · have hne : cmpB a b ≠ 0 := fun e => hab (ordB.zero a b trivial trivial e)
        rw [if_neg hne]
        have hbeq : (a == b) = false := by simpa using hab
        simp only [hbeq, Bool.false_and, Bool.or_false, List.cons_beq_cons]
        have hcb : cmpB a b = if (a.toNat : Int) < (b.toNat : Int) then -1 else if (a.toNat : Int) > (b.toNat : Int) then 1 else 0 := rfl
        by_cases hlt : a < b
        · have : a.toNat < b.toNat := UInt8.lt_iff_toNat_lt.1 hlt
          have e : cmpB a b = -1 := by rw [hcb, if_pos (by omega)]
          rw [e]; simp [hlt]
        · have h1 : ¬ a.toNat < b.toNat := fun e => hlt (UInt8.lt_iff_toNat_lt.2 e)
          have h2 : a.toNat ≠ b.toNat := fun e => hab (UInt8.toNat_inj.1 e)
          have e : cmpB a b = 1 := by rw [hcb, if_neg (by omega), if_pos (by omega)]
          rw [e]; simp [hlt]
theorem cmpS_lex (p q : ByteArray) : cmpS p q = lexL cmpB p.data.toList q.data.toList := by
  unfold cmpS; rw [ba_toList, ba_toList]; exact less_lex _ _
theorem bytes_ext {p q : ByteArray} (h : p.data.toList = q.data.toList) : p = q := by apply ByteArray.ext; apply Array.ext'; exact h
theorem ordS : OrdOn (fun _ => True) cmpS := by
  have o := ordL ordB
  have t : ∀ p : ByteArray, ∀ x ∈ p.data.toList, True := fun _ _ _ => trivial
  refine ⟨fun a b => by rw [cmpS_lex]; exact o.rng _ _, fun a b _ _ => by rw [cmpS_lex, cmpS_lex]; exact o.anti _ _ (t a) (t b), fun a b _ _ h => ?_, fun a _ => by rw [cmpS_lex]; exact o.self _ (t a), fun a b c _ _ _ => by rw [cmpS_lex, cmpS_lex, cmpS_lex]; exact o.trans _ _ _ (t a) (t b) (t c)⟩
  rw [cmpS_lex] at h
  exact bytes_ext (o.zero _ _ (t a) (t b) h)
theorem decV_inj : ∀ (n : Nat) (x y : List UInt8), x.length = n → x.all isDig = true → y.all isDig = true → x.length = y.length → decV 0 x = decV 0 y → x = y := by
  intro n
  induction n with
  | zero => intro x y hx _ _ hl _; rw [List.eq_nil_of_length_eq_zero hx]; rw [hx] at hl; rw [List.eq_nil_of_length_eq_zero hl.symm]
  | succ n ih =>
    intro x y hx hdx hdy hl he
    obtain ⟨x', a, rfl⟩ : ∃ x' a, x = x' ++ [a] := ⟨x.dropLast, x.getLast (by intro e; rw [e] at hx; cases hx), (List.dropLast_concat_getLast _).symm⟩
    obtain ⟨y', b, rfl⟩ : ∃ x' a, y = x' ++ [a] := ⟨y.dropLast, y.getLast (by intro e; rw [e] at hl; rw [hx] at hl; cases hl), (List.dropLast_concat_getLast _).symm⟩
    rw [List.all_append, Bool.and_eq_true] at hdx hdy
    have ha := (isDig_iff a).1 (by simpa using hdx.2)
    have hb := (isDig_iff b).1 (by simpa using hdy.2)
    rw [decV_snoc, decV_snoc] at he
    have e1 : a = b := by rw [← UInt8.toNat_inj]; omega
    have e2 := ih x' y' (by simpa using hx) hdx.1 hdy.1 (by simpa using hl) (by omega)
    rw [e1, e2]
theorem decV_ge : ∀ (l : List UInt8) (a : Nat), a * 10 ^ l.length ≤ decV a l := by
  intro l
  induction l with
  | nil => intro a; simp [decV]
  | cons b t ih =>
    intro a
    have h := ih (a * 10 + (b.toNat - 48))
    have h2 : (a * 10) * 10 ^ t.length ≤ (a * 10 + (b.toNat - 48)) * 10 ^ t.length := Nat.mul_le_mul_right _ (by omega)
    rw [List.length_cons, Nat.pow_succ, Nat.mul_comm (10 ^ t.length) 10, ← Nat.mul_assoc]
    exact Nat.le_trans h2 h
theorem num_len (x y : List UInt8) (hx : numL x = true) (hy : numL y = true) (h : decV 0 x = decV 0 y) : ¬ x.length < y.length := by
  intro hlt
  obtain ⟨hx1, hx2, hx3, hx4⟩ := numL_parts hx
  obtain ⟨hy1, hy2, hy3, hy4⟩ := numL_parts hy
  have hb := decV_lt x hx3
  cases y with
  | nil => exact hy1 rfl
  | cons b t =>
    have hxl : 1 ≤ x.length := List.length_pos_iff.2 hx1
    have ht : 1 ≤ t.length := by simp at hlt; omega
    have hbd := (isDig_iff b).1 (by simp only [List.all_cons, Bool.and_eq_true] at hy3; exact hy3.1)
    have hne : b ≠ 48 := fun e => hy4 ⟨by rw [e]; rfl, by simp; intro e2; rw [e2] at ht; simp at ht⟩
    have hb1 : 49 ≤ b.toNat := by
      have : b.toNat ≠ 48 := fun e => hne (by rw [← UInt8.toNat_inj]; exact e)
      omega
    have hge := decV_ge t (b.toNat - 48)
    have e : decV 0 (b :: t) = decV (b.toNat - 48) t := by simp [decV]
    rw [e] at h
    have h3 : 1 * 10 ^ t.length ≤ (b.toNat - 48) * 10 ^ t.length := Nat.mul_le_mul_right _ (by omega)
    have h4 : 10 ^ x.length ≤ 10 ^ t.length := Nat.pow_le_pow_right (by decide) (by simp at hlt; omega)
    omega
theorem valP_inj {p q : ByteArray} (hp : numP p = true) (hq : numP q = true) (h : valP p = valP q) : p = q := by
  have h' : decV 0 p.data.toList = decV 0 q.data.toList := by unfold valP numV at h; omega
  have h1 := num_len _ _ hp hq h'
  have h2 := num_len _ _ hq hp h'.symm
  exact bytes_ext (decV_inj _ _ _ rfl (numL_parts hp).2.2.1 (numL_parts hq).2.2.1 (by omega) h')
theorem ordM : OrdOn (fun _ => True) cmpM := by
  refine ⟨?_, ?_, ?_, ?_, ?_⟩
  · intro a b; unfold cmpM; (repeat' split) <;> first | exact cmpI_rng _ _ | exact ordS.rng _ _ | simp
  · intro a b _ _
    unfold cmpM
    cases ha : numP a <;> cases hb : numP b <;> simp
    · exact ordS.anti a b trivial trivial
    · exact ordI.anti _ _ trivial trivial
  · intro a b _ _ h
    unfold cmpM at h
    cases ha : numP a <;> cases hb : numP b <;> simp [ha, hb] at h
    · exact ordS.zero a b trivial trivial h
    · exact valP_inj ha hb (cmpI_zero.1 h)
  · intro a _
    unfold cmpM
    cases ha : numP a <;> simp
    · exact ordS.self a trivial
    · exact ordI.self _ trivial
  · intro a b c _ _ _ h1 h2
    unfold cmpM at h1 h2 ⊢
    cases ha : numP a <;> cases hb : numP b <;> cases hc : numP c <;> simp [ha, hb, hc] at h1 h2 ⊢
    · exact ordS.trans a b c trivial trivial trivial h1 h2
    · exact ordI.trans _ _ _ trivial trivial trivial h1 h2
def joinC (c : UInt8) : List ByteArray → List UInt8
  | [] => []
  | [x] => x.data.toList
  | x :: y :: l => x.data.toList ++ c :: joinC c (y :: l)
theorem pieces_ne (sep s : ByteArray) : pieces sep s ≠ [] := by
  unfold pieces
  cases Lib.countB s sep with
  | zero => simp [Lib.splitB]
  | succ k => unfold Lib.splitB; split <;> simp
theorem joinC_cons (c : UInt8) (x : ByteArray) (l : List ByteArray) (h : l ≠ []) : joinC c (x :: l) = x.data.toList ++ c :: joinC c l := by
  cases l with
  | nil => exact absurd rfl h
  | cons y l => rfl
theorem first_at (s : ByteArray) (c : UInt8) (h : ∃ i, i < s.size ∧ b8 s i = c) : ∃ i, i < s.size ∧ b8 s i = c ∧ ∀ j, 0 ≤ j → j < i → b8 s j ≠ c := by
  obtain ⟨i0, hi0⟩ := h
  induction i0 using Nat.strongRecOn with
  | _ i0 ih =>
    by_cases h : ∃ j, j < i0 ∧ b8 s j = c
    · obtain ⟨j, hj1, hj2⟩ := h; exact ih j hj1 ⟨by omega, hj2⟩
    · exact ⟨i0, hi0.1, hi0.2, fun j _ hj e => h ⟨j, hj, e⟩⟩
theorem pieces_first (s : ByteArray) (c : UInt8) (i : Nat) (hi : i < s.size) (hc : b8 s i = c) (hno : ∀ j, 0 ≤ j → j < i → b8 s j ≠ c) :
    pieces (one c) s = s.extract 0 i :: pieces (one c) (s.extract (i + 1) s.size) := by
  have hx := indexB_one s c 0 i (Nat.zero_le _) hi hc hno
  rw [ext_all, Nat.sub_zero] at hx
  exact pieces_hit (one c) s (by show 1 ≤ 1; omega) i hx
theorem pieces_none (s : ByteArray) (c : UInt8) (h : ¬ ∃ i, i < s.size ∧ b8 s i = c) : pieces (one c) s = [s] := by
  have hx := indexB_none s c 0 (fun j _ hj e => h ⟨j, hj, e⟩)
  rw [ext_all] at hx
  exact pieces_miss _ _ hx
theorem join_pieces (c : UInt8) : ∀ (n : Nat) (s : ByteArray), s.size = n → joinC c (pieces (one c) s) = s.data.toList := by
  intro n
  induction n using Nat.strongRecOn with
  | _ n ih =>
    intro s hn
    by_cases hd : ∃ i, i < s.size ∧ b8 s i = c
    · obtain ⟨i, hi, hc, hno⟩ := first_at s c hd
      rw [pieces_first s c i hi hc hno, joinC_cons _ _ _ (pieces_ne _ _), ih (s.size - (i + 1)) (by omega) _ (by rw [ByteArray.size_extract]; omega)]
      rw [ext_data, ext_data, List.drop_zero, List.take_of_length_le (show s.data.toList.length ≤ s.size by rw [data_length]; exact Nat.le_refl _)]
      have h2 : i < s.data.toList.length := by rw [data_length]; exact hi
      have e : s.data.toList.drop i = c :: s.data.toList.drop (i + 1) := by
        rw [List.drop_eq_getElem_cons h2]
        congr 1
        have := b8_get s i hi
        rw [List.getElem?_eq_getElem h2] at this
        rw [← hc]; exact Option.some.inj this
      rw [← e, List.take_append_drop]
    · rw [pieces_none s c hd]; rfl
theorem pieces_inj {p q : ByteArray} (h : pieces dot p = pieces dot q) : p = q := by
  have h1 := join_pieces 46 p.size p rfl
  have h2 := join_pieces 46 q.size q rfl
  have e : pieces (one 46) p = pieces (one 46) q := h
  rw [e] at h1
  exact bytes_ext (h1.symm.trans h2)
theorem cmpL_lex : ∀ (x y : List ByteArray) (m n d : Nat), m = x.length + d → n = y.length + d → cmpL m n x y = lexL cmpM x y := by
  intro x
  induction x with
  | nil =>
    intro y m n d hm hn
    cases y with
    | nil => show cmpI (m : Int) (n : Int) = 0; rw [cmpI_zero]; simp at hm hn; omega
    | cons q y => show cmpI (m : Int) (n : Int) = -1; unfold cmpI; simp at hm hn; rw [if_pos (by omega)]
  | cons p x ih =>
    intro y m n d hm hn
    cases y with
    | nil => show cmpI (m : Int) (n : Int) = 1; unfold cmpI; simp at hm hn; rw [if_neg (by omega), if_pos (by omega)]
    | cons q y =>
      simp only [cmpL, lexL]
      by_cases h : p.toList = q.toList
      · have e : p = q := bytes_ext (by rwa [ba_toList, ba_toList] at h)
        subst e
        rw [if_pos rfl, if_pos (ordM.self p trivial)]
        exact ih y m n (d + 1) (by simp at hm; omega) (by simp at hn; omega)
      · rw [if_neg h, if_neg (fun e => h (by rw [ordM.zero p q trivial trivial e]))]
theorem marksV_lex (p q : ByteArray) : marksV p q = if p.toList = [] ∨ q.toList = [] then cmpI q.size p.size else lexL cmpM (pieces dot p) (pieces dot q) := by
  unfold marksV
  split
  · rfl
  · exact cmpL_lex _ _ _ _ 0 rfl rfl
theorem size_nil (p : ByteArray) : p.toList = [] ↔ p.size = 0 := by rw [ba_toList, ← List.length_eq_zero_iff, data_length]
theorem ordP : OrdOn (fun _ => True) marksV := by
  have o := ordL ordM
  have t : ∀ l : List ByteArray, ∀ x ∈ l, True := fun _ _ _ => trivial
  refine ⟨?_, ?_, ?_, ?_, ?_⟩
  · intro a b; rw [marksV_lex]; split
    · exact cmpI_rng _ _
    · exact o.rng _ _
  · intro a b _ _
    rw [marksV_lex, marksV_lex]
    by_cases h : a.toList = [] ∨ b.toList = []
    · rw [if_pos h, if_pos h.symm]; exact ordI.anti _ _ trivial trivial
    · rw [if_neg h, if_neg (fun e => h e.symm)]; exact o.anti _ _ (t _) (t _)
  · intro a b _ _ h
    rw [marksV_lex] at h
    by_cases h2 : a.toList = [] ∨ b.toList = []
    · rw [if_pos h2] at h
      have := cmpI_zero.1 h
      rw [size_nil, size_nil] at h2
      apply bytes_ext
      rw [List.eq_nil_of_length_eq_zero (show a.data.toList.length = 0 by rw [data_length]; omega), List.eq_nil_of_length_eq_zero (show b.data.toList.length = 0 by rw [data_length]; omega)]
    · rw [if_neg h2] at h
      exact pieces_inj (o.zero _ _ (t _) (t _) h)
  · intro a _
    rw [marksV_lex]; split
    · exact ordI.self _ trivial
    · exact o.self _ (t _)
  · intro a b c _ _ _ h1 h2
    rw [marksV_lex] at h1 h2 ⊢
    simp only [size_nil] at h1 h2 ⊢
    by_cases ha : a.size = 0
    · by_cases hb : b.size = 0
      · rw [if_pos (.inl hb)] at h2
        rw [if_pos (.inl ha)]; rw [ha]; rw [hb] at h2; exact h2
      · rw [if_pos (.inl ha), ha] at h1
        unfold cmpI at h1; rw [if_neg (by omega), if_pos (by omega)] at h1; omega
    · by_cases hb : b.size = 0
      · rw [if_pos (.inl hb), hb] at h2
        have hc : c.size = 0 := by
          by_cases hc : c.size = 0
          · exact hc
          · unfold cmpI at h2; rw [if_neg (by omega), if_pos (by omega)] at h2; omega
        rw [if_pos (.inr hc), hc]
        unfold cmpI; rw [if_pos (by omega)]; omega
      · by_cases hc : c.size = 0
        · rw [if_pos (.inr hc), hc]
          unfold cmpI; rw [if_pos (by omega)]; omega
        · rw [if_neg (by omega)] at h1 h2 ⊢
          exact o.trans _ _ _ (t _) (t _) (t _) h1 h2
theorem sign_id (p q : ByteArray) : cmpI (marksV p q) 0 = marksV p q := by
  rcases ordP.rng p q with h | h | h <;> rw [h] <;> rfl
structure Ver where
  a : Int
  b : Int
  c : Int
  p : ByteArray
  deriving DecidableEq
def cmpVer (v w : Ver) : Int := cmpV v.a v.b v.c v.p w.a w.b w.c w.p
theorem cmpVer_eq (v w : Ver) : cmpVer v w = if cmpI v.a w.a = 0 then (if cmpI v.b w.b = 0 then (if cmpI v.c w.c = 0 then marksV v.p w.p else cmpI v.c w.c) else cmpI v.b w.b) else cmpI v.a w.a := by
  unfold cmpVer cmpV
  rw [sign_id]
  simp only [orL]
  by_cases h : marksV v.p w.p = 0
  · rw [if_pos h, h]
  · rw [if_neg h]
theorem lex_step {α : Type} (f : α → α → Int) (x y : List α) (j : Nat) (h1 : j < x.length) (h2 : j < y.length) : lexL f (x.drop j) (y.drop j) = if f x[j] y[j] = 0 then lexL f (x.drop (j + 1)) (y.drop (j + 1)) else f x[j] y[j] := by
  rw [List.drop_eq_getElem_cons h1, List.drop_eq_getElem_cons h2]; rfl
theorem lex_end {α : Type} (f : α → α → Int) (x y : List α) (j : Nat) (hx : j ≤ x.length) (hy : j ≤ y.length) (h : j = x.length ∨ j = y.length) : lexL f (x.drop j) (y.drop j) = cmpI x.length y.length := by
  by_cases h1 : j = x.length
  · subst h1
    rw [List.drop_of_length_le (Nat.le_refl _)]
    by_cases h2 : x.length = y.length
    · rw [h2, List.drop_of_length_le (Nat.le_refl _)]; rw [cmpI_zero.2 rfl]; rfl
    · have : y.drop x.length ≠ [] := fun e => by have := List.drop_eq_nil_iff.1 e; omega
      cases h3 : y.drop x.length with
      | nil => exact absurd h3 this
      | cons a l => show (-1 : Int) = _; unfold cmpI; rw [if_pos (by omega)]
  · have h2 := h.resolve_left h1
    subst h2
    rw [List.drop_of_length_le (Nat.le_refl y.length)]
    have : x.drop y.length ≠ [] := fun e => by have := List.drop_eq_nil_iff.1 e; omega
    cases h3 : x.drop y.length with
    | nil => exact absurd h3 this
    | cons a l => show (1 : Int) = _; unfold cmpI; rw [if_neg (by omega), if_pos (by omega)]
theorem pieces_size (s : ByteArray) : ∀ p ∈ pieces dot s, p.size ≤ s.size := by
  suffices ∀ n (s : ByteArray), s.size = n → ∀ p ∈ pieces (one 46) s, p.size ≤ s.size from this s.size s rfl
  intro n
  induction n using Nat.strongRecOn with
  | _ n ih =>
    intro s hn p hp
    by_cases hd : ∃ i, i < s.size ∧ b8 s i = 46
    · obtain ⟨i, hi, hc, hno⟩ := first_at s 46 hd
      rw [pieces_first s 46 i hi hc hno] at hp
      rcases List.mem_cons.1 hp with rfl | hp
      · rw [ByteArray.size_extract]; omega
      · have hz : (s.extract (i + 1) s.size).size = s.size - (i + 1) := by rw [ByteArray.size_extract]; omega
        have := ih (s.size - (i + 1)) (by omega) _ hz p hp
        omega
    · rw [pieces_none s 46 hd] at hp
      rw [List.mem_singleton.1 hp]; exact Nat.le_refl _
end Go.Lg.Sem

set_option linter.unusedVariables false
set_option linter.unusedSimpArgs false
namespace Go.Lg.Sem
open Go Go.Lib
structure Cmp where
  op : Int
  v : Ver
  deriving DecidableEq
def Ver.right (v : Ver) : Bool := rightB v.a v.b v.c v.p
def Ver.ok (v : Ver) : Prop := v.p.size ≤ 1000000000
theorem Ver.ok.lt {v : Ver} (h : v.ok) : v.p.size < 4294967281 := Nat.lt_of_le_of_lt h (by decide)
def Ver.zero : Ver := ⟨0, 0, 0, ⟨#[]⟩⟩
def bumpN (a b c : Int) (p : ByteArray) (part : Int) : Int × Int × Int :=
  if part = 0 then (a + 1, 0, 0) else if part = 1 then (a, b + 1, 0) else if p.data.toList = [] then (a, b, c + 1) else (a, b, c)
def bumpV (a b c : Int) (p : ByteArray) (part : Int) : (Int × Int × Int) × Int :=
  if rightB a b c p = true ∧ 0 ≤ part ∧ part ≤ 2 then
    (if rightB (bumpN a b c p part).1 (bumpN a b c p part).2.1 (bumpN a b c p part).2.2 ⟨#[]⟩ = true then (bumpN a b c p part, 0) else ((0, 0, 0), 11))
  else ((0, 0, 0), 12)
def cmpIsZero (c : Cmp) : Bool := (c.op == 0) && ((c.v.a == 0) && ((c.v.b == 0) && ((c.v.c == 0) && (c.v.p.data.toList == []))))
def cmpRight (c : Cmp) : Bool := if c.op = 0 then cmpIsZero c else decide (c.op > 0) && (decide (c.op ≤ 7) && c.v.right)
def sizedB (n : Int) : Bool := decide (n ≥ 1) && decide (n ≤ 8)
abbrev Rng := List (List Cmp)
def rngRight (r : Rng) : Bool := r.all (fun l => sizedB l.length && l.all cmpRight) && sizedB r.length
def upPart (c : Cmp) : Int := if c.op = 7 then 1 else if c.v.a > 0 then 0 else if c.v.b = 0 then 2 else 1
def upperV (c : Cmp) : Ver × Bool :=
  (⟨(bumpV c.v.a c.v.b c.v.c ⟨#[]⟩ (upPart c)).1.1, (bumpV c.v.a c.v.b c.v.c ⟨#[]⟩ (upPart c)).1.2.1, (bumpV c.v.a c.v.b c.v.c ⟨#[]⟩ (upPart c)).1.2.2, ⟨#[]⟩⟩, (bumpV c.v.a c.v.b c.v.c ⟨#[]⟩ (upPart c)).2 == 0)
def hasC (c : Cmp) (v : Ver) : Bool :=
  if c.op = 1 then cmpVer v c.v == 0 else if c.op = 2 then decide (cmpVer v c.v < 0) else if c.op = 3 then decide (cmpVer v c.v ≤ 0) else if c.op = 4 then decide (cmpVer v c.v > 0)
  else if c.op = 5 then decide (cmpVer v c.v ≥ 0)
  else if c.op = 6 ∨ c.op = 7 then decide (cmpVer v c.v ≥ 0) && (!(upperV c).2 || decide (cmpVer v (upperV c).1 < 0))
  else true
def hasR (r : Rng) (v : Ver) : Bool := rngRight r && (v.right && r.any fun l => l.all fun c => hasC c v)
def Cmp.ok (c : Cmp) : Prop := c.v.ok
def Rng.ok (r : Rng) : Prop := ∀ l, l ∈ r → l.length ≤ 1073741824 ∧ ∀ c, c ∈ l → c.ok
theorem cut_hit (s : ByteArray) (c : UInt8) (a i : Nat) (ha : a ≤ i) (hi : i < s.size) (hc : b8 s i = c) (hno : ∀ j, a ≤ j → j < i → b8 s j ≠ c) :
    pieces (one c) (s.extract a s.size) = s.extract a i :: pieces (one c) (s.extract (i + 1) s.size) := by
  have hsz : (s.extract a s.size).size = s.size - a := by rw [ByteArray.size_extract]; omega
  have hp := pieces_hit (one c) (s.extract a s.size) (by show 1 ≤ 1; omega) (i - a) (indexB_one s c a i ha hi hc hno)
  rw [hsz, ext_ext _ _ _ _ _ (by omega) (by omega), ext_ext _ _ _ _ _ (by omega) (by omega)] at hp
  rw [show a + 0 = a by omega, show a + (i - a) = i by omega, show a + (i - a + (one c).size) = i + 1 by show a + (i - a + 1) = i + 1; omega, show a + (s.size - a) = s.size by omega] at hp
  exact hp
theorem cut_miss (s : ByteArray) (c : UInt8) (a : Nat) (hno : ∀ j, a ≤ j → j < s.size → b8 s j ≠ c) : pieces (one c) (s.extract a s.size) = [s.extract a s.size] := pieces_miss _ _ (indexB_none s c a hno)
theorem upper_pok (c : Cmp) : (upperV c).1.ok := by
  show (ByteArray.mk #[]).size ≤ 1000000000
  decide
theorem upPart_cases (c : Cmp) : (c.op = 7 → upPart c = 1) ∧ (c.op ≠ 7 → c.v.a > 0 → upPart c = 0) ∧ (c.op ≠ 7 → ¬ c.v.a > 0 → c.v.b = 0 → upPart c = 2) ∧ (c.op ≠ 7 → ¬ c.v.a > 0 → c.v.b ≠ 0 → upPart c = 1) := by
  unfold upPart
  exact ⟨fun h => if_pos h, fun h h2 => by rw [if_neg h, if_pos h2], fun h h2 h3 => by rw [if_neg h, if_neg h2, if_pos h3], fun h h2 h3 => by rw [if_neg h, if_neg h2, if_neg h3]⟩
theorem zero_right {c : Cmp} (h : cmpIsZero c = true) : c.v.right = true := by
  simp only [cmpIsZero, Bool.and_eq_true, beq_iff_eq] at h
  obtain ⟨_, h1, h2, h3, h4⟩ := h
  have : preO c.v.p = true := by unfold preO; rw [ba_toList, h4]; rfl
  simp [Ver.right, rightB, h1, h2, h3, this, inN]
def plainC (c : Cmp) : Bool := decide (c.v.p.size ≤ 100)
def plainL (m : Nat) (l : List Cmp) : Bool := decide (l.length ≤ m) && l.all plainC
def plainR (m : Nat) (r : Rng) : Bool := decide (r.length ≤ m) && r.all (plainL m)
end Go.Lg.Sem

set_option linter.unusedVariables false
namespace Go.Lg.Tryz
open Go Go.Proofs Go.RowKit Go.Lib Go.Shelf Go.Lg.Sem
def tabB (P : Program) : Tab → Bool
  | [] => true
  | (k, d) :: r => tdOk P k d && tabB P r
theorem tabB_ok {P : Program} : ∀ {tab : Tab}, tabB P tab = true → ∀ p, p ∈ tab → tdOk P p.1 p.2 = true
  | (k, d) :: r, h, p, hp => by
    simp only [tabB, Bool.and_eq_true] at h
    rcases List.mem_cons.1 hp with rfl | hp
    · exact h.1
    · exact tabB_ok h.2 p hp
def tab : Tab := [
  (3, ⟨1, 8, .int .i64, [.tr (.sc (.int .i64 0))]⟩),
  (4, ⟨1, 1, .bool, [.tr (.sc (.bool false))]⟩),
  (5, ⟨1, 1, .int .u8, [.tr (.sc (.int .u8 0))]⟩),
  (9, ⟨1, 16, .str, [.tr (.sc (.string ⟨#[]⟩))]⟩),
  (22, ⟨1, 24, .slice 72, [.own 72 []]⟩),
  (24, ⟨1, 24, .struct [(0, 1)], [.own 72 []]⟩),
  (26, ⟨1, 24, .slice 52, [.own 52 []]⟩),
  (28, ⟨1, 24, .struct [(0, 1)], [.own 52 []]⟩),
  (31, ⟨1, 8, .int .i64, [.tr (.sc (.int .i64 0))]⟩),
  (37, ⟨1, 24, .slice 44, [.own 44 []]⟩),
  (39, ⟨2, 32, .struct [(0, 1), (1, 1)], [.tr (.sc (.int .i64 0)), .own 44 []]⟩),
  (41, ⟨2, 32, .struct [(0, 1), (1, 1)], [.tr (.sc (.int .i64 0)), .own 44 []]⟩),
  (44, ⟨2, 16, .array 2 3, [.tr (.sc (.int .i64 0)), .tr (.sc (.int .i64 0))]⟩),
  (45, ⟨1, 24, .slice 3, [.own 3 []]⟩),
  (50, ⟨1, 24, .slice 90, [.own 90 []]⟩),
  (52, ⟨2, 40, .struct [(0, 1), (1, 1)], [.tr (.sc (.string ⟨#[]⟩)), .own 90 []]⟩),
  (54, ⟨1, 24, .slice 61, [.own 61 []]⟩),
  (57, ⟨1, 24, .slice 60, [.own 60 []]⟩),
  (60, ⟨2, 16, .struct [(0, 1), (1, 1)], [.tr (.sc (.int .i64 0)), .tr (.sc (.int .i64 0))]⟩),
  (61, ⟨1, 16, .basic, [.tr (.sc (.complex .f64 0 0))]⟩),
  (70, ⟨1, 24, .slice 78, [.own 78 []]⟩),
  (72, ⟨2, 40, .struct [(0, 1), (1, 1)], [.tr (.sc (.string ⟨#[]⟩)), .own 78 []]⟩),
  (75, ⟨4, 40, .struct [(0, 1), (1, 1), (2, 1), (3, 1)], [.tr (.sc (.int .i64 0)), .tr (.sc (.int .i64 0)), .tr (.sc (.int .i64 0)), .tr (.sc (.string ⟨#[]⟩))]⟩),
  (76, ⟨1, 24, .slice 83, [.own 83 []]⟩),
  (78, ⟨6, 72, .struct [(0, 4), (4, 1), (5, 1)], [.tr (.sc (.int .i64 0)), .tr (.sc (.int .i64 0)), .tr (.sc (.int .i64 0)), .tr (.sc (.string ⟨#[]⟩)), .tr (.sc (.int .i64 0)), .own 83 []]⟩),
  (79, ⟨1, 24, .slice 84, [.own 84 []]⟩),
  (81, ⟨1, 24, .struct [(0, 1)], [.own 84 []]⟩),
  (83, ⟨2, 32, .struct [(0, 1), (1, 1)], [.tr (.sc (.int .i64 0)), .own 84 []]⟩),
  (84, ⟨1, 24, .slice 86, [.own 86 []]⟩),
  (86, ⟨5, 48, .struct [(0, 1), (1, 4)], [.tr (.sc (.int .i64 0)), .tr (.sc (.int .i64 0)), .tr (.sc (.int .i64 0)), .tr (.sc (.int .i64 0)), .tr (.sc (.string ⟨#[]⟩))]⟩),
  (87, ⟨4, 40, .struct [(0, 1), (1, 1), (2, 1), (3, 1)], [.tr (.sc (.int .i64 0)), .tr (.sc (.int .i64 0)), .tr (.sc (.int .i64 0)), .tr (.sc (.string ⟨#[]⟩))]⟩),
  (88, ⟨1, 24, .slice 97, [.own 97 []]⟩),
  (90, ⟨6, 72, .struct [(0, 4), (4, 1), (5, 1)], [.tr (.sc (.int .i64 0)), .tr (.sc (.int .i64 0)), .tr (.sc (.int .i64 0)), .tr (.sc (.string ⟨#[]⟩)), .tr (.sc (.int .i64 0)), .own 97 []]⟩),
  (91, ⟨1, 24, .slice 119, [.own 119 []]⟩),
  (93, ⟨1, 24, .struct [(0, 1)], [.own 119 []]⟩),
  (97, ⟨2, 32, .struct [(0, 1), (1, 1)], [.tr (.sc (.int .i64 0)), .own 119 []]⟩),
  (103, ⟨1, 8, .int .u64, [.tr (.sc (.int .u64 0))]⟩),
  (119, ⟨1, 24, .slice 121, [.own 121 []]⟩),
  (121, ⟨5, 48, .struct [(0, 1), (1, 4)], [.tr (.sc (.int .i64 0)), .tr (.sc (.int .i64 0)), .tr (.sc (.int .i64 0)), .tr (.sc (.int .i64 0)), .tr (.sc (.string ⟨#[]⟩))]⟩),
  (128, ⟨1, 24, .slice 4, [.own 4 []]⟩),
  (134, ⟨1, 24, .slice 103, [.own 103 []]⟩),
  (146, ⟨1, 24, .slice 9, [.own 9 []]⟩),
  (187, ⟨1, 24, .slice 5, [.own 5 []]⟩)]
theorem tab_ok : TabOk Tryz.prog tab := tabOk_of (tabB_ok (by kernel_rfl))
theorem mix_ok : (Tryz.prog).follows .mixedOrders = true := by kernel_rfl
structure Gw (w : World) : Prop where
  most : ∃ m : Int, w.cell? ⟨4, 0, none⟩ = some (.int .i64 m)
  tab : Lib.TabIs Tryz.prog w "internal/strconv.uint64pow10" .u64 Lib.pow10Tab
  big : 8 ≤ w.heap.size
  db : ∀ j, j < Lib.deBruijn64tab.length → w.cell? ⟨0, j, none⟩ = some (.int .u8 (Lib.deBruijn64tab.getD j 0))
theorem pcell_below {w W : World} {p : Addr} {v : Value} (hb : Below w.heap.size w W) (h : w.cell? p = some v) : W.cell? p = some v := by
  have hlt := World.block_lt_of_cell? w p h
  unfold World.cell? at h ⊢
  rw [hb.block _ hlt]; exact h
theorem tab_at : (Tryz.prog).globalNamed "internal/strconv.uint64pow10" = some 7 := by kernel_rfl
theorem Gw.below (w W : World) (h : Gw w) (hb : Below w.heap.size w W) : Gw W :=
  { most := h.most.imp fun m hm => (pcell_below hb hm)
    tab := var?_below hb tab_at (Nat.lt_of_lt_of_le (by decide) h.big) h.tab
    big := Nat.le_trans h.big hb.size
    db := fun j hj => pcell_below hb (h.db j hj)
  }
abbrev str (s : ByteArray) : AV := .tr (.sc (.string s))
abbrev int (n : Int) : AV := .tr (.sc (.int .i64 n))
abbrev bool (b : Bool) : AV := .tr (.sc (.bool b))
theorem trim_ok (s cs : ByteArray) (h1 : s.size ≤ 9223372036854775807) (h2 : cs.size < 4294967281) (h3 : cs.data.toList.all (fun b => b.toNat < 128) = true) :
    Fn Tryz.prog Gw 74 [str s, str cs] [] (· = str (toBytes (Lib.trimS s.data.toList cs.data.toList))) :=
  Fn.of_calls Tryz.func74 rfl rfl rfl rfl fun w _ => Any.strings_Trim_laid Tryz.lays160 (by kernel_rfl) s cs w h1 h2 (fun j b hj => by
      have := List.all_eq_true.1 h3 b (List.mem_of_getElem? hj); simpa using this)
theorem atoi_ok (s : ByteArray) (n : Int) (h1 : s.size ≤ 18) (h2 : Lib.atoi s.data.toList = some n) :
    Fn Tryz.prog Gw 110 [str s] [] (· = .tup [.tr (.sc (.int .i64 n)), .tr (.sc .nilIface)]) :=
  Fn.of_calls Tryz.func110 rfl rfl rfl rfl fun w _ => (Tryz.strconv_Atoi s n h1 h2 w).mono fun e w' ⟨he, t, ht⟩ => ⟨he, by
    subst ht; exact ⟨rfl, rfl, rfl, by rw [Lib.bytesWorld_size]; omega, fun j hj => Lib.bytesWorld_at_old w _ _ j hj⟩⟩
theorem cmpint_ok (x y : Int) : Fn Tryz.prog Gw 79 [int x, int y] [] (· = int (Lib.compareInt x y)) :=
  Fn.of_calls Tryz.func79 rfl rfl rfl rfl fun w _ => (Tryz.cmp_Compare_int x y w).mono fun e w' ⟨he, hw⟩ => ⟨he, by subst hw; exact Below.refl _ _⟩
theorem split_ok (s sep : ByteArray) (h1 : s.size < 4294967281) (h2 : 1 ≤ sep.size) :
    Fn Tryz.prog Gw 108 [str s, str sep] [] (· = .own 9 ((Lib.splitB sep 0 (Lib.countB s sep) s).map fun x => .sc (.string x))) := by
  refine ⟨⟨_, Tryz.func108, rfl, rfl⟩, fun M Ow w cargs hgw hp => ?_⟩
  have hc : cargs = #[.string s, .string sep] := Fn.args_eq rfl hp
  subst hc
  obtain ⟨m, hm⟩ := hgw.most
  have hl : (Lib.splitB sep 0 (Lib.countB s sep) s).length = Lib.countB s sep + 1 := Lib.splitB_all sep h2 0 _ s rfl
  obtain ⟨i, hi, hs, -⟩ := tab_ok.info (t := 9) rfl
  refine (Tryz.strings_Split s sep m w h1 hm h2).mono fun e w' ⟨he, hw⟩ => ?_
  subst hw
  have := fresh_post hp hi hs (vs := (Lib.splitB sep 0 (Lib.countB s sep) s).map Value.string) (by simp [Value.oneCell'])
  rw [List.length_map, hl, List.map_map] at this
  exact ⟨_, he, this⟩
end Go.Lg.Tryz

set_option linter.unusedVariables false
set_option linter.unusedSimpArgs false
namespace Go.Lg.Tryz
open Go Go.Proofs Go.RowKit Go.Lib Go.Lg.Sem
theorem trimd_ok (s : ByteArray) : ∃ q : ByteArray, (q.toList == ([] : List UInt8)) = s.data.toList.all isDig ∧ (s.size ≤ 1000 → Fn Tryz.prog Gw 74 [str s, str ⟨#[48, 49, 50, 51, 52, 53, 54, 55, 56, 57]⟩] [] (· = str q)) :=
  ⟨_, trim_empty s, fun hs => trim_ok s digits (by omega) (by decide) (by decide)⟩
theorem number_ok (s : ByteArray) : Fn Tryz.prog Gw 109 [str s] [] (· = bool (numP s)) := by
  obtain ⟨q, hq, ht⟩ := trimd_ok s
  have hb : ¬ (s.toList == []) = true → ∃ b, s.data.toList[0]? = some b := fun h => by
    rw [ba_toList] at h
    cases hl : s.data.toList with
    | nil => rw [hl] at h; simp at h
    | cons b l => exact ⟨b, rfl⟩
  refine Fn.of tab_ok Tryz.func109 rfl (by decide) (by simp [Tryz.f109]) rfl (fun κ v h => by cases h) Gw.below ?_
  repeat' (first|refine zS ?_|refine zR ?_|refine zE tab_ok rfl rfl ?_|refine zN ?_|(refine zG rfl rfl (fun _ => ?_) fun _ => ?_)<;>refine zE tab_ok rfl rfl ?_|(refine zC rfl (fun _ => ?_) fun _ => ?_)<;>try (rename_i h; cases h; done)|refine zB ?_|refine zK ?_|refine zZ ⟨_, rfl, ?_⟩)
  all_goals first | (refine Sq.callv rfl (ht (by simp only [decide_eq_false_iff_not] at *; omega)) ?_) | (obtain ⟨b, hb⟩ := hb (by simp_all; done); refine Sq.byte tab_ok rfl (by decide) hb ?_) | skip
  repeat' (first|refine zS ?_|refine zR ?_|refine zE tab_ok rfl rfl ?_|refine zN ?_|(refine zG rfl rfl (fun _ => ?_) fun _ => ?_)<;>refine zE tab_ok rfl rfl ?_|(refine zC rfl (fun _ => ?_) fun _ => ?_)<;>try (rename_i h; cases h; done)|refine zB ?_|refine zK ?_|refine zZ ⟨_, rfl, ?_⟩)
  all_goals first | (refine Sq.callv rfl (ht (by simp only [decide_eq_false_iff_not] at *; omega)) ?_) | skip
  repeat' (first|refine zS ?_|refine zR ?_|refine zE tab_ok rfl rfl ?_|refine zN ?_|(refine zG rfl rfl (fun _ => ?_) fun _ => ?_)<;>refine zE tab_ok rfl rfl ?_|(refine zC rfl (fun _ => ?_) fun _ => ?_)<;>try (rename_i h; cases h; done)|refine zB ?_|refine zK ?_|refine zZ ⟨_, rfl, ?_⟩)
  all_goals
    show bool _ = bool _
    congr 3
    have hz := data_length s
    clear ht
    simp only [ba_toList] at *
    first | refine hq.trans ?_ | skip
    simp only [numP, numL] at *
    rename_i h
    clear hq
    cases hl : s.data.toList with
    | nil => simp_all
    | cons c l =>
      simp only [hl, List.getElem?_cons_zero, Option.some.injEq] at *
      have hc : (c = 48) ↔ (c.toNat = 48) := ⟨fun h => by rw [h]; rfl, fun h => UInt8.toNat_inj.1 h⟩
      rcases l with _ | ⟨c2, l⟩ <;> simp_all <;> intros <;> omega
theorem mark_ok (s : ByteArray) : Fn Tryz.prog Gw 106 [str s] [] (· = bool (markL s.data.toList)) := by
  obtain ⟨q, hq, ht⟩ := trimd_ok s
  have hnum := number_ok s
  have hz := data_length s
  refine Fn.of tab_ok Tryz.func106 rfl (by decide) (by simp [Tryz.f106]) rfl (fun κ v h => by cases h) Gw.below ?_
  repeat' (first|refine zS ?_|refine zR ?_|refine zE tab_ok rfl rfl ?_|refine zN ?_|(refine zG rfl rfl (fun _ => ?_) fun _ => ?_)<;>refine zE tab_ok rfl rfl ?_|(refine zC rfl (fun _ => ?_) fun _ => ?_)<;>try (rename_i h; cases h; done)|refine zB ?_|refine zK ?_|refine zZ ⟨_, rfl, ?_⟩)
  · show bool _ = bool _
    congr 3
    simp only [ba_toList] at *
    have : s.data.toList = [] := by simp_all
    rw [this]; rfl
  · show bool _ = bool _
    congr 3
    simp only [decide_eq_true_eq] at *
    have : decide (s.data.toList.length ≤ 10) = false := by simp only [decide_eq_false_iff_not]; omega
    simp only [markL, this, Bool.and_false, Bool.false_and]
  · simp only [ba_toList] at *
    have h1 : s.data.toList ≠ [] := by intro h; simp_all
    have h10 : s.data.toList.length ≤ 10 := by simp only [decide_eq_false_iff_not] at *; omega
    obtain ⟨xs, hxs⟩ : ∃ xs, s.data.toList = xs := ⟨_, rfl⟩
    rw [hxs] at h1 h10 hz
    refine Sq.bytes tab_ok rfl ?_
    rw [hxs]
    repeat' (first | refine zS ?_ | refine zR ?_ | refine zE tab_ok rfl rfl ?_ | refine zN ?_ | refine zB ?_ | refine zK ?_)
    refine Tr.loopS (fun i : Nat => [(.s 0, str s), (.s 13, .tr (.ls (xs.map byteT))), (.s 14, int (xs.map byteT).length), (.s 15, int i)]) (fun i => xs.length - i) (fun i => i ≤ xs.length ∧ (xs.take i).all (fun b => okB b.toNat) = true)
      0 ⟨by omega, by simp⟩ (Sub.app (l := [_, _, _, _]) (H := []) ⟨rfl, rfl, rfl, rfl, trivial⟩ (fun κ v h => nomatch h)) ?_
    rintro i ⟨hi, hp⟩
    repeat' (first | refine zS ?_ | refine zR ?_ | refine zE tab_ok rfl rfl ?_ | refine zN ?_ | refine zB ?_ | refine zK ?_)
    refine zC rfl (fun h => ?_) (fun h => ?_)
    · have hlt : i < xs.length := by simpa using h
      repeat' (first | refine zS ?_ | refine zR ?_ | refine zE tab_ok rfl rfl ?_ | refine zN ?_ | refine zB ?_ | refine zK ?_)
      refine zI (x := byteT xs[i]) tab_ok rfl (by omega) (by simp [hlt]) rfl ?_
      repeat' (first|refine zS ?_|refine zR ?_|refine zE tab_ok rfl rfl ?_|refine zN ?_|(refine zG rfl rfl (fun _ => ?_) fun _ => ?_)<;>refine zE tab_ok rfl rfl ?_|(refine zC rfl (fun _ => ?_) fun _ => ?_)<;>try (rename_i h; cases h; done)|refine zB ?_|refine zK ?_|refine zZ ⟨_, rfl, ?_⟩)
      all_goals first
        | refine ⟨i + 1, ⟨by omega, ?_⟩, by omega, Sub.app (l := [_, _, _, _]) (H := []) ⟨rfl, rfl, rfl, congrArg some (wrapz (by omega) (by omega) (by omega)), trivial⟩ (fun κ v h => nomatch h)⟩
          rw [List.take_succ_eq_append_getElem hlt, List.all_append, hp]
          simp only [decide_eq_true_eq, decide_eq_false_iff_not, Bool.not_eq_true', Bool.not_eq_false'] at *
          simp [okB]
          omega
        | show bool _ = bool _
          congr 3
          have : okB xs[i].toNat = false := by
            simp only [decide_eq_true_eq, decide_eq_false_iff_not, Bool.not_eq_true', Bool.not_eq_false'] at *
            simp [okB]
            omega
          have h2 : (xs.all fun b => okB b.toNat) = false := by
            rw [← Bool.not_eq_true, List.all_eq_true]
            intro h
            rw [h _ (List.getElem_mem hlt)] at this; cases this
          simp only [markL, hxs, h2, Bool.and_false, Bool.false_and]
    · have hge : ¬ i < xs.length := by simpa using h
      rw [List.take_of_length_le (by omega)] at hp
      refine Tr.exit ?_
      repeat' (first|refine zS ?_|refine zR ?_|refine zE tab_ok rfl rfl ?_|refine zN ?_|(refine zG rfl rfl (fun _ => ?_) fun _ => ?_)<;>refine zE tab_ok rfl rfl ?_|(refine zC rfl (fun _ => ?_) fun _ => ?_)<;>try (rename_i h; cases h; done)|refine zB ?_|refine zK ?_|refine zZ ⟨_, rfl, ?_⟩)
      refine Sq.callv rfl (ht (by omega)) ?_
      repeat' (first|refine zS ?_|refine zR ?_|refine zE tab_ok rfl rfl ?_|refine zN ?_|(refine zG rfl rfl (fun _ => ?_) fun _ => ?_)<;>refine zE tab_ok rfl rfl ?_|(refine zC rfl (fun _ => ?_) fun _ => ?_)<;>try (rename_i h; cases h; done)|refine zB ?_|refine zK ?_|refine zZ ⟨_, rfl, ?_⟩)
      all_goals first | (refine Sq.callv rfl hnum ?_) | skip
      repeat' (first|refine zS ?_|refine zR ?_|refine zE tab_ok rfl rfl ?_|refine zN ?_|(refine zG rfl rfl (fun _ => ?_) fun _ => ?_)<;>refine zE tab_ok rfl rfl ?_|(refine zC rfl (fun _ => ?_) fun _ => ?_)<;>try (rename_i h; cases h; done)|refine zB ?_|refine zK ?_|refine zZ ⟨_, rfl, ?_⟩)
      all_goals
        show bool _ = bool _
        congr 3
        simp only [ba_toList, Bool.not_eq_true', Bool.not_eq_false'] at *
        have h2 : markL xs = (!(xs.all isDig) || numL xs) := by
          have e1 : xs.isEmpty = false := by cases xs <;> simp_all
          have e2 : decide (xs.length ≤ 10) = true := decide_eq_true h10
          simp only [markL, e1, e2, hp, Bool.not_false, Bool.true_and]
        rw [h2]
        rename_i h3
        have h3 := hq.symm.trans h3
        rw [hxs] at h3
        simp [h3, numP, hxs]
end Go.Lg.Tryz

set_option linter.unusedVariables false
set_option linter.unusedSimpArgs false
namespace Go.Lg.Tryz
open Go Go.Proofs Go.RowKit Go.Lib Go.Lg.Sem
theorem cmpI_lib (x y : Int) : Lib.compareInt x y = cmpI x y := by
  unfold Lib.compareInt cmpI
  rfl
theorem cmpint_ok' (x y : Int) : Fn Tryz.prog Gw 79 [int x, int y] [] (· = int (cmpI x y)) := cmpI_lib x y ▸ cmpint_ok x y
theorem sign_ok (x : Int) : Fn Tryz.prog Gw 80 [int x] [] (· = int (cmpI x 0)) := by
  refine Fn.of tab_ok Tryz.func80 rfl (by decide) (by simp [Tryz.f80]) rfl (fun κ v h => by cases h) Gw.below ?_
  repeat' (first|refine zS ?_|refine zR ?_|refine zE tab_ok rfl rfl ?_|refine zN ?_|(refine zG rfl rfl (fun _ => ?_) fun _ => ?_)<;>refine zE tab_ok rfl rfl ?_|(refine zC rfl (fun _ => ?_) fun _ => ?_)<;>try (rename_i h; cases h; done)|refine zB ?_|refine zK ?_|refine zZ ⟨_, rfl, ?_⟩)
  refine Sq.callv rfl (cmpint_ok' x 0) ?_
  repeat' (first|refine zS ?_|refine zR ?_|refine zE tab_ok rfl rfl ?_|refine zN ?_|(refine zG rfl rfl (fun _ => ?_) fun _ => ?_)<;>refine zE tab_ok rfl rfl ?_|(refine zC rfl (fun _ => ?_) fun _ => ?_)<;>try (rename_i h; cases h; done)|refine zB ?_|refine zK ?_|refine zZ ⟨_, rfl, ?_⟩)
  rfl
theorem isNaN_ok (s : ByteArray) : Fn Tryz.prog Gw 132 [str s] [] (· = bool false) := by
  refine Fn.of tab_ok Tryz.func132 rfl (by decide) (by simp [Tryz.f132]) rfl (fun κ v h => by cases h) Gw.below ?_
  repeat' (first|refine zS ?_|refine zR ?_|refine zE tab_ok rfl rfl ?_|refine zN ?_|(refine zG rfl rfl (fun _ => ?_) fun _ => ?_)<;>refine zE tab_ok rfl rfl ?_|(refine zC rfl (fun _ => ?_) fun _ => ?_)<;>try (rename_i h; cases h; done)|refine zB ?_|refine zK ?_|refine zZ ⟨_, rfl, ?_⟩)
  simp
theorem cmpstr_ok (s t : ByteArray) : Fn Tryz.prog Gw 111 [str s, str t] [] (· = int (cmpS s t)) := by
  refine Fn.of tab_ok Tryz.func111 rfl (by decide) (by simp [Tryz.f111]) rfl (fun κ v h => by cases h) Gw.below ?_
  repeat' (first|refine zS ?_|refine zR ?_|refine zE tab_ok rfl rfl ?_|refine zN ?_|(refine zG rfl rfl (fun _ => ?_) fun _ => ?_)<;>refine zE tab_ok rfl rfl ?_|(refine zC rfl (fun _ => ?_) fun _ => ?_)<;>try (rename_i h; cases h; done)|refine zB ?_|refine zK ?_|refine zZ ⟨_, rfl, ?_⟩)
  refine Sq.callv rfl (isNaN_ok s) ?_
  repeat' (first|refine zS ?_|refine zR ?_|refine zE tab_ok rfl rfl ?_|refine zN ?_|(refine zG rfl rfl (fun _ => ?_) fun _ => ?_)<;>refine zE tab_ok rfl rfl ?_|(refine zC rfl (fun _ => ?_) fun _ => ?_)<;>try (rename_i h; cases h; done)|refine zB ?_|refine zK ?_|refine zZ ⟨_, rfl, ?_⟩)
  refine Sq.callv rfl (isNaN_ok t) ?_
  repeat' (first|refine zS ?_|refine zR ?_|refine zE tab_ok rfl rfl ?_|refine zN ?_|(refine zG rfl rfl (fun _ => ?_) fun _ => ?_)<;>refine zE tab_ok rfl rfl ?_|(refine zC rfl (fun _ => ?_) fun _ => ?_)<;>try (rename_i h; cases h; done)|refine zB ?_|refine zK ?_|refine zZ ⟨_, rfl, ?_⟩)
  refine Sq.strcmp rfl ?_
  repeat' (first|refine zS ?_|refine zR ?_|refine zE tab_ok rfl rfl ?_|refine zN ?_|(refine zG rfl rfl (fun _ => ?_) fun _ => ?_)<;>refine zE tab_ok rfl rfl ?_|(refine zC rfl (fun _ => ?_) fun _ => ?_)<;>try (rename_i h; cases h; done)|refine zB ?_|refine zK ?_|refine zZ ⟨_, rfl, ?_⟩)
  · rename_i h
    show int _ = int _
    congr 3
    simp [cmpS, h]
  · rename_i h
    refine Sq.strcmp rfl ?_
    repeat' (first|refine zS ?_|refine zR ?_|refine zE tab_ok rfl rfl ?_|refine zN ?_|(refine zG rfl rfl (fun _ => ?_) fun _ => ?_)<;>refine zE tab_ok rfl rfl ?_|(refine zC rfl (fun _ => ?_) fun _ => ?_)<;>try (rename_i h; cases h; done)|refine zB ?_|refine zK ?_|refine zZ ⟨_, rfl, ?_⟩)
    all_goals
      rename_i h2
      show int _ = int _
      congr 3
      rw [h] at h2
      simp only [Bool.false_or, Bool.not_eq_true', Bool.not_eq_false'] at h2
      simp [cmpS, h, h2]
theorem or_ok (xs : List Int) (hn : xs.length ≤ 1000000) : Fn Tryz.prog Gw 78 [.tr (.ls (xs.map fun x => .sc (.int .i64 x)))] [] (· = int (orL xs)) := by
  refine Fn.of tab_ok Tryz.func78 rfl (by decide) (by simp [Tryz.f78]) rfl (fun κ v h => by cases h) Gw.below ?_
  repeat' (first | refine zS ?_ | refine zR ?_ | refine zE tab_ok rfl rfl ?_ | refine zN ?_ | refine zB ?_ | refine zK ?_)
  refine Tr.loopS (fun i : Nat => [(.s 0, .tr (.ls (xs.map fun x => .sc (.int .i64 x)))), (.s 6, .tr (.ls (xs.map fun x => .sc (.int .i64 x)))), (.s 3, int 0), (.s 7, int (xs.map fun x => Go.Lg.T.sc (.int .i64 x)).length), (.s 8, int i)]) (fun i => xs.length - i) (fun i => i ≤ xs.length ∧ orL xs = orL (xs.drop i))
    0 ⟨by omega, by simp⟩ (Sub.app (l := [_, _, _, _, _]) (H := []) ⟨rfl, rfl, rfl, rfl, rfl, trivial⟩ (fun κ v h => nomatch h)) ?_
  rintro i ⟨hi, hp⟩
  repeat' (first | refine zS ?_ | refine zR ?_ | refine zE tab_ok rfl rfl ?_ | refine zN ?_ | refine zB ?_ | refine zK ?_)
  refine zC rfl (fun h => ?_) (fun h => ?_)
  · have hlt : i < xs.length := by simpa using h
    rw [List.drop_eq_getElem_cons hlt] at hp
    repeat' (first | refine zS ?_ | refine zR ?_ | refine zE tab_ok rfl rfl ?_ | refine zN ?_ | refine zB ?_ | refine zK ?_)
    refine zI (x := .sc (.int .i64 xs[i])) tab_ok rfl (by omega) (by simp [hlt]) rfl ?_
    repeat' (first|refine zS ?_|refine zR ?_|refine zE tab_ok rfl rfl ?_|refine zN ?_|(refine zG rfl rfl (fun _ => ?_) fun _ => ?_)<;>refine zE tab_ok rfl rfl ?_|(refine zC rfl (fun _ => ?_) fun _ => ?_)<;>try (rename_i h; cases h; done)|refine zB ?_|refine zK ?_|refine zZ ⟨_, rfl, ?_⟩)
    all_goals rename_i h2
    · show int _ = int _
      congr 3
      rw [hp]; simp at h2; simp [orL, h2]
    · refine ⟨i + 1, ⟨by omega, ?_⟩, by omega, Sub.app (l := [_, _, _, _, _]) (H := []) ⟨rfl, rfl, rfl, rfl, congrArg some (wrapz (by omega) (by omega) (by omega)), trivial⟩ (fun κ v h => nomatch h)⟩
      rw [hp]; simp at h2; simp [orL, h2]
  · have hge : ¬ i < xs.length := by simpa using h
    refine Tr.exit ?_
    repeat' (first|refine zS ?_|refine zR ?_|refine zE tab_ok rfl rfl ?_|refine zN ?_|(refine zG rfl rfl (fun _ => ?_) fun _ => ?_)<;>refine zE tab_ok rfl rfl ?_|(refine zC rfl (fun _ => ?_) fun _ => ?_)<;>try (rename_i h; cases h; done)|refine zB ?_|refine zK ?_|refine zZ ⟨_, rfl, ?_⟩)
    rw [hp, List.drop_of_length_le (by omega)]; rfl
end Go.Lg.Tryz

set_option linter.unusedVariables false
set_option linter.unusedSimpArgs false
namespace Go.Lg.Tryz
open Go Go.Proofs Go.RowKit Go.Lib Go.Lg.Sem
theorem atoi_num (s : ByteArray) (h : numP s = true) : Fn Tryz.prog Gw 110 [str s] [] (· = .tup [.tr (.sc (.int .i64 (valP s))), .tr (.sc .nilIface)]) := by
  obtain ⟨h1, h2, h3, _⟩ := numL_parts h
  rw [data_length] at h2
  refine atoi_ok s (valP s) (by omega) ?_
  unfold valP numV
  generalize s.data.toList = l at *
  cases l with
  | nil => exact absurd rfl h1
  | cons b t =>
    have hb : 48 ≤ b.toNat ∧ b.toNat ≤ 57 := by simp only [List.all_cons, Bool.and_eq_true] at h3; simpa [isDig] using h3.1
    have e1 : (b == 45) = false := by rw [beq_eq_false_iff_ne]; rintro rfl; exact absurd hb.1 (by decide)
    have e2 : (b == 43) = false := by rw [beq_eq_false_iff_ne]; rintro rfl; exact absurd hb.1 (by decide)
    simp only [Lib.atoi, e1, e2, Lib.decNat, List.isEmpty_cons, decFrom_digits _ _ h3]
    rfl
abbrev strT (x : ByteArray) : T := .sc (.string x)
theorem split_dot (s : ByteArray) (h : s.size < 4294967281) : Fn Tryz.prog Gw 108 [str s, str ⟨#[46]⟩] [] (· = .own 9 ((pieces dot s).map strT)) := split_ok s dot h (by decide)
theorem cmpL_at (m n : Nat) (x y : List ByteArray) (i : Nat) (h1 : i < x.length) (h2 : i < y.length) : cmpL m n (x.drop i) (y.drop i) = if x[i].toList = y[i].toList then cmpL m n (x.drop (i + 1)) (y.drop (i + 1)) else cmpM x[i] y[i] := by
  rw [List.drop_eq_getElem_cons h1, List.drop_eq_getElem_cons h2]; rfl
theorem cmpL_end (m n : Nat) (x y : List ByteArray) (i : Nat) (h : x.length ≤ i ∨ y.length ≤ i) : cmpL m n (x.drop i) (y.drop i) = cmpI m n := by
  rcases h with h | h <;> rw [List.drop_of_length_le h]
  · cases y.drop i <;> rfl
  · cases x.drop i <;> rfl
theorem marks_ok (a b : ByteArray) (ha : a.size < 4294967281) (hb : b.size < 4294967281) : Fn Tryz.prog Gw 81 [str a, str b] [] (· = int (marksV a b)) := by
  have sa := split_dot a ha
  have sb := split_dot b hb
  have la := pieces_len a
  have lb := pieces_len b
  refine Fn.of tab_ok Tryz.func81 rfl (by decide) (by simp [Tryz.f81]) rfl (fun κ v h => by cases h) Gw.below ?_
  repeat' (first|refine zS ?_|refine zR ?_|refine zE tab_ok rfl rfl ?_|refine zN ?_|(refine zG rfl rfl (fun _ => ?_) fun _ => ?_)<;>refine zE tab_ok rfl rfl ?_|(refine zC rfl (fun _ => ?_) fun _ => ?_)<;>try (rename_i h; cases h; done)|refine zB ?_|refine zK ?_|refine zZ ⟨_, rfl, ?_⟩)
  · rename_i h _
    refine Sq.callv rfl (cmpint_ok' b.size a.size) ?_
    repeat' (first|refine zS ?_|refine zR ?_|refine zE tab_ok rfl rfl ?_|refine zN ?_|(refine zG rfl rfl (fun _ => ?_) fun _ => ?_)<;>refine zE tab_ok rfl rfl ?_|(refine zC rfl (fun _ => ?_) fun _ => ?_)<;>try (rename_i h; cases h; done)|refine zB ?_|refine zK ?_|refine zZ ⟨_, rfl, ?_⟩)
    rw [ba_toList] at h
    have : a.toList = [] := by rw [ba_toList]; simpa using h
    rw [marksV, if_pos (.inl this)]
  · rename_i _ h
    refine Sq.callv rfl (cmpint_ok' b.size a.size) ?_
    repeat' (first|refine zS ?_|refine zR ?_|refine zE tab_ok rfl rfl ?_|refine zN ?_|(refine zG rfl rfl (fun _ => ?_) fun _ => ?_)<;>refine zE tab_ok rfl rfl ?_|(refine zC rfl (fun _ => ?_) fun _ => ?_)<;>try (rename_i h; cases h; done)|refine zB ?_|refine zK ?_|refine zZ ⟨_, rfl, ?_⟩)
    rw [ba_toList] at h
    have : b.toList = [] := by rw [ba_toList]; simpa using h
    rw [marksV, if_pos (.inr this)]
  · rename_i h1 h2
    simp only [ba_toList] at h1 h2
    have hv : marksV a b = cmpL (pieces dot a).length (pieces dot b).length (pieces dot a) (pieces dot b) := by
      rw [marksV, if_neg]
      rw [ba_toList, ba_toList]
      rintro (h | h)
      · exact absurd h1 (by rw [h]; decide)
      · exact absurd h2 (by rw [h]; decide)
    rw [hv]
    generalize pieces dot a = x at *
    generalize pieces dot b = y at *
    refine Sq.callv rfl (sa) ?_
    repeat' (first|refine zS ?_|refine zR ?_|refine zE tab_ok rfl rfl ?_|refine zN ?_|(refine zG rfl rfl (fun _ => ?_) fun _ => ?_)<;>refine zE tab_ok rfl rfl ?_|(refine zC rfl (fun _ => ?_) fun _ => ?_)<;>try (rename_i h; cases h; done)|refine zB ?_|refine zK ?_|refine zZ ⟨_, rfl, ?_⟩)
    refine Sq.callv rfl (sb) ?_
    repeat' (first|refine zS ?_|refine zR ?_|refine zE tab_ok rfl rfl ?_|refine zN ?_|(refine zG rfl rfl (fun _ => ?_) fun _ => ?_)<;>refine zE tab_ok rfl rfl ?_|(refine zC rfl (fun _ => ?_) fun _ => ?_)<;>try (rename_i h; cases h; done)|refine zB ?_|refine zK ?_|refine zZ ⟨_, rfl, ?_⟩)
    refine Tr.loopS (fun i : Nat => [(.s 5, .own 9 (x.map strT)), (.s 6, .own 9 (y.map strT)), (.s 7, int i)]) (fun i => x.length - i) (fun i => i ≤ x.length ∧ i ≤ y.length ∧ cmpL x.length y.length x y = cmpL x.length y.length (x.drop i) (y.drop i))
      0 ⟨by omega, by omega, by simp⟩ (Sub.app (l := [_, _, _]) (H := []) ⟨rfl, rfl, rfl, trivial⟩ (fun κ v h => nomatch h)) ?_
    rintro i ⟨hi1, hi2, hp⟩
    repeat' (first|refine zS ?_|refine zR ?_|refine zE tab_ok rfl rfl ?_|refine zN ?_|(refine zG rfl rfl (fun _ => ?_) fun _ => ?_)<;>refine zE tab_ok rfl rfl ?_|(refine zC rfl (fun _ => ?_) fun _ => ?_)<;>try (rename_i h; cases h; done)|refine zB ?_|refine zK ?_|refine zZ ⟨_, rfl, ?_⟩)
    refine Sq.minmax rfl ?_
    repeat' (first|refine zS ?_|refine zR ?_|refine zE tab_ok rfl rfl ?_|refine zN ?_|(refine zG rfl rfl (fun _ => ?_) fun _ => ?_)<;>refine zE tab_ok rfl rfl ?_|(refine zC rfl (fun _ => ?_) fun _ => ?_)<;>try (rename_i h; cases h; done)|refine zB ?_|refine zK ?_|refine zZ ⟨_, rfl, ?_⟩)
    · rename_i h
      obtain ⟨hx, hy⟩ : i < x.length ∧ i < y.length := by
        simp only [List.length_map, decide_eq_true_eq] at h
        split at h <;> omega
      rw [cmpL_at _ _ _ _ _ hx hy] at hp
      refine Tr.drawn ( zD tab_ok rfl rfl <| zD tab_ok rfl rfl <| zO rfl (fun q K hK => zI (x := strT x[i]) tab_ok rfl (by omega) (by simp [hx]) rfl (zN hK)) <| zD tab_ok rfl rfl <| zD tab_ok rfl rfl <| zD tab_ok rfl rfl <| zO rfl (fun q K hK => zI (x := strT y[i]) tab_ok rfl (by omega) (by simp [hy]) rfl (zN hK)) <| zD tab_ok rfl rfl <| zD tab_ok rfl rfl <| DSq.nil _) mix_ok rfl ?_
      refine zC rfl (fun h => ?_) (fun h => ?_)
      · refine Tr.exit ?_
        repeat' (first|refine zS ?_|refine zR ?_|refine zE tab_ok rfl rfl ?_|refine zN ?_|(refine zG rfl rfl (fun _ => ?_) fun _ => ?_)<;>refine zE tab_ok rfl rfl ?_|(refine zC rfl (fun _ => ?_) fun _ => ?_)<;>try (rename_i h; cases h; done)|refine zB ?_|refine zK ?_|refine zZ ⟨_, rfl, ?_⟩)
        refine ⟨i + 1, ⟨by omega, by omega, ?_⟩, by omega, Sub.app (l := [_, _, _]) (H := []) ⟨rfl, rfl, congrArg some (wrapz (by omega) (by omega) (by omega)), trivial⟩ (fun κ v h => nomatch h)⟩
        rw [hp, if_pos (by simpa using h)]
      · rw [if_neg (by simpa using h)] at hp
        rw [hp]
        repeat' (first|refine zS ?_|refine zR ?_|refine zE tab_ok rfl rfl ?_|refine zN ?_|(refine zG rfl rfl (fun _ => ?_) fun _ => ?_)<;>refine zE tab_ok rfl rfl ?_|(refine zC rfl (fun _ => ?_) fun _ => ?_)<;>try (rename_i h; cases h; done)|refine zB ?_|refine zK ?_|refine zZ ⟨_, rfl, ?_⟩)
        have nx := number_ok x[i]
        have ny := number_ok y[i]
        refine Tr.drawn ( zD tab_ok rfl rfl <| zD tab_ok rfl rfl <| zO rfl (fun q K hK => zI (x := strT x[i]) tab_ok rfl (by omega) (by simp [hx]) rfl (zN hK)) <| zD tab_ok rfl rfl <| DSq.call rfl (fun _ => rfl) (nx) <| zD tab_ok rfl rfl <| zD tab_ok rfl rfl <| zO rfl (fun q K hK => zI (x := strT y[i]) tab_ok rfl (by omega) (by simp [hy]) rfl (zN hK)) <| zD tab_ok rfl rfl <| DSq.call rfl (fun _ => rfl) (ny) <| zD tab_ok rfl rfl <| zD tab_ok rfl rfl <| DSq.nil _) mix_ok rfl ?_
        have ex : cmpM x[i] y[i] = if numP x[i] = true then (if numP y[i] = true then cmpI (valP x[i]) (valP y[i]) else -1) else if numP y[i] = true then 1 else cmpS x[i] y[i] := rfl
        rw [ex]
        have ax := atoi_num x[i]
        have ay := atoi_num y[i]
        cases e1 : numP x[i] <;> cases e2 : numP y[i]
        all_goals repeat' (first|refine zS ?_|refine zR ?_|refine zE tab_ok rfl rfl ?_|refine zN ?_|(refine zG rfl rfl (fun _ => ?_) fun _ => ?_)<;>refine zE tab_ok rfl rfl ?_|(refine zC rfl (fun _ => ?_) fun _ => ?_)<;>try (rename_i h; cases h; done)|refine zB ?_|refine zK ?_|refine zZ ⟨_, rfl, ?_⟩)
        · refine Tr.drawn ( zD tab_ok rfl rfl <| zD tab_ok rfl rfl <| zO rfl (fun q K hK => zI (x := strT x[i]) tab_ok rfl (by omega) (by simp [hx]) rfl (zN hK)) <| zD tab_ok rfl rfl <| zD tab_ok rfl rfl <| zD tab_ok rfl rfl <| zO rfl (fun q K hK => zI (x := strT y[i]) tab_ok rfl (by omega) (by simp [hy]) rfl (zN hK)) <| zD tab_ok rfl rfl <| DSq.call rfl (fun _ => rfl) (cmpstr_ok x[i] y[i]) <| zD tab_ok rfl rfl <| DSq.nil _) mix_ok rfl ?_
          repeat' (first|refine zS ?_|refine zR ?_|refine zE tab_ok rfl rfl ?_|refine zN ?_|(refine zG rfl rfl (fun _ => ?_) fun _ => ?_)<;>refine zE tab_ok rfl rfl ?_|(refine zC rfl (fun _ => ?_) fun _ => ?_)<;>try (rename_i h; cases h; done)|refine zB ?_|refine zK ?_|refine zZ ⟨_, rfl, ?_⟩)
          rfl
        · rfl
        · rfl
        · refine zI (x := strT x[i]) tab_ok rfl (by omega) (by simp [hx]) rfl ?_
          repeat' (first|refine zS ?_|refine zR ?_|refine zE tab_ok rfl rfl ?_|refine zN ?_|(refine zG rfl rfl (fun _ => ?_) fun _ => ?_)<;>refine zE tab_ok rfl rfl ?_|(refine zC rfl (fun _ => ?_) fun _ => ?_)<;>try (rename_i h; cases h; done)|refine zB ?_|refine zK ?_|refine zZ ⟨_, rfl, ?_⟩)
          refine Sq.callv rfl (ax e1) ?_
          repeat' (first|refine zS ?_|refine zR ?_|refine zE tab_ok rfl rfl ?_|refine zN ?_|(refine zG rfl rfl (fun _ => ?_) fun _ => ?_)<;>refine zE tab_ok rfl rfl ?_|(refine zC rfl (fun _ => ?_) fun _ => ?_)<;>try (rename_i h; cases h; done)|refine zB ?_|refine zK ?_|refine zZ ⟨_, rfl, ?_⟩)
          refine zI (x := strT y[i]) tab_ok rfl (by omega) (by simp [hy]) rfl ?_
          repeat' (first|refine zS ?_|refine zR ?_|refine zE tab_ok rfl rfl ?_|refine zN ?_|(refine zG rfl rfl (fun _ => ?_) fun _ => ?_)<;>refine zE tab_ok rfl rfl ?_|(refine zC rfl (fun _ => ?_) fun _ => ?_)<;>try (rename_i h; cases h; done)|refine zB ?_|refine zK ?_|refine zZ ⟨_, rfl, ?_⟩)
          refine Sq.callv rfl (ay e2) ?_
          repeat' (first|refine zS ?_|refine zR ?_|refine zE tab_ok rfl rfl ?_|refine zN ?_|(refine zG rfl rfl (fun _ => ?_) fun _ => ?_)<;>refine zE tab_ok rfl rfl ?_|(refine zC rfl (fun _ => ?_) fun _ => ?_)<;>try (rename_i h; cases h; done)|refine zB ?_|refine zK ?_|refine zZ ⟨_, rfl, ?_⟩)
          refine Sq.callv rfl (cmpint_ok' (valP x[i]) (valP y[i])) ?_
          repeat' (first|refine zS ?_|refine zR ?_|refine zE tab_ok rfl rfl ?_|refine zN ?_|(refine zG rfl rfl (fun _ => ?_) fun _ => ?_)<;>refine zE tab_ok rfl rfl ?_|(refine zC rfl (fun _ => ?_) fun _ => ?_)<;>try (rename_i h; cases h; done)|refine zB ?_|refine zK ?_|refine zZ ⟨_, rfl, ?_⟩)
          rfl
    · rename_i h
      rw [cmpL_end] at hp
      · refine Tr.exit ?_
        repeat' (first|refine zS ?_|refine zR ?_|refine zE tab_ok rfl rfl ?_|refine zN ?_|(refine zG rfl rfl (fun _ => ?_) fun _ => ?_)<;>refine zE tab_ok rfl rfl ?_|(refine zC rfl (fun _ => ?_) fun _ => ?_)<;>try (rename_i h; cases h; done)|refine zB ?_|refine zK ?_|refine zZ ⟨_, rfl, ?_⟩)
        refine Sq.callv rfl (cmpint_ok' (x.map strT).length (y.map strT).length) ?_
        repeat' (first|refine zS ?_|refine zR ?_|refine zE tab_ok rfl rfl ?_|refine zN ?_|(refine zG rfl rfl (fun _ => ?_) fun _ => ?_)<;>refine zE tab_ok rfl rfl ?_|(refine zC rfl (fun _ => ?_) fun _ => ?_)<;>try (rename_i h; cases h; done)|refine zB ?_|refine zK ?_|refine zZ ⟨_, rfl, ?_⟩)
        rw [hp, List.length_map, List.length_map]
      · simp only [List.length_map, decide_eq_false_iff_not] at h
        split at h <;> omega
abbrev verT (a b c : Int) (p : ByteArray) : T := .ag [.sc (.int .i64 a), .sc (.int .i64 b), .sc (.int .i64 c), .sc (.string p)]
theorem Compare_ok (a b c : Int) (p : ByteArray) (a' b' c' : Int) (p' : ByteArray) (h1 : p.size < 4294967281) (h2 : p'.size < 4294967281) : Fn Tryz.prog Gw 58 [.tr (verT a b c p), .tr (verT a' b' c' p')] [] (· = int (cmpV a b c p a' b' c' p')) := by
  refine Fn.of tab_ok Tryz.func58 rfl (by decide) (by simp [Tryz.f58]) rfl (fun κ v h => by cases h) Gw.below ?_
  repeat' (first|refine zS ?_|refine zR ?_|refine zE tab_ok rfl rfl ?_|refine zN ?_|(refine zG rfl rfl (fun _ => ?_) fun _ => ?_)<;>refine zE tab_ok rfl rfl ?_|(refine zC rfl (fun _ => ?_) fun _ => ?_)<;>try (rename_i h; cases h; done)|refine zB ?_|refine zK ?_|refine zZ ⟨_, rfl, ?_⟩)
  refine Tr.drawn ( zD tab_ok rfl rfl <| zD tab_ok rfl rfl <| zD tab_ok rfl rfl <| zD tab_ok rfl rfl <| DSq.call rfl (fun _ => rfl) (cmpint_ok' a a') <| zD tab_ok rfl rfl <| zD tab_ok rfl rfl <| zD tab_ok rfl rfl <| zD tab_ok rfl rfl <| DSq.call rfl (fun _ => rfl) (cmpint_ok' b b') <| zD tab_ok rfl rfl <| zD tab_ok rfl rfl <| zD tab_ok rfl rfl <| zD tab_ok rfl rfl <| DSq.call rfl (fun _ => rfl) (cmpint_ok' c c') <| zD tab_ok rfl rfl <| zD tab_ok rfl rfl <| zD tab_ok rfl rfl <| zD tab_ok rfl rfl <| DSq.call rfl (fun _ => rfl) (marks_ok p p' h1 h2) <| DSq.call rfl (fun _ => rfl) (sign_ok _) <| zD tab_ok rfl rfl <| DSq.call rfl (fun _ => rfl) (or_ok [cmpI a a', cmpI b b', cmpI c c', cmpI (marksV p p') 0] (by simp)) <| zD tab_ok rfl rfl <| DSq.nil _) mix_ok rfl ?_
  repeat' (first|refine zS ?_|refine zR ?_|refine zE tab_ok rfl rfl ?_|refine zN ?_|(refine zG rfl rfl (fun _ => ?_) fun _ => ?_)<;>refine zE tab_ok rfl rfl ?_|(refine zC rfl (fun _ => ?_) fun _ => ?_)<;>try (rename_i h; cases h; done)|refine zB ?_|refine zK ?_|refine zZ ⟨_, rfl, ?_⟩)
  rfl
end Go.Lg.Tryz

namespace Go.Proofs.Cuts
open Go Go.RowKit
structure Keeps (L B : Nat) (W W' : World) : Prop where
  size : W.heap.size ≤ W'.heap.size
  block : ∀ r, (r < L ∨ (B ≤ r ∧ r < B + 3) ∨ ∃ o, W.heap[r]? = some o ∧ o.isCells = false) → r < W.heap.size → W'.heap[r]? = W.heap[r]?
theorem Keeps.refl (L B : Nat) (W : World) : Keeps L B W W := ⟨Nat.le_refl _, fun _ _ _ => rfl⟩
theorem Keeps.trans {L B : Nat} {A W C : World} (h : Keeps L B A W) (k : Keeps L B W C) : Keeps L B A C :=
  ⟨Nat.le_trans h.size k.size, fun r hb hr => (k.block r (hb.imp id (Or.imp id (fun ⟨o, ho, hc⟩ => ⟨o, (h.block r (.inr (.inr ⟨o, ho, hc⟩)) hr).trans ho, hc⟩))) (Nat.lt_of_lt_of_le hr h.size)).trans (h.block r hb hr)⟩
theorem Keeps.below {L B : Nat} {A W : World} (h : Below A.heap.size A W) : Keeps L B A W := ⟨h.size, fun r _ hr => h.block r hr⟩
theorem Keeps.alloc (L B : Nat) (W : World) (o : Obj) : Keeps L B W (W.alloc o) := Keeps.below ((Below.refl _ W).alloc (Nat.le_refl _) o)
theorem setCell_other {W : World} {p : Addr} {v : Value} {r : Nat} {o : Obj} (h : W.heap[r]? = some o) (hc : o.isCells = false) : (W.setCell p v).heap[r]? = W.heap[r]? := by
  by_cases e : r = p.block
  · subst e
    simp only [World.setCell, Array.getElem?_modify, h]
    cases o <;> first | rfl | (simp [Obj.isCells] at hc; done) | (cases hc; done) | (simp; done)
  · exact Below.heap_setCell W p v r e
theorem Keeps.setCell {L B : Nat} (W : World) (p : Addr) (v : Value) (hl : L ≤ p.block) (h : p.block < B ∨ B + 3 ≤ p.block) : Keeps L B W (W.setCell p v) :=
  ⟨by simp, fun r hb _ => by
    rcases hb with hb | hb | ⟨o, ho, hc⟩
    · exact Below.heap_setCell W p v r (by omega)
    · exact Below.heap_setCell W p v r (by omega)
    · exact setCell_other ho hc⟩
theorem Keeps.grown {L B : Nat} {W W' : World} {row : Option Nat} (h : W.grownBy W' row) (hr : ∀ r, row = some r → L ≤ r ∧ (r < B ∨ B + 3 ≤ r) ∧ ∃ o, W.heap[r]? = some o ∧ o.isCells = true) : Keeps L B W W' :=
  ⟨h.size, fun r hb hlt => h.block r hlt (fun e => by
    obtain ⟨h1, h2, o, ho, hc⟩ := hr r e.symm
    rcases hb with hb | hb | ⟨o', ho', hc'⟩
    · omega
    · omega
    · rw [ho] at ho'; cases ho'; rw [hc] at hc'; cases hc')⟩
theorem Keeps.cell {L B : Nat} {W W' : World} (h : Keeps L B W W') {p : Addr} {v : Value} (hb : p.block < L ∨ (B ≤ p.block ∧ p.block < B + 3)) (hc : W.cell? p = some v) : W'.cell? p = some v := by
  have hlt := World.block_lt_of_cell? W p hc
  unfold World.cell? at hc ⊢
  rw [h.block _ (hb.imp id .inl) hlt]; exact hc
def Harm (b E : Nat) (W W' : World) : Prop := ∃ row, W.grownBy W' row ∧ ∀ r, row = some r → r = b ∨ (E ≤ r ∧ ∃ o, W.heap[r]? = some o ∧ o.isCells = false)
def Hold (b E : Nat) (I : Nat → World → Prop) : Prop := ∀ k W W', I k W → Harm b E W W' → I k W'
def HoldB (b : Nat) (I : Nat → World → Prop) : Prop := ∀ k W W', I k W → W.grownBy W' (some b) → I k W'
theorem Hold.and {b E : Nat} {I I' : Nat → World → Prop} (h : Hold b E I) (h' : Hold b E I') : Hold b E (fun k W => I k W ∧ I' k W) :=
  fun k W W' hs hg => ⟨h k W W' hs.1 hg, h' k W W' hs.2 hg⟩
theorem Hold.pure (b E : Nat) (p : Nat → Prop) : Hold b E (fun k _ => p k) := fun _ _ _ h _ => h
theorem grownBy_put (W : World) (l : Nat) (o : Obj) : W.grownBy (W.putObj l o) (some l) := grownBy_putObj' W l o
theorem Hold.put {b E : Nat} {I : Nat → World → Prop} (h : Hold b E I) {k : Nat} {W : World} {l : Nat} {o : Obj} (o' : Obj) (hi : I k W) (he : E ≤ l) (hl : W.heap[l]? = some o) (hc : o.isCells = false) : I k (W.putObj l o') :=
  h k W _ hi ⟨some l, grownBy_put W l o', fun r e => .inr (by cases e; exact ⟨he, o, hl, hc⟩)⟩
theorem Hold.new {b E : Nat} {I : Nat → World → Prop} (h : Hold b E I) {k : Nat} {W : World} (o : Obj) (hi : I k W) : I k (W.alloc o) :=
  h k W _ hi ⟨none, ((Below.refl _ W).alloc (Nat.le_refl _) o) |> fun hb => ⟨hb.os, hb.tape, hb.output, hb.size, fun i hi _ => hb.block i hi⟩, fun r e => by cases e⟩
def cutPost (L B : Nat) (I : Nat → World → Prop) (Ix : Code → Nat → World → Prop) (k : Nat) (W : World) : Exit → Act → World → Prop
  | .normal, _, W' => Keeps L B W W' ∧ I (k + 1) W'
  | .ret, _, W' => Keeps L B W W' ∧ Ix .ret (k + 1) W'
  | .exit id, _, W' => Keeps L B W W' ∧ Ix (.exit id) (k + 1) W'
  | .goto t, _, W' => Keeps L B W W' ∧ Ix (.goto t) (k + 1) W'
  | .panic _, _, _ => False
  | .outgrown, _, _ => False
def Iter (F : Fence) (n : Nat) (P : Program) (gf : Nat) (lb : Array Value) (L B : Nat) (xs : List Value) (w : World) : Prop :=
  ∀ (l : Nat) (J Jx : Nat → World → Prop) (W : World), Keeps L B w W → HoldB B J → HoldB B Jx →
    (∀ k W1 v, J k W1 → xs[k]? = some v → YieldAt F (n - 1) P l #[v] W1 fun e W' => (e = .returned (.bool true) ∧ J (k + 1) W' ∧ Keeps L B W1 W') ∨ (e = .returned (.bool false) ∧ Jx (k + 1) W')) →
    J 0 W →
    CallsIn F n P gf (#[.func (.yield l) #[] #[]] ++ lb) W fun e W' => (∃ v, e = .returned v) ∧ (J xs.length W' ∨ ∃ k, Jx k W')
variable {F : Fence} {n : Nat} {P : Program}
theorem range_cuts {g : Operand} {ps : Array Tmp} {assign body : Code} {Q : Exit → Act → World → Prop} {a : Act} {w : World}
    (hro : F.round = none) (h1 : 1 ≤ n) {gf : Nat} {lb : Array Value} (hg : a.eval g = .func (.func gf) #[] lb) (hFg : F.fn gf) (eg : ∀ args w, (callFunc gf args).run P w = .ok (.enter gf args) w)
    {L B : Nat} {xs : List Value} (hB : B < w.heap.size) (hseq : Iter F (n - 1) P gf lb L B xs w) (hps : ps.size = 1)
    (I : Nat → World → Prop) (Ix : Code → Nat → World → Prop) (hI : Hold B w.heap.size I) (hIx : ∀ c, Hold B w.heap.size (Ix c)) (h0 : I 0 w) (a₁ : Value → Act)
    (hassign : ∀ (l : Nat) (v : Value) (W : World) (K : Act → World → Prop), K (a₁ v) W →
      assign.wpIn (F.inRound l) (n - 1 - 1) P (Exit.then K (fun _ _ _ => False)) { tmps := (ps.zip #[v]).foldl (fun t (p, v) => t.setIfInBounds p v) a.tmps, defers := [] } W)
    (hbody : ∀ (l k : Nat) (v : Value) (W : World), I k W → xs[k]? = some v → w.heap.size ≤ W.heap.size → w.heap.size ≤ l → (∃ r, W.heap[l]? = some (.loop r)) → body.wpIn (F.inRound l) (n - 1 - 1) P (cutPost L B I Ix k W) (a₁ v) W)
    (hdone : ∀ (D : Nat) (W : World), I xs.length W → W.heap[D]? = some (.deferred (some [])) → w.heap.size ≤ D → Q .normal { a with defers := { target := .collected D, args := #[] } :: a.defers } W)
    (hstop : ∀ (D : Nat) (c : Code) (k : Nat) (W : World), Ix c k W → W.heap[D]? = some (.deferred (some [])) → w.heap.size ≤ D → c.wpIn F n P Q { a with defers := { target := .collected D, args := #[] } :: a.defers } W) :
    (Code.rangeFunc g ps assign body).wpIn F n P Q a w := by
  refine wpIn_rangeFunc ?_
  intro fn hfn
  rw [hro]
  obtain ⟨rec, hrec⟩ : ∃ rec : LoopState → Option Code → Loop, rec = fun st pe => { state := st, pending := pe, fn, tmps := a.tmps, params := ps, assign, body, defers := w.heap.size } := ⟨_, rfl⟩
  obtain ⟨W1, hW1⟩ : ∃ W1, (w.alloc (.deferred (some []))).alloc (.loop (rec .ready none)) = W1 := ⟨_, rfl⟩
  have hz1 : W1.heap.size = w.heap.size + 2 := by rw [← hW1]; simp
  have hL1 : W1.heap[w.heap.size + 1]? = some (.loop (rec .ready none)) := by
    rw [← hW1]; have := World.alloc_heap_new (w.alloc (.deferred (some []))) (.loop (rec .ready none)); rwa [World.size_alloc] at this
  have hK1 : W1.heap[w.heap.size]? = some (.deferred (some [])) := by
    rw [← hW1]; exact (Below.heap_alloc _ _ _ (by simp)).trans (World.alloc_heap_new w _)
  have hI1 : I 0 W1 := by rw [← hW1]; exact hI.new _ (hI.new _ h0)
  have hk1 : Keeps L B w W1 := by rw [← hW1]; exact (Keeps.alloc _ _ _ _).trans (Keeps.alloc _ _ _ _)
  refine ⟨w.heap.size + 1, [{ target := .collected w.heap.size, args := #[] }], W1, { target := .fn (.func gf) lb, args := #[.func (.yield (w.heap.size + 1)) #[] #[]] }, W1, gf,
    #[.func (.yield (w.heap.size + 1)) #[] #[]] ++ lb, W1, ?_, ?_, ?_, ?_, fun _ => h1, ?_⟩
  · rw [← hW1, hrec]; exact run_enterLoop_outer _ _ _ _ _
  · simp only [resolve, hg]
    simp [go_sem]
  · intro f' hf'; simp [Target.leads] at hf'; subst hf'; exact hFg
  · simp [invoke, go_sem, eg]
  · -- the invariant with the loop's two blocks beside it
    have hgb : ∀ {W W' : World}, W.grownBy W' (some B) → Harm B w.heap.size W W' := fun h => ⟨some B, h, fun r e => .inl (by cases e; rfl)⟩
    have hst : ∀ {W W' : World} {r : Nat} {o : Obj}, W.grownBy W' (some B) → w.heap.size ≤ r → W.heap[r]? = some o → W'.heap[r]? = some o :=
      fun {W W' r o} h hr hl => (h.block r (Array.getElem?_eq_some_iff.1 hl).1 (by intro e; cases e; omega)).trans hl
    refine (hseq (w.heap.size + 1)
      (fun k W => I k W ∧ W.heap[w.heap.size + 1]? = some (.loop (rec .ready none)) ∧ W.heap[w.heap.size]? = some (.deferred (some [])))
      (fun k W => ∃ c, Ix c k W ∧ W.heap[w.heap.size + 1]? = some (.loop (rec .done (some c))) ∧ W.heap[w.heap.size]? = some (.deferred (some [])))
      W1 hk1
      (fun k A C hs hg' => ⟨hI k A C hs.1 (hgb hg'), hst hg' (by omega) hs.2.1, hst hg' (Nat.le_refl _) hs.2.2⟩)
      (fun k A C hs hg' => by
        obtain ⟨c, hc, hl, hk⟩ := hs
        exact ⟨c, hIx c k A C hc (hgb hg'), hst hg' (by omega) hl, hst hg' (Nat.le_refl _) hk⟩)
      ?_ ⟨hI1, hL1, hK1⟩).mono ?_
    · -- one round
      rintro k W v ⟨hi, hl, hk⟩ hv
      have hlt : w.heap.size + 1 < W.heap.size := (Array.getElem?_eq_some_iff.1 hl).1
      have hy := run_yield (P := P) (args := #[v]) hl (by rw [hrec]; exact hps.symm)
      rw [hrec] at hy
      refine ⟨fn, _, assign, body, hy, roundIn_of_wpIn hfn (hassign _ v W _ ⟨_, run_beginRound hl (by rw [hrec]), ?_⟩)⟩
      have hl2 : (W.putObj (w.heap.size + 1) (.loop { rec .ready none with state := .busy })).heap[w.heap.size + 1]? = some (.loop { rec .ready none with state := .busy }) := World.putObj_heap_same hlt
      have hk2 : (W.putObj (w.heap.size + 1) (.loop { rec .ready none with state := .busy })).heap[w.heap.size]? = some (.deferred (some [])) := (World.putObj_heap_other (by omega)).trans hk
      have hz2 : (W.putObj (w.heap.size + 1) (.loop { rec .ready none with state := .busy })).heap.size = W.heap.size := World.putObj_size
      have hi2 := hI.put (.loop { rec .ready none with state := .busy }) hi (Nat.le_succ _) hl rfl
      refine wpIn_mono (hbody _ k v _ hi2 hv (by rw [hz2]; omega) (by omega) ⟨_, hl2⟩) ?_
      have fin : ∀ (jump : Option Code) (W3 : World), Keeps L B (W.putObj (w.heap.size + 1) (.loop { rec .ready none with state := .busy })) W3 →
          (Instr.endRound (w.heap.size + 1) jump).run P W3 = .ok (.bool jump.isNone) (W3.putObj (w.heap.size + 1) (.loop (rec (if jump.isNone then .ready else .done) jump))) ∧
          W3.heap[w.heap.size + 1]? = some (.loop { rec .ready none with state := .busy }) ∧
          (W3.putObj (w.heap.size + 1) (.loop (rec (if jump.isNone then .ready else .done) jump))).heap[w.heap.size + 1]? = some (.loop (rec (if jump.isNone then .ready else .done) jump)) ∧
          (W3.putObj (w.heap.size + 1) (.loop (rec (if jump.isNone then .ready else .done) jump))).heap[w.heap.size]? = some (.deferred (some [])) := fun jump W3 hk3 => by
        have hl3 := (hk3.block _ (.inr (.inr ⟨_, hl2, rfl⟩)) (by rw [hz2]; omega)).trans hl2
        have hd3 := (hk3.block _ (.inr (.inr ⟨_, hk2, rfl⟩)) (by rw [hz2]; omega)).trans hk2
        have := run_endRound (P := P) jump hl3
        rw [hrec] at this ⊢
        exact ⟨this, by rw [hrec] at hl3; exact hl3, World.putObj_heap_same (Array.getElem?_eq_some_iff.1 hl3).1, (World.putObj_heap_other (by omega)).trans hd3⟩
      have keep : ∀ (W3 : World) (o : Obj), Keeps L B (W.putObj (w.heap.size + 1) (.loop { rec .ready none with state := .busy })) W3 →
          o = .loop (rec .ready none) → Keeps L B W (W3.putObj (w.heap.size + 1) o) := fun W3 o hk3 ho => by
        refine ⟨by rw [World.putObj_size]; have := hk3.size; rw [hz2] at this; exact this, fun r hb hr => ?_⟩
        by_cases e : r = w.heap.size + 1
        · subst e; rw [World.putObj_heap_same (Nat.lt_of_lt_of_le hlt (by have := hk3.size; rw [hz2] at this; exact this)), ho]; exact hl.symm
        · rw [World.putObj_heap_other e, hk3.block r (by rwa [World.putObj_heap_other e]) (by rw [hz2]; exact hr), World.putObj_heap_other e]
      rintro e a3 W3 hp
      cases e with
      | normal =>
        obtain ⟨hk3, hi3⟩ := hp
        obtain ⟨hr, hl3, hl4, hk4⟩ := fin none W3 hk3
        exact ⟨_, _, hr, .inl ⟨rfl, ⟨hI.put _ hi3 (Nat.le_succ _) hl3 rfl, hl4, hk4⟩, keep W3 _ hk3 (by simp)⟩⟩
      | ret =>
        obtain ⟨hk3, hi3⟩ := hp
        obtain ⟨hr, hl3, hl4, hk4⟩ := fin (some .ret) W3 hk3
        exact ⟨_, _, hr, .inr ⟨rfl, .ret, (hIx _).put _ hi3 (Nat.le_succ _) hl3 rfl, hl4, hk4⟩⟩
      | exit id =>
        obtain ⟨hk3, hi3⟩ := hp
        obtain ⟨hr, hl3, hl4, hk4⟩ := fin (some (.exit id)) W3 hk3
        exact ⟨_, _, hr, .inr ⟨rfl, .exit id, (hIx _).put _ hi3 (Nat.le_succ _) hl3 rfl, hl4, hk4⟩⟩
      | goto t =>
        obtain ⟨hk3, hi3⟩ := hp
        obtain ⟨hr, hl3, hl4, hk4⟩ := fin (some (.goto t)) W3 hk3
        exact ⟨_, _, hr, .inr ⟨rfl, .goto t, (hIx _).put _ hi3 (Nat.le_succ _) hl3 rfl, hl4, hk4⟩⟩
      | panic ch => exact hp.elim
      | outgrown => exact hp.elim
    · -- behind the iterator
      rintro e W2 ⟨⟨v, rfl⟩, (⟨hi, hl, hk⟩ | ⟨k, c, hi, hl, hk⟩)⟩
      · exact ⟨none, _, by have := run_endLoop (P := P) hl (by rw [hrec]; simp); rw [hrec] at this; exact this, hdone _ _ (hI.put _ hi (Nat.le_succ _) hl rfl) ((World.putObj_heap_other (by omega)).trans hk) (Nat.le_refl _)⟩
      · exact ⟨some c, _, by have := run_endLoop (P := P) hl (by rw [hrec]; simp); rw [hrec] at this; exact this, hstop _ c k _ ((hIx c).put _ hi (Nat.le_succ _) hl rfl) ((World.putObj_heap_other (by omega)).trans hk) (Nat.le_refl _)⟩
theorem range_cutsN {l₀ : Nat} {r₀ : Loop} {g : Operand} {ps : Array Tmp} {assign body : Code} {Q : Exit → Act → World → Prop} {a : Act} {w : World}
    (hro : F.round = some l₀) (hl₀ : w.heap[l₀]? = some (.loop r₀)) (h1 : 1 ≤ n) {gf : Nat} {lb : Array Value} (hg : a.eval g = .func (.func gf) #[] lb) (hFg : F.fn gf) (eg : ∀ args w, (callFunc gf args).run P w = .ok (.enter gf args) w)
    {L B : Nat} {xs : List Value} (hB : B < w.heap.size) (hseq : Iter F (n - 1) P gf lb L B xs w) (hps : ps.size = 1)
    (I : Nat → World → Prop) (Ix : Code → Nat → World → Prop) (hI : Hold B w.heap.size I) (hIx : ∀ c, Hold B w.heap.size (Ix c)) (h0 : I 0 w) (a₁ : Value → Act)
    (hassign : ∀ (l : Nat) (v : Value) (W : World) (K : Act → World → Prop), K (a₁ v) W →
      assign.wpIn (F.inRound l) (n - 1 - 1) P (Exit.then K (fun _ _ _ => False)) { tmps := (ps.zip #[v]).foldl (fun t (p, v) => t.setIfInBounds p v) a.tmps, defers := [] } W)
    (hbody : ∀ (l k : Nat) (v : Value) (W : World), I k W → xs[k]? = some v → w.heap.size ≤ W.heap.size → w.heap.size ≤ l → (∃ r, W.heap[l]? = some (.loop r)) → body.wpIn (F.inRound l) (n - 1 - 1) P (cutPost L B I Ix k W) (a₁ v) W)
    (hdone : ∀ (W : World), I xs.length W → Q .normal a W)
    (hstop : ∀ (c : Code) (k : Nat) (W : World), Ix c k W → c.wpIn F n P Q a W) :
    (Code.rangeFunc g ps assign body).wpIn F n P Q a w := by
  refine wpIn_rangeFunc ?_
  intro fn hfn
  rw [hro]
  obtain ⟨rec, hrec⟩ : ∃ rec : LoopState → Option Code → Loop, rec = fun st pe => { state := st, pending := pe, fn, tmps := a.tmps, params := ps, assign, body, defers := r₀.defers } := ⟨_, rfl⟩
  obtain ⟨W1, hW1⟩ : ∃ W1, w.alloc (.loop (rec .ready none)) = W1 := ⟨_, rfl⟩
  have hz1 : W1.heap.size = w.heap.size + 1 := by rw [← hW1]; simp
  have hL1 : W1.heap[w.heap.size]? = some (.loop (rec .ready none)) := by rw [← hW1]; exact World.alloc_heap_new w _
  have hI1 : I 0 W1 := by rw [← hW1]; exact hI.new _ h0
  have hk1 : Keeps L B w W1 := by rw [← hW1]; exact Keeps.alloc _ _ _ _
  refine ⟨w.heap.size, [], W1, { target := .fn (.func gf) lb, args := #[.func (.yield w.heap.size) #[] #[]] }, W1, gf,
    #[.func (.yield w.heap.size) #[] #[]] ++ lb, W1, ?_, ?_, ?_, ?_, fun _ => h1, ?_⟩
  · rw [← hW1, hrec]; exact run_enterLoop_inner hl₀ _ _ _ _ _
  · simp only [resolve, hg]
    simp [go_sem]
  · intro f' hf'; simp [Target.leads] at hf'; subst hf'; exact hFg
  · simp [invoke, go_sem, eg]
  · have hgb : ∀ {W W' : World}, W.grownBy W' (some B) → Harm B w.heap.size W W' := fun h => ⟨some B, h, fun r e => .inl (by cases e; rfl)⟩
    have hst : ∀ {W W' : World} {r : Nat} {o : Obj}, W.grownBy W' (some B) → w.heap.size ≤ r → W.heap[r]? = some o → W'.heap[r]? = some o :=
      fun {W W' r o} h hr hl => (h.block r (Array.getElem?_eq_some_iff.1 hl).1 (by intro e; cases e; omega)).trans hl
    refine (hseq w.heap.size
      (fun k W => I k W ∧ W.heap[w.heap.size]? = some (.loop (rec .ready none)))
      (fun k W => ∃ c, Ix c k W ∧ W.heap[w.heap.size]? = some (.loop (rec .done (some c))))
      W1 hk1
      (fun k A C hs hg' => ⟨hI k A C hs.1 (hgb hg'), hst hg' (Nat.le_refl _) hs.2⟩)
      (fun k A C hs hg' => by
        obtain ⟨c, hc, hl⟩ := hs
        exact ⟨c, hIx c k A C hc (hgb hg'), hst hg' (Nat.le_refl _) hl⟩)
      ?_ ⟨hI1, hL1⟩).mono ?_
    · rintro k W v ⟨hi, hl⟩ hv
      have hlt : w.heap.size < W.heap.size := (Array.getElem?_eq_some_iff.1 hl).1
      have hy := run_yield (P := P) (args := #[v]) hl (by rw [hrec]; exact hps.symm)
      rw [hrec] at hy
      refine ⟨fn, _, assign, body, hy, roundIn_of_wpIn hfn (hassign _ v W _ ⟨_, run_beginRound hl (by rw [hrec]), ?_⟩)⟩
      have hl2 : (W.putObj w.heap.size (.loop { rec .ready none with state := .busy })).heap[w.heap.size]? = some (.loop { rec .ready none with state := .busy }) := World.putObj_heap_same hlt
      have hz2 : (W.putObj w.heap.size (.loop { rec .ready none with state := .busy })).heap.size = W.heap.size := World.putObj_size
      have hi2 := hI.put (.loop { rec .ready none with state := .busy }) hi (Nat.le_refl _) hl rfl
      refine wpIn_mono (hbody _ k v _ hi2 hv (by rw [hz2]; omega) (Nat.le_refl _) ⟨_, hl2⟩) ?_
      have fin : ∀ (jump : Option Code) (W3 : World), Keeps L B (W.putObj w.heap.size (.loop { rec .ready none with state := .busy })) W3 →
          (Instr.endRound w.heap.size jump).run P W3 = .ok (.bool jump.isNone) (W3.putObj w.heap.size (.loop (rec (if jump.isNone then .ready else .done) jump))) ∧
          W3.heap[w.heap.size]? = some (.loop { rec .ready none with state := .busy }) ∧
          (W3.putObj w.heap.size (.loop (rec (if jump.isNone then .ready else .done) jump))).heap[w.heap.size]? = some (.loop (rec (if jump.isNone then .ready else .done) jump)) := fun jump W3 hk3 => by
        have hl3 := (hk3.block _ (.inr (.inr ⟨_, hl2, rfl⟩)) (by rw [hz2]; omega)).trans hl2
        have := run_endRound (P := P) jump hl3
        rw [hrec] at this ⊢
        exact ⟨this, by rw [hrec] at hl3; exact hl3, World.putObj_heap_same (Array.getElem?_eq_some_iff.1 hl3).1⟩
      have keep : ∀ (W3 : World) (o : Obj), Keeps L B (W.putObj w.heap.size (.loop { rec .ready none with state := .busy })) W3 →
          o = .loop (rec .ready none) → Keeps L B W (W3.putObj w.heap.size o) := fun W3 o hk3 ho => by
        refine ⟨by rw [World.putObj_size]; have := hk3.size; rw [hz2] at this; exact this, fun r hb hr => ?_⟩
        by_cases e : r = w.heap.size
        · subst e; rw [World.putObj_heap_same (Nat.lt_of_lt_of_le hlt (by have := hk3.size; rw [hz2] at this; exact this)), ho]; exact hl.symm
        · rw [World.putObj_heap_other e, hk3.block r (by rwa [World.putObj_heap_other e]) (by rw [hz2]; exact hr), World.putObj_heap_other e]
      rintro e a3 W3 hp
      cases e with
      | normal =>
        obtain ⟨hk3, hi3⟩ := hp
        obtain ⟨hr, hl3, hl4⟩ := fin none W3 hk3
        exact ⟨_, _, hr, .inl ⟨rfl, ⟨hI.put _ hi3 (Nat.le_refl _) hl3 rfl, hl4⟩, keep W3 _ hk3 (by simp)⟩⟩
      | ret =>
        obtain ⟨hk3, hi3⟩ := hp
        obtain ⟨hr, hl3, hl4⟩ := fin (some .ret) W3 hk3
        exact ⟨_, _, hr, .inr ⟨rfl, .ret, (hIx _).put _ hi3 (Nat.le_refl _) hl3 rfl, hl4⟩⟩
      | exit id =>
        obtain ⟨hk3, hi3⟩ := hp
        obtain ⟨hr, hl3, hl4⟩ := fin (some (.exit id)) W3 hk3
        exact ⟨_, _, hr, .inr ⟨rfl, .exit id, (hIx _).put _ hi3 (Nat.le_refl _) hl3 rfl, hl4⟩⟩
      | goto t =>
        obtain ⟨hk3, hi3⟩ := hp
        obtain ⟨hr, hl3, hl4⟩ := fin (some (.goto t)) W3 hk3
        exact ⟨_, _, hr, .inr ⟨rfl, .goto t, (hIx _).put _ hi3 (Nat.le_refl _) hl3 rfl, hl4⟩⟩
      | panic ch => exact hp.elim
      | outgrown => exact hp.elim
    · rintro e W2 ⟨⟨v, rfl⟩, (⟨hi, hl⟩ | ⟨k, c, hi, hl⟩)⟩
      · exact ⟨none, _, by have := run_endLoop (P := P) hl (by rw [hrec]; simp); rw [hrec] at this; exact this, hdone _ (hI.put _ hi (Nat.le_refl _) hl rfl)⟩
      · exact ⟨some c, _, by have := run_endLoop (P := P) hl (by rw [hrec]; simp); rw [hrec] at this; exact this, hstop c k _ ((hIx c).put _ hi (Nat.le_refl _) hl rfl)⟩
theorem Iter.inRound {gf : Nat} {lb : Array Value} {L B : Nat} {xs : List Value} {w : World} (l : Nat) (h : Iter F n P gf lb L B xs w) : Iter (F.inRound l) n P gf lb L B xs w := h
end Go.Proofs.Cuts

set_option linter.unusedSimpArgs false
set_option linter.unusedVariables false
namespace Go.Lg.Tryz
open Go Go.Proofs Go.RowKit Go.Shelf Go.Proofs.Cuts Go.Lg.Sem
attribute [local go_sem] Oper.semAt_some
def seqW (s sep : ByteArray) (w : World) : World := ((w.alloc (.cells #[.string s] 9)).alloc (.cells #[.string sep] 9)).alloc (.cells #[.int .i64 0] 3)
def seqV (B : Nat) : Value := .func (.func 141) #[] #[.pointer (some ⟨B + 1, 0, none⟩), .pointer (some ⟨B, 0, none⟩), .pointer (some ⟨B + 2, 0, none⟩)]
set_option maxRecDepth 100000 in
theorem splitSeq_any (s sep : ByteArray) (w : World) :
    Calls Tryz.prog 128 #[.string s, .string sep, .int .i64 0] w fun e w' => e = .returned (seqV w.heap.size) ∧ w' = seqW s sep w := by
  go_enter Tryz.func128, Tryz.ntmps128
  go_wp2_with fail
  go_ret
  exact ⟨rfl, rfl⟩
set_option maxRecDepth 100000 in
theorem SplitSeq_any (s sep : ByteArray) (w : World) :
    Calls Tryz.prog 105 #[.string s, .string sep] w fun e w' => e = .returned (seqV w.heap.size) ∧ w' = seqW s sep w := by
  go_enter Tryz.func105, Tryz.ntmps105
  go_wp2_with fail
  refine (splitSeq_any s sep w).mono ?_
  rintro e w' ⟨rfl, rfl⟩
  go_wp2_with fail
  go_ret
  exact ⟨rfl, rfl⟩
def IterRel (B : Nat) (s sep : ByteArray) (J : Nat → World → Prop) (m : Int) (wr : World) : Prop :=
  ∃ k r, wr.heap[B]? = some (.cells #[.string r] 9 (0, 0)) ∧ J k wr ∧ ((pieces sep s).map Value.string).drop k = (pieces sep r).map Value.string ∧ r.size ≤ s.size ∧
    wr.cell? ⟨B + 1, 0, none⟩ = some (.string sep) ∧ wr.cell? ⟨B + 2, 0, none⟩ = some (.int .i64 0) ∧ wr.cell? ⟨4, 0, none⟩ = some (.int .i64 m)
def left (B : Nat) (wr : World) : Nat := match wr.cell? ⟨B, 0, none⟩ with | some (.string r) => r.size | _ => 0
theorem left_eq {B : Nat} {wr : World} {r : ByteArray} (h : wr.heap[B]? = some (.cells #[.string r] 9 (0, 0))) : left B wr = r.size := by simp [left, World.cell?, h]
theorem index_any (r sep : ByteArray) (m : Int) (w : World) (h : r.size < 4294967281 ∨ ∃ c, sep = ⟨#[c]⟩) (hm : w.cell? ⟨4, 0, none⟩ = some (.int .i64 m)) :
    Calls Tryz.prog 142 #[.string r, .string sep] w fun e w' => e = .returned (.int .i64 (Lib.index r.data.toList sep.data.toList)) ∧ w' = w := by
  rcases h with h | ⟨c, rfl⟩
  · exact Tryz.strings_Index r sep m w h hm
  · have := Tryz.strings_Index_one r c w
    rw [← Lib.index_one] at this
    exact this
set_option maxHeartbeats 2000000 in
set_option maxRecDepth 100000 in
theorem split_iter (n : Nat) (hn : 1 ≤ n) (l B : Nat) (hLB : 8 ≤ B) (s sep : ByteArray) (hs : s.size < 9223372036854775808) (hx1 : s.size < 4294967281 ∨ ∃ c, sep = ⟨#[c]⟩) (h1 : 1 ≤ sep.size) (J Jx : Nat → World → Prop) (W : World)
    (hJ : HoldB B J) (hJx : HoldB B Jx)
    (hY : ∀ k W1 v, J k W1 → ((pieces sep s).map Value.string)[k]? = some v → YieldAt Fence.wide (n - 1) Tryz.prog l #[v] W1 fun e W' => (e = .returned (.bool true) ∧ J (k + 1) W' ∧ Keeps 8 B W1 W') ∨ (e = .returned (.bool false) ∧ Jx (k + 1) W'))
    (hb0 : W.heap[B]? = some (.cells #[.string s] 9 (0, 0))) (hb1 : W.heap[B + 1]? = some (.cells #[.string sep] 9 (0, 0))) (hb2 : W.heap[B + 2]? = some (.cells #[.int .i64 0] 3 (0, 0)))
    (m : Int) (hm : W.cell? ⟨4, 0, none⟩ = some (.int .i64 m)) (h0 : J 0 W) :
    CallsIn Fence.wide n Tryz.prog 141 (#[.func (.yield l) #[] #[]] ++ #[.pointer (some ⟨B + 1, 0, none⟩), .pointer (some ⟨B, 0, none⟩), .pointer (some ⟨B + 2, 0, none⟩)]) W fun e W' => (∃ v, e = .returned v) ∧
      (J ((pieces sep s).map Value.string).length W' ∨ ∃ k, Jx k W') := by
  refine callsIn_of_wp Tryz.func141 rfl trivial ?_ rfl
  simp only [Tryz.ntmps141, List.size_toArray, List.length_cons, List.length_nil, Nat.reduceAdd, Nat.reduceSub, Array.replicate_succ, Array.replicate_zero, List.push_toArray, List.append_toArray, List.nil_append, List.cons_append]
  have c1 : W.cell? ⟨B + 1, 0, none⟩ = some (.string sep) := by simp [World.cell?, hb1]
  have c1' : W.cell? ⟨B + 1, 0, none⟩ = some (.string sep) := c1
  have c2' : W.cell? ⟨B + 2, 0, none⟩ = some (.int .i64 0) := by simp [World.cell?, hb2]
  have hne : ((sep.size : Int) == 0) = false := beq_eq_false_iff_ne.2 (by omega)
  clear hb1
  gi_wp2_with fail
  gi_loopw [7] (fun _ wr => IterRel B s sep J m wr) (fun _ wr => left B wr)
  case atStart => exact ⟨0, s, hb0, h0, rfl, Nat.le_refl _, c1', c2', hm⟩
  case round =>
    obtain ⟨k, r, hr0, hJk, hd, hle, g1, g2, gm⟩ := hrel
    clear c1 c1' c2' hm hb0 hb2 h0
    have cr : wr.cell? ⟨B, 0, none⟩ = some (.string r) := by simp [World.cell?, hr0]
    have fr : wr.frozen? ⟨B, 0, none⟩ = false := by simp [World.frozen?, hr0]
    have HD := Lib.hid hd
    have HR0 := Lib.hid hr0
    have HL := Lib.hid (left_eq hr0)
    clear hd hr0
    by_cases hi : Lib.indexB r sep = -1
    · have hx : Lib.index r.data.toList sep.data.toList = -1 := hi
      have hcall := Lib.hid (index_any r sep m wr (hx1.imp (fun h => by omega) (fun h => h)) gm)
      have hp := pieces_miss sep r hi
      have HN : Hid (k + 1 = ((pieces sep s).map Value.string).length) := Lib.hid (by
        have := congrArg List.length HD.out
        rw [hp] at this; simp at this
        have hlt : k < ((pieces sep s).map Value.string).length := by rw [List.length_map]; omega
        rw [List.length_map]; omega)
      obtain ⟨fn, tmps, assign, body, hy, hR⟩ := hY k wr (.string r) hJk (by have := congrArg (fun l => l[0]?) HD.out; simpa [hp] using this)
      clear hi hp
      have HX := Lib.hid hx
      clear hx
      gi_wp2_with fail
      refine ⟨trivial, (callsIn_wide.2 hcall.out).mono ?_⟩
      rintro e w' ⟨rfl, rfl⟩
      rw [HX.out]
      gi_wp2_with fail
      refine hR.mono ?_
      rintro e W3 (⟨rfl, hJ3, hk3⟩ | ⟨rfl, hJx3⟩)
      · gi_wp2_with fail
        refine bodyPost_end (results_none rfl _ _ _) rfl ?_
        exact ⟨⟨_, rfl⟩, .inl (by rw [← HN.out]; exact hJ3)⟩
      · gi_wp2_with fail
        refine bodyPost_end (results_none rfl _ _ _) rfl ?_
        exact ⟨⟨_, rfl⟩, .inr ⟨_, hJx3⟩⟩
    · obtain ⟨i, hi', hib⟩ : ∃ i : Nat, Lib.indexB r sep = i ∧ i + sep.size ≤ r.size := (Lib.indexB_cases r sep).resolve_left hi
      have hx : Lib.index r.data.toList sep.data.toList = (i : Int) := hi'
      have hcall := Lib.hid (index_any r sep m wr (hx1.imp (fun h => by omega) (fun h => h)) gm)
      have hp := pieces_hit sep r h1 i hi'
      have HN : Hid (((pieces sep s).map Value.string).drop (k + 1) = (pieces sep (r.extract (i + sep.size) r.size)).map Value.string) := Lib.hid (by
        have := congrArg (fun l => l.drop 1) HD.out
        simp only [hp, List.map_cons, List.drop_succ_cons, List.drop_zero, List.drop_drop] at this
        rw [← this])
      have hY' := hY k wr (.string (r.extract 0 i)) hJk (by have := congrArg (fun l => l[0]?) HD.out; simpa [hp] using this)
      obtain ⟨fn, tmps, assign, body, hy, hR⟩ := hY'
      have HX := Lib.hid hx
      clear hi hi' hp hx
      gi_wp2_with fail
      refine ⟨trivial, (callsIn_wide.2 hcall.out).mono ?_⟩
      rintro e w' ⟨rfl, rfl⟩
      rw [HX.out]
      gi_wp2_with fail
      refine hR.mono ?_
      rintro e W3 (⟨rfl, hJ3, hk3⟩ | ⟨rfl, hJx3⟩)
      · have hr3 : W3.heap[B]? = some (.cells #[.string r] 9 (0, 0)) := (hk3.block B (.inr (.inl ⟨Nat.le_refl _, by omega⟩)) (by have := (Array.getElem?_eq_some_iff.1 HR0.out).1; exact this)).trans HR0.out
        have cr3 : W3.cell? ⟨B, 0, none⟩ = some (.string r) := by simp [World.cell?, hr3]
        have fr3 : W3.frozen? ⟨B, 0, none⟩ = false := by simp [World.frozen?, hr3]
        have g13 := hk3.cell (p := ⟨B + 1, 0, none⟩) (.inr ⟨Nat.le_succ _, by show B + 1 < B + 3; omega⟩) g1
        have g23 := hk3.cell (p := ⟨B + 2, 0, none⟩) (.inr ⟨by show B ≤ B + 2; omega, by show B + 2 < B + 3; omega⟩) g2
        have gm3 := hk3.cell (p := ⟨4, 0, none⟩) (.inl (by show 4 < 8; omega)) gm
        have HR3 := Lib.hid hr3
        clear hr3 hk3
        gi_wp2_with fail
        have hrel3 : IterRel B s sep J m (W3.setCell ⟨B, 0, none⟩ (.string (r.extract (i + sep.size) r.size))) :=
          ⟨k + 1, _, one_setCell HR3.out, hJ _ _ _ hJ3 (grownBy_setCell' _ _ _), HN.out, by rw [ByteArray.size_extract]; omega,
            (World.cell?_setCell_other _ _ _ _ (by simp)).trans g13, (World.cell?_setCell_other _ _ _ _ (by simp)).trans g23, (World.cell?_setCell_other _ _ _ _ (by intro e; cases e; omega)).trans gm3⟩
        have hme : left B (W3.setCell ⟨B, 0, none⟩ (.string (r.extract (i + sep.size) r.size))) < left B w' := by rw [left_eq (one_setCell HR3.out), HL.out, ByteArray.size_extract]; omega
        exact ⟨hrel3, hme⟩
      · gi_wp2_with fail
        refine bodyPost_ret (results_none rfl _ _ _) rfl ?_
        exact ⟨⟨_, rfl⟩, .inr ⟨_, hJx3⟩⟩
def seqB (B : Nat) : Array Value := #[.pointer (some ⟨B + 1, 0, none⟩), .pointer (some ⟨B, 0, none⟩), .pointer (some ⟨B + 2, 0, none⟩)]
theorem seqW_at (s sep : ByteArray) (w : World) : (seqW s sep w).heap[w.heap.size]? = some (.cells #[.string s] 9 (0, 0)) ∧
    (seqW s sep w).heap[w.heap.size + 1]? = some (.cells #[.string sep] 9 (0, 0)) ∧ (seqW s sep w).heap[w.heap.size + 2]? = some (.cells #[.int .i64 0] 3 (0, 0)) ∧ (seqW s sep w).heap.size = w.heap.size + 3 := by
  have e2 : ((w.alloc (.cells #[.string s] 9)).alloc (.cells #[.string sep] 9)).heap.size = w.heap.size + 2 := by simp
  have e1 : (w.alloc (.cells #[.string s] 9)).heap.size = w.heap.size + 1 := by simp
  unfold seqW
  refine ⟨?_, ?_, ?_, by simp⟩
  · rw [Below.heap_alloc _ _ _ (by omega), Below.heap_alloc _ _ _ (by omega)]; exact World.alloc_heap_new _ _
  · rw [Below.heap_alloc _ _ _ (by omega), ← e1]; exact World.alloc_heap_new _ _
  · rw [← e2]; exact World.alloc_heap_new _ _
theorem split_Iter (n : Nat) (hn : 1 ≤ n) (s sep : ByteArray) (hs : s.size < 9223372036854775808) (hx1 : s.size < 4294967281 ∨ ∃ c, sep = ⟨#[c]⟩) (h1 : 1 ≤ sep.size) (w : World) (hG : Gw w) :
    Iter Fence.wide n Tryz.prog 141 (seqB w.heap.size) 8 w.heap.size ((pieces sep s).map Value.string) (seqW s sep w) := by
  intro l J Jx W hk hJ hJx hY h0
  obtain ⟨a0, a1, a2, az⟩ := seqW_at s sep w
  obtain ⟨m, hm⟩ := hG.most
  have hb := hG.big
  have hm' : (seqW s sep w).cell? ⟨4, 0, none⟩ = some (.int .i64 m) := pcell_below ((((Below.refl _ w).alloc (Nat.le_refl _) _).alloc (by simp) _).alloc (by simp; omega) _) hm
  exact split_iter n hn l w.heap.size (by omega) s sep hs hx1 h1 J Jx W hJ hJx hY
    ((hk.block _ (.inr (.inl ⟨Nat.le_refl _, by omega⟩)) (by rw [az]; omega)).trans a0) ((hk.block _ (.inr (.inl ⟨Nat.le_succ _, by omega⟩)) (by rw [az]; omega)).trans a1) ((hk.block _ (.inr (.inl ⟨by omega, by omega⟩)) (by rw [az]; omega)).trans a2)
    m (hk.cell (.inl (by show 4 < 8; omega)) hm') h0
structure PreI (s : ByteArray) (w : World) (k : Nat) (W : World) : Prop where
  le : k ≤ 4
  all : ((pieces dot s).take k).all (fun p => markL p.data.toList) = true
  r : W.heap[w.heap.size]? = some (.cells #[.bool false] 4 (0, 0))
  n : W.heap[w.heap.size + 1]? = some (.cells #[.int .i64 k] 3 (0, 0))
  bel : Below w.heap.size w W
structure PreX (s : ByteArray) (w : World) (W : World) : Prop where
  no : preB s = false
  r : W.heap[w.heap.size]? = some (.cells #[.bool false] 4 (0, 0))
  bel : Below w.heap.size w W
theorem harm_block {b E r : Nat} {W W' : World} {o : Obj} (h : Harm b E W W') (hr : W.heap[r]? = some o) (h1 : r ≠ b) (h2 : o.isCells = true) : W'.heap[r]? = some o := by
  obtain ⟨row, hg, hrow⟩ := h
  refine (hg.block r (Array.getElem?_eq_some_iff.1 hr).1 (fun e => ?_)).trans hr
  rcases hrow r e.symm with e1 | ⟨_, o', ho', hc⟩
  · exact h1 e1
  · rw [hr] at ho'; cases ho'; rw [h2] at hc; cases hc
theorem harm_below {b E B : Nat} {w W W' : World} (h : Harm b E W W') (hb : Below B w W) (hB : B ≤ W.heap.size) (h1 : B ≤ b) (h2 : B ≤ E) : Below B w W' := by
  obtain ⟨row, hg, hrow⟩ := h
  refine hb.grown hg hB (fun k e => ?_)
  rcases hrow k e with e1 | ⟨e1, _⟩ <;> omega
set_option maxHeartbeats 2000000 in
set_option maxRecDepth 100000 in
theorem pre_any (s : ByteArray) (hs : s.size < 9223372036854775808) (w : World) (hG : Gw w) :
    Calls Tryz.prog 77 #[.string s] w fun e w' => e = .returned (.bool (preB s)) ∧ Below w.heap.size w w' := by
  refine (callsIn_wide (n := 9)).1 ?_
  refine callsIn_of_wp_marks Tryz.func77 rfl trivial ?_ rfl
  simp only [Tryz.ntmps77, List.size_toArray, List.length_cons, List.length_nil, Nat.reduceAdd, Nat.reduceSub, Array.replicate_succ, Array.replicate_zero, List.push_toArray, List.append_toArray, List.nil_append, List.cons_append]
  have HG := Lib.hid hG
  clear hG
  gi_wp2_with fail
  refine ⟨trivial, (callsIn_wide.2 (SplitSeq_any s dot _)).mono ?_⟩
  rintro e w' ⟨rfl, rfl⟩
  gi_wp2_with fail
  have hz : ((w.alloc (.cells #[.bool false] 4)).alloc (.cells #[.int .i64 0] 3)).heap.size = w.heap.size + 2 := by simp
  have hbel0 : Below w.heap.size w ((w.alloc (.cells #[.bool false] 4)).alloc (.cells #[.int .i64 0] 3)) := ((Below.refl _ w).alloc (Nat.le_refl _) _).alloc (by simp) _
  have hr0 : ((w.alloc (.cells #[.bool false] 4)).alloc (.cells #[.int .i64 0] 3)).heap[w.heap.size]? = some (.cells #[.bool false] 4 (0, 0)) := by
    rw [Below.heap_alloc _ _ _ (by simp)]; exact World.alloc_heap_new _ _
  have hn0 : ((w.alloc (.cells #[.bool false] 4)).alloc (.cells #[.int .i64 0] 3)).heap[w.heap.size + 1]? = some (.cells #[.int .i64 0] 3 (0, 0)) := by
    have := World.alloc_heap_new (w.alloc (.cells #[.bool false] 4)) (.cells #[.int .i64 0] 3); rwa [World.size_alloc] at this
  generalize hW0 : (w.alloc (.cells #[.bool false] 4)).alloc (.cells #[.int .i64 0] 3) = W0 at *
  have hz' : W0.heap.size = w.heap.size + 1 + 1 := hz
  have hit := split_Iter 8 (by omega) s dot hs (.inr ⟨46, rfl⟩) (by decide) W0 (Gw.below _ _ HG.out hbel0)
  obtain ⟨a0, a1, a2, az⟩ := seqW_at s dot W0
  have hbW : Below W0.heap.size W0 (seqW s dot W0) := (((Below.refl _ W0).alloc (Nat.le_refl _) _).alloc (by simp) _).alloc (by simp; omega) _
  rw [hz'] at hit a0 a1 a2 az hbW
  refine range_cuts rfl (by omega) (gf := 141) (lb := seqB (w.heap.size + 1 + 1)) rfl trivial (enters_of Tryz.func141 (by kernel_rfl) rfl) (L := 8) (B := w.heap.size + 1 + 1) (by rw [az]; omega)
    hit rfl
    (fun k W => PreI s w k W) (fun c k W => c = .ret ∧ PreX s w W)
    ?hI ?hIx ?h0 (fun v => { tmps := #[.string s, undef, .pointer (some ⟨w.heap.size, 0, none⟩), .pointer (some ⟨w.heap.size + 1, 0, none⟩), v, .string s, seqV (w.heap.size + 1 + 1), v, undef, undef, undef, undef, undef, undef, undef, undef, undef], defers := [] }) ?assign ?body ?done ?stop
  case hI =>
    intro k W W' h hh
    exact ⟨h.le, h.all, harm_block hh h.r (by omega) rfl, harm_block hh h.n (by omega) rfl, harm_below hh h.bel h.bel.size (by omega) (by omega)⟩
  case hIx =>
    rintro c k W W' ⟨rfl, h⟩ hh
    exact ⟨rfl, h.no, harm_block hh h.r (by omega) rfl, harm_below hh h.bel h.bel.size (by omega) (by omega)⟩
  case h0 =>
    exact ⟨by omega, rfl, (hbW.block _ (by omega)).trans hr0, (hbW.block _ (by omega)).trans hn0, hbel0.trans (hbW.mono (by omega))⟩
  case assign =>
    intro l v W K hK
    gi_wp2
    exact hK
  case body =>
    rintro l k v W hI hv hsz - -
    obtain ⟨p, rfl, hp⟩ : ∃ p, v = .string p ∧ (pieces dot s)[k]? = some p := by
      rw [List.getElem?_map] at hv
      obtain ⟨p, h1, h2⟩ := Option.map_eq_some_iff.1 hv
      exact ⟨p, h2.symm, h1⟩
    have cn := cell_of_one hI.n
    have fn := free_of_one hI.n
    have cr := cell_of_one hI.r
    have fr := free_of_one hI.r
    have hk4 := hI.le
    have HI := Lib.hid hI
    have hbig := HG.out.big
    have kn : ∀ v, Keeps 8 (w.heap.size + 1 + 1) W (W.setCell ⟨w.heap.size + 1, 0, none⟩ v) := fun v => Keeps.setCell W _ v (by show 8 ≤ w.heap.size + 1; omega) (.inl (by show w.heap.size + 1 < _; omega))
    have hlen : k < (pieces dot s).length := (List.getElem?_eq_some_iff.1 hp).1
    have hWb : ∀ v, Below w.heap.size w (W.setCell ⟨w.heap.size + 1, 0, none⟩ v) := fun v => hI.bel.setCell (p := ⟨w.heap.size + 1, 0, none⟩) (by show w.heap.size ≤ w.heap.size + 1; omega) _
    have r1 : ∀ v, (W.setCell ⟨w.heap.size + 1, 0, none⟩ v).heap[w.heap.size]? = some (.cells #[.bool false] 4 (0, 0)) := fun v => (Below.heap_setCell W ⟨w.heap.size + 1, 0, none⟩ _ _ (by show w.heap.size ≠ w.heap.size + 1; omega)).trans hI.r
    have n1 : ∀ v, (W.setCell ⟨w.heap.size + 1, 0, none⟩ v).heap[w.heap.size + 1]? = some (.cells #[v] 3 (0, 0)) := fun v => one_setCell hI.n
    have KN := Lib.hid kn
    have HP := Lib.hid hp
    have HR1 := Lib.hid r1
    have HN1 := Lib.hid n1
    have HWB := Lib.hid hWb
    clear kn hp r1 n1 hWb hI a0 a1 a2 az hit hz hz' hbW hr0 hn0 hW0 hv hbel0
    by_cases h4 : k = 4
    · subst h4
      have hno : Hid (preB s = false) := Lib.hid (by
        have : decide ((pieces dot s).length ≤ 4) = false := by simp; omega
        simp [preB, this])
      gi_wp2_with fail
      refine ⟨trivial, ?_⟩
      have cr5 := cell_of_one (HR1.out (.int .i64 5))
      have fr5 := free_of_one (HR1.out (.int .i64 5))
      gi_wp2_with fail
      exact ⟨(KN.out _).trans (Keeps.setCell _ _ _ (by show 8 ≤ w.heap.size; omega) (.inl (by show w.heap.size < _; omega))), rfl, hno.out, one_setCell (HR1.out _), (HWB.out _).setCell (p := ⟨w.heap.size, 0, none⟩) (Nat.le_refl _) _⟩
    · have hk3 : k ≤ 3 := by omega
      have hms := Lib.hid (fun v => (mark_ok p).calls rfl rfl (W.setCell ⟨w.heap.size + 1, 0, none⟩ v) (Gw.below _ _ HG.out (HWB.out v)))
      have hstep : Hid ((pieces dot s).take (k + 1) = (pieces dot s).take k ++ [p]) := Lib.hid (by rw [List.take_succ_eq_append_getElem hlen]; congr 2; exact (List.getElem?_eq_some_iff.1 HP.out).2)
      have d4 : decide ((4 : Int) < (k : Int) + 1) = false := by simp; omega
      clear h4
      gi_wp2_with fail
      refine ⟨trivial, (CallsIn.inRound l (callsIn_wide.2 (hms.out _))).mono ?_⟩
      rintro e w2 ⟨rfl, hb2⟩
      have HR2 := Lib.hid ((hb2.block _ (by have := (Array.getElem?_eq_some_iff.1 (HR1.out (.int .i64 ((k : Int) + 1)))).1; exact this)).trans (HR1.out (.int .i64 ((k : Int) + 1))))
      have HN2 := Lib.hid ((hb2.block _ (by have := (Array.getElem?_eq_some_iff.1 (HN1.out (.int .i64 ((k : Int) + 1)))).1; exact this)).trans (HN1.out (.int .i64 ((k : Int) + 1))))
      have HK2 : Hid (Keeps 8 (w.heap.size + 1 + 1) W w2) := Lib.hid ((KN.out _).trans (Keeps.below hb2))
      have HB2 : Hid (Below w.heap.size w w2) := Lib.hid ((HWB.out _).trans (hb2.mono (HWB.out _).size))
      clear hb2
      cases hm : markL p.data.toList with
      | true =>
        have HM := Lib.hid hm
        clear hm
        gi_wp2_with fail
        exact ⟨HK2.out, by omega, by rw [hstep.out, List.all_append, HI.out.all]; simp [HM.out], HR2.out, HN2.out, HB2.out⟩
      | false =>
        have hno : Hid (preB s = false) := Lib.hid (by
          have : (pieces dot s).all (fun p => markL p.data.toList) = false := by
            rw [← Bool.not_eq_true, List.all_eq_true]
            intro h
            have := h p (List.mem_of_getElem? HP.out)
            rw [hm] at this; cases this
          simp only [preB, this, Bool.and_false])
        have cr5 := cell_of_one HR2.out
        have fr5 := free_of_one HR2.out
        clear hm
        gi_wp2_with fail
        exact ⟨HK2.out.trans (Keeps.setCell _ _ _ (by show 8 ≤ w.heap.size; omega) (.inl (by show w.heap.size < _; omega))), rfl, hno.out, one_setCell HR2.out, HB2.out.setCell (p := ⟨w.heap.size, 0, none⟩) (Nat.le_refl _) _⟩
  case done =>
    rintro D W hI hK hD
    have cr := cell_of_one hI.r
    have fr := free_of_one hI.r
    have HI := Lib.hid hI
    have HK := Lib.hid hK
    have hDs : w.heap.size + 2 ≤ D := by rw [az] at hD; omega
    clear hI hK hD hit a0 a1 a2 az hbW hr0 hn0 hW0 hz hz'
    gi_wp2
    have hK2 : (W.setCell ⟨w.heap.size, 0, none⟩ (.bool true)).heap[D]? = some (.deferred (some [])) := (Below.heap_setCell W ⟨w.heap.size, 0, none⟩ _ _ (by show D ≠ w.heap.size; omega)).trans HK.out
    have r2 : ((W.setCell ⟨w.heap.size, 0, none⟩ (.bool true)).putObj D (.deferred none)).heap[w.heap.size]? = some (.cells #[.bool true] 4 (0, 0)) := (World.putObj_heap_other (by omega)).trans (one_setCell HI.out.r)
    have c2 := cell_of_one r2
    have hpre : preB s = true := by
      have h1 := HI.out.le
      have h2 := HI.out.all
      rw [List.length_map] at h1 h2
      rw [List.take_of_length_le (Nat.le_refl _)] at h2
      simp only [preB, h2, Bool.and_true, decide_eq_true_eq]; exact h1
    refine ⟨by simp, .inl ⟨_, _, rfl, run_takeDeferred hK2, ?_⟩⟩
    exact ⟨.bool true, by simp [results, Tryz.results77, go_sem, c2], by rw [hpre], (HI.out.bel.setCell (p := ⟨w.heap.size, 0, none⟩) (Nat.le_refl _) _).grown (grownBy_put _ _ _) (by simpa using HI.out.bel.size) (fun j e => by cases e; omega)⟩
  case stop =>
    rintro D c k W ⟨rfl, hX⟩ hK hD
    have cr := cell_of_one hX.r
    have hDs : w.heap.size + 2 ≤ D := by rw [az] at hD; omega
    have HX := Lib.hid hX
    have HK := Lib.hid hK
    clear hX hK hD hit a0 a1 a2 az hbW hr0 hn0 hW0 hz hz'
    gi_wp2
    have r2 : (W.putObj D (.deferred none)).heap[w.heap.size]? = some (.cells #[.bool false] 4 (0, 0)) := (World.putObj_heap_other (by omega)).trans HX.out.r
    have c2 := cell_of_one r2
    refine ⟨by simp, .inl ⟨_, _, rfl, run_takeDeferred HK.out, ?_⟩⟩
    exact ⟨.bool false, by simp [results, Tryz.results77, go_sem, c2], by rw [HX.out.no], HX.out.bel.grown (grownBy_put _ _ _) HX.out.bel.size (fun j e => by cases e; omega)⟩
theorem pre_ok (s : ByteArray) (hs : s.size < 9223372036854775808) : Fn Tryz.prog Gw 77 [str s] [] (· = bool (preB s)) :=
  Fn.of_calls Tryz.func77 rfl rfl rfl rfl fun w hG => pre_any s hs w hG
end Go.Lg.Tryz

set_option linter.unusedVariables false
set_option linter.unusedSimpArgs false
namespace Go.Lg.Tryz
open Go Go.Proofs Go.RowKit Go.Lib Go.Lg.Sem
theorem verRight_ok (a b c : Int) (p : ByteArray) (hp : p.size < 9223372036854775808) : Fn Tryz.prog Gw 57 [.tr (verT a b c p)] [] (· = bool (rightB a b c p)) := by
  refine Fn.of tab_ok Tryz.func57 rfl (by decide) (by simp [Tryz.f57]) rfl (fun κ v h => by cases h) Gw.below ?_
  repeat' (first|refine zS ?_|refine zR ?_|refine zE tab_ok rfl rfl ?_|refine zN ?_|(refine zG rfl rfl (fun _ => ?_) fun _ => ?_)<;>refine zE tab_ok rfl rfl ?_|(refine zC rfl (fun _ => ?_) fun _ => ?_)<;>try (rename_i h; cases h; done)|refine zB ?_|refine zK ?_|refine zZ ⟨_, rfl, ?_⟩)
  refine Tr.loopS (fun i : Nat => [(.s 1, .ptr (.l 1) 0), (.l 1, .blk 75 [int a, int b, int c, str p]), (.s 11, .own 3 [.sc (.int .i64 a), .sc (.int .i64 b), .sc (.int .i64 c)]), (.s 12, int 3), (.s 13, int i)]) (fun i => 3 - i)
    (fun i => i ≤ 3 ∧ ∀ x, x ∈ [a, b, c].take i → inN x = true)
    0 ⟨by omega, by simp⟩ (Sub.app (l := [_, _, _, _, _]) (H := []) ⟨rfl, rfl, rfl, rfl, rfl, trivial⟩ (fun κ v h => nomatch h)) ?_
  rintro i ⟨hi, hp⟩
  repeat' (first|refine zS ?_|refine zR ?_|refine zE tab_ok rfl rfl ?_|refine zN ?_|(refine zG rfl rfl (fun _ => ?_) fun _ => ?_)<;>refine zE tab_ok rfl rfl ?_|(refine zC rfl (fun _ => ?_) fun _ => ?_)<;>try (rename_i h; cases h; done)|refine zB ?_|refine zK ?_|refine zZ ⟨_, rfl, ?_⟩)
  · rename_i h
    have hlt : i < [a, b, c].length := by simp only [decide_eq_true_eq] at h; simp only [List.length_cons, List.length_nil]; omega
    obtain ⟨x, hx⟩ : ∃ x, [a, b, c][i]? = some x := ⟨_, List.getElem?_eq_getElem hlt⟩
    have hx2 : [Go.Lg.T.sc (.int .i64 a), .sc (.int .i64 b), .sc (.int .i64 c)][i]? = some (.sc (.int .i64 x)) := by
      have : ([a, b, c].map fun x => Go.Lg.T.sc (.int .i64 x))[i]? = some (.sc (.int .i64 x)) := by rw [List.getElem?_map, hx]; rfl
      exact this
    refine zI (x := .sc (.int .i64 x)) tab_ok rfl (by omega) (by simpa using hx2) rfl ?_
    repeat' (first|refine zS ?_|refine zR ?_|refine zE tab_ok rfl rfl ?_|refine zN ?_|(refine zG rfl rfl (fun _ => ?_) fun _ => ?_)<;>refine zE tab_ok rfl rfl ?_|(refine zC rfl (fun _ => ?_) fun _ => ?_)<;>try (rename_i h; cases h; done)|refine zB ?_|refine zK ?_|refine zZ ⟨_, rfl, ?_⟩)
    all_goals rename_i h2
    all_goals first
      | refine ⟨i + 1, ⟨by simp at hlt; omega, ?_⟩, by simp at hlt; omega, Sub.app (l := [_, _, _, _, _]) (H := []) ⟨rfl, rfl, rfl, rfl, congrArg some (wrapz (by omega) (by omega) (by simp at hlt; omega)), trivial⟩ (fun κ v h => nomatch h)⟩
        intro y hy
        rw [List.take_succ_eq_append_getElem hlt] at hy
        rcases List.mem_append.1 hy with hy | hy
        · exact hp y hy
        · obtain rfl : y = x := by rw [List.getElem?_eq_getElem hlt] at hx; simp only [List.mem_singleton] at hy; rw [hy]; exact Option.some.inj hx
          simp only [decide_eq_true_eq, decide_eq_false_iff_not] at *
          simp [inN]; omega
      | show bool _ = bool _
        congr 3
        have hn : inN x = false := by simp only [decide_eq_true_eq, decide_eq_false_iff_not] at *; simp [inN]; omega
        have hm := List.mem_of_getElem? hx
        simp only [List.mem_cons, List.not_mem_nil, or_false] at hm
        rcases hm with rfl | rfl | rfl <;> simp [rightB, hn]
  · rename_i h
    have : i = 3 := by simp only [decide_eq_false_iff_not] at h; omega
    subst this
    have h1 := hp a (by simp); have h2 := hp b (by simp); have h3 := hp c (by simp)
    refine Tr.exit ?_
    repeat' (first|refine zS ?_|refine zR ?_|refine zE tab_ok rfl rfl ?_|refine zN ?_|(refine zG rfl rfl (fun _ => ?_) fun _ => ?_)<;>refine zE tab_ok rfl rfl ?_|(refine zC rfl (fun _ => ?_) fun _ => ?_)<;>try (rename_i h; cases h; done)|refine zB ?_|refine zK ?_|refine zZ ⟨_, rfl, ?_⟩)
    all_goals first | (refine Sq.callv rfl (pre_ok p (by assumption)) ?_) | skip
    all_goals repeat' (first|refine zS ?_|refine zR ?_|refine zE tab_ok rfl rfl ?_|refine zN ?_|(refine zG rfl rfl (fun _ => ?_) fun _ => ?_)<;>refine zE tab_ok rfl rfl ?_|(refine zC rfl (fun _ => ?_) fun _ => ?_)<;>try (rename_i h; cases h; done)|refine zB ?_|refine zK ?_|refine zZ ⟨_, rfl, ?_⟩)
    all_goals rename_i h4
    all_goals
      show bool _ = bool _
      congr 3
      simp only [ba_toList] at h4
      simp only [rightB, h1, h2, h3, Bool.true_and, preO, ba_toList]
    · have : p.data.toList = [] := by simpa using h4
      rw [this]; rfl
    · have : p.data.toList.isEmpty = false := by cases hh : p.data.toList <;> simp_all
      rw [this]; rfl
theorem Bump_ok (a b c : Int) (p : ByteArray) (part : Int) (hp : p.size < 4294967281) : Fn Tryz.prog Gw 134 [.tr (verT a b c p), int part] []
    (· = .tup [.tr (verT (bumpV a b c p part).1.1 (bumpV a b c p part).1.2.1 (bumpV a b c p part).1.2.2 ⟨#[]⟩), int (bumpV a b c p part).2]) := by
  refine Fn.of tab_ok Tryz.func134 rfl (by decide) (by simp [Tryz.f134]) rfl (fun κ v h => by cases h) Gw.below ?_
  repeat' (first|refine zS ?_|refine zR ?_|refine zE tab_ok rfl rfl ?_|refine zN ?_|(refine zG rfl rfl (fun _ => ?_) fun _ => ?_)<;>refine zE tab_ok rfl rfl ?_|(refine zC rfl (fun _ => ?_) fun _ => ?_)<;>try (rename_i h; cases h; done)|refine zB ?_|refine zK ?_|refine zZ ⟨_, rfl, ?_⟩)
  refine Sq.callv rfl (verRight_ok a b c p (by omega)) ?_
  repeat' (first|refine zS ?_|refine zR ?_|refine zE tab_ok rfl rfl ?_|refine zN ?_|(refine zG rfl rfl (fun _ => ?_) fun _ => ?_)<;>refine zE tab_ok rfl rfl ?_|(refine zC rfl (fun _ => ?_) fun _ => ?_)<;>try (rename_i h; cases h; done)|refine zB ?_|refine zK ?_|refine zZ ⟨_, rfl, ?_⟩)
  all_goals first
    | (have hno : ¬ (rightB a b c p = true ∧ 0 ≤ part ∧ part ≤ 2) := by
        simp only [decide_eq_true_eq, decide_eq_false_iff_not, Bool.not_eq_true', Bool.not_eq_false'] at *
        rintro ⟨h1, h2, h3⟩
        first | omega | simp_all
       show AV.tup _ = AV.tup _
       simp only [bumpV, if_neg hno])
    | skip
  all_goals
    have hyes : rightB a b c p = true ∧ 0 ≤ part ∧ part ≤ 2 := by
      simp only [decide_eq_true_eq, decide_eq_false_iff_not, Bool.not_eq_true', Bool.not_eq_false'] at *
      exact ⟨by assumption, by omega, by omega⟩
    have hr := hyes.1
    simp only [rightB, inN, Bool.and_eq_true, decide_eq_true_eq] at hr
    refine Sq.callv rfl (verRight_ok _ _ _ _ (by decide)) ?_
    repeat' (first|refine zS ?_|refine zR ?_|refine zE tab_ok rfl rfl ?_|refine zN ?_|(refine zG rfl rfl (fun _ => ?_) fun _ => ?_)<;>refine zE tab_ok rfl rfl ?_|(refine zC rfl (fun _ => ?_) fun _ => ?_)<;>try (rename_i h; cases h; done)|refine zB ?_|refine zK ?_|refine zZ ⟨_, rfl, ?_⟩)
  all_goals
    have wa : IntKind.i64.wrap (a + 1) = a + 1 := Go.IntWalk.i64_in _ ⟨by omega, by omega⟩
    have wb : IntKind.i64.wrap (b + 1) = b + 1 := Go.IntWalk.i64_in _ ⟨by omega, by omega⟩
    have wc : IntKind.i64.wrap (c + 1) = c + 1 := Go.IntWalk.i64_in _ ⟨by omega, by omega⟩
    have en : (ByteArray.mk #[]).toList = [] := by rw [ba_toList]
    show AV.tup _ = AV.tup _
    simp only [bumpV, if_pos hyes]
    simp only [ba_toList, wa, wb, wc, beq_iff_eq, beq_eq_false_iff_ne, Bool.not_eq_true', Bool.not_eq_false'] at *
    simp_all [bumpN]
end Go.Lg.Tryz

set_option linter.unusedVariables false
set_option linter.unusedSimpArgs false
namespace Go.Lg.Tryz
open Go Go.Proofs Go.RowKit Go.Lib Go.Lg.Sem
abbrev Ver.t (v : Ver) : T := .ag [.sc (.int .i64 v.a), .sc (.int .i64 v.b), .sc (.int .i64 v.c), .sc (.string v.p)]
abbrev Cmp.t (c : Cmp) : T := .ag [.sc (.int .i64 c.op), .sc (.int .i64 c.v.a), .sc (.int .i64 c.v.b), .sc (.int .i64 c.v.c), .sc (.string c.v.p)]
abbrev cmpsT (l : List Cmp) : T := .ls (l.map Cmp.t)
abbrev rngT (r : Rng) : T := .ag [.ls (r.map cmpsT)]
theorem eqA_ver (d : Nat) (w : World) (x0 y0 : Int) (x1 y1 : Int) (x2 y2 : Int) (x3 y3 : ByteArray) :
    (Op.equalIn (d + 2) 75 (.agg #[.int .i64 x0, .int .i64 x1, .int .i64 x2, .string x3]) (.agg #[.int .i64 y0, .int .i64 y1, .int .i64 y2, .string y3])).run Tryz.prog w = .ok (x0 == y0 && (x1 == y1 && (x2 == y2 && (x3.toList == y3.toList)))) w := by
  refine eqA_of Tryz.underlying75 (by kernel_rfl) ?_
  refine eqf_cons (by rfl) (by go_simp; rfl) (by go_simp; rfl) (by go_simp) ?_
  refine eqf_cons (by rfl) (by go_simp; rfl) (by go_simp; rfl) (by go_simp) ?_
  refine eqf_cons (by rfl) (by go_simp; rfl) (by go_simp; rfl) (by go_simp) ?_
  exact eqf_last (by rfl) (by go_simp; rfl) (by go_simp; rfl) (by go_simp)
theorem eqA_comp (d : Nat) (w : World) (x0 y0 : Int) (x1 y1 : Int) (x2 y2 : Int) (x3 y3 : Int) (x4 y4 : ByteArray) :
    (Op.equalIn (d + 3) 86 (.agg #[.int .i64 x0, .int .i64 x1, .int .i64 x2, .int .i64 x3, .string x4]) (.agg #[.int .i64 y0, .int .i64 y1, .int .i64 y2, .int .i64 y3, .string y4])).run Tryz.prog w = .ok (x0 == y0 && ((x1 == y1 && (x2 == y2 && (x3 == y3 && (x4.toList == y4.toList)))))) w := by
  refine eqA_of Tryz.underlying86 (by kernel_rfl) ?_
  refine eqf_cons (by rfl) (by go_simp; rfl) (by go_simp; rfl) (by go_simp) ?_
  exact eqf_last (by rfl) (by go_simp) (by go_simp) (eqA_ver (d + 0) w _ _ _ _ _ _ _ _)
theorem sized_ok (k : Int) : Fn Tryz.prog Gw 112 [int k] [] (· = bool (sizedB k)) := by
  refine Fn.of tab_ok Tryz.func112 rfl (by decide) (by simp [Tryz.f112]) rfl (fun κ v h => by cases h) Gw.below ?_
  repeat' (first|refine zS ?_|refine zR ?_|refine zE tab_ok rfl rfl ?_|refine zN ?_|(refine zG rfl rfl (fun _ => ?_) fun _ => ?_)<;>refine zE tab_ok rfl rfl ?_|(refine zC rfl (fun _ => ?_) fun _ => ?_)<;>try (rename_i h; cases h; done)|refine zB ?_|refine zK ?_|refine zZ ⟨_, rfl, ?_⟩)
  all_goals simp [*, sizedB]
theorem right_ok (v : Ver) (h : v.ok) : Fn Tryz.prog Gw 57 [.tr (Ver.t v)] [] (· = bool v.right) := verRight_ok v.a v.b v.c v.p (by have := h.lt; omega)
theorem rightAny_ok (v : Ver) (h : v.p.size < 9223372036854775808) : Fn Tryz.prog Gw 57 [.tr (Ver.t v)] [] (· = bool v.right) := verRight_ok v.a v.b v.c v.p h
theorem compare_ok (v u : Ver) (h1 : v.ok) (h2 : u.ok) : Fn Tryz.prog Gw 58 [.tr (Ver.t v), .tr (Ver.t u)] [] (· = int (cmpVer v u)) := Compare_ok v.a v.b v.c v.p u.a u.b u.c u.p h1.lt h2.lt
theorem cmpRight_ok (c : Cmp) (h : c.ok) : Fn Tryz.prog Gw 114 [.tr (Cmp.t c)] [] (· = bool (cmpRight c)) := by
  refine Fn.of tab_ok Tryz.func114 rfl (by decide) (by simp [Tryz.f114]) rfl (fun κ v h => by cases h) Gw.below ?_
  repeat' (first|refine zS ?_|refine zR ?_|refine zE tab_ok rfl rfl ?_|refine zN ?_|(refine zG rfl rfl (fun _ => ?_) fun _ => ?_)<;>refine zE tab_ok rfl rfl ?_|(refine zC rfl (fun _ => ?_) fun _ => ?_)<;>try (rename_i h; cases h; done)|refine zB ?_|refine zK ?_|refine zZ ⟨_, rfl, ?_⟩)
  · rename_i h1
    refine Sq.eqag rfl (by kernel_rfl) (fun w => eqA_comp 9997 w _ _ _ _ _ _ _ _ _ _) ?_
    repeat' (first|refine zS ?_|refine zR ?_|refine zE tab_ok rfl rfl ?_|refine zN ?_|(refine zG rfl rfl (fun _ => ?_) fun _ => ?_)<;>refine zE tab_ok rfl rfl ?_|(refine zC rfl (fun _ => ?_) fun _ => ?_)<;>try (rename_i h; cases h; done)|refine zB ?_|refine zK ?_|refine zZ ⟨_, rfl, ?_⟩)
    have h1 : c.op = 0 := by simpa using h1
    show bool _ = bool _
    congr 3
    simp [cmpRight, h1, cmpIsZero, ba_toList]
  all_goals first | (refine Sq.callv rfl (right_ok c.v h) ?_) | skip
  all_goals repeat' (first|refine zS ?_|refine zR ?_|refine zE tab_ok rfl rfl ?_|refine zN ?_|(refine zG rfl rfl (fun _ => ?_) fun _ => ?_)<;>refine zE tab_ok rfl rfl ?_|(refine zC rfl (fun _ => ?_) fun _ => ?_)<;>try (rename_i h; cases h; done)|refine zB ?_|refine zK ?_|refine zZ ⟨_, rfl, ?_⟩)
  all_goals
    show bool _ = bool _
    congr 3
    simp_all [cmpRight]
    try (intros; omega)
theorem cmpRight1_ok (c : Cmp) (h : c.ok) : Fn Tryz.prog Gw 113 [.tr (Cmp.t c)] [] (· = bool (!cmpRight c)) := by
  refine Fn.of tab_ok Tryz.func113 rfl (by decide) (by simp [Tryz.f113]) rfl (fun κ v h => by cases h) Gw.below ?_
  repeat' (first|refine zS ?_|refine zR ?_|refine zE tab_ok rfl rfl ?_|refine zN ?_|(refine zG rfl rfl (fun _ => ?_) fun _ => ?_)<;>refine zE tab_ok rfl rfl ?_|(refine zC rfl (fun _ => ?_) fun _ => ?_)<;>try (rename_i h; cases h; done)|refine zB ?_|refine zK ?_|refine zZ ⟨_, rfl, ?_⟩)
  refine Sq.callv rfl (cmpRight_ok c h) ?_
  repeat' (first|refine zS ?_|refine zR ?_|refine zE tab_ok rfl rfl ?_|refine zN ?_|(refine zG rfl rfl (fun _ => ?_) fun _ => ?_)<;>refine zE tab_ok rfl rfl ?_|(refine zC rfl (fun _ => ?_) fun _ => ?_)<;>try (rename_i h; cases h; done)|refine zB ?_|refine zK ?_|refine zZ ⟨_, rfl, ?_⟩)
  rfl
theorem upper_ok (c : Cmp) (h : c.ok) : Fn Tryz.prog Gw 120 [.tr (Cmp.t c)] [] (· = .tup [.tr (Ver.t (upperV c).1), bool (upperV c).2]) := by
  refine Fn.of tab_ok Tryz.func120 rfl (by decide) (by simp [Tryz.f120]) rfl (fun κ v h => by cases h) Gw.below ?_
  repeat' (first|refine zS ?_|refine zR ?_|refine zE tab_ok rfl rfl ?_|refine zN ?_|(refine zG rfl rfl (fun _ => ?_) fun _ => ?_)<;>refine zE tab_ok rfl rfl ?_|(refine zC rfl (fun _ => ?_) fun _ => ?_)<;>try (rename_i h; cases h; done)|refine zB ?_|refine zK ?_|refine zZ ⟨_, rfl, ?_⟩)
  all_goals (refine Sq.callv rfl (Bump_ok _ _ _ ⟨#[]⟩ _ (by decide)) ?_)
  all_goals repeat' (first|refine zS ?_|refine zR ?_|refine zE tab_ok rfl rfl ?_|refine zN ?_|(refine zG rfl rfl (fun _ => ?_) fun _ => ?_)<;>refine zE tab_ok rfl rfl ?_|(refine zC rfl (fun _ => ?_) fun _ => ?_)<;>try (rename_i h; cases h; done)|refine zB ?_|refine zK ?_|refine zZ ⟨_, rfl, ?_⟩)
  all_goals
    show AV.tup _ = AV.tup _
    have hp : ∀ k, upPart c = k → upperV c = (⟨(bumpV c.v.a c.v.b c.v.c ⟨#[]⟩ k).1.1, (bumpV c.v.a c.v.b c.v.c ⟨#[]⟩ k).1.2.1, (bumpV c.v.a c.v.b c.v.c ⟨#[]⟩ k).1.2.2, ⟨#[]⟩⟩, (bumpV c.v.a c.v.b c.v.c ⟨#[]⟩ k).2 == 0) := fun k e => by rw [← e]; rfl
    simp only [beq_iff_eq, beq_eq_false_iff_ne, decide_eq_true_eq, decide_eq_false_iff_not] at *
    have hk := upPart_cases c
    first
      | (rw [hp _ (hk.1 (by assumption))]; done)
      | (rw [hp _ (hk.2.1 (by assumption) (by assumption))]; done)
      | (rw [hp _ (hk.2.2.1 (by assumption) (by assumption) (by assumption))]; done)
      | (rw [hp _ (hk.2.2.2 (by assumption) (by assumption) (by assumption))]; done)
theorem has_ok (c : Cmp) (v : Ver) (h : c.ok) (hv : v.ok) : Fn Tryz.prog Gw 94 [.tr (Cmp.t c), .tr (Ver.t v)] [] (· = bool (hasC c v)) := by
  refine Fn.of tab_ok Tryz.func94 rfl (by decide) (by simp [Tryz.f94]) rfl (fun κ v h => by cases h) Gw.below ?_
  repeat' (first|refine zS ?_|refine zR ?_|refine zE tab_ok rfl rfl ?_|refine zN ?_|(refine zG rfl rfl (fun _ => ?_) fun _ => ?_)<;>refine zE tab_ok rfl rfl ?_|(refine zC rfl (fun _ => ?_) fun _ => ?_)<;>try (rename_i h; cases h; done)|refine zB ?_|refine zK ?_|refine zZ ⟨_, rfl, ?_⟩)
  refine Sq.callv rfl (compare_ok v c.v hv h) ?_
  repeat' (first|refine zS ?_|refine zR ?_|refine zE tab_ok rfl rfl ?_|refine zN ?_|(refine zG rfl rfl (fun _ => ?_) fun _ => ?_)<;>refine zE tab_ok rfl rfl ?_|(refine zC rfl (fun _ => ?_) fun _ => ?_)<;>try (rename_i h; cases h; done)|refine zB ?_|refine zK ?_|refine zZ ⟨_, rfl, ?_⟩)
  all_goals first
    | (show bool _ = bool _
       congr 3
       simp_all [hasC]
       done)
    | skip
  all_goals (refine Sq.callv rfl (upper_ok c h) ?_)
  all_goals repeat' (first|refine zS ?_|refine zR ?_|refine zE tab_ok rfl rfl ?_|refine zN ?_|(refine zG rfl rfl (fun _ => ?_) fun _ => ?_)<;>refine zE tab_ok rfl rfl ?_|(refine zC rfl (fun _ => ?_) fun _ => ?_)<;>try (rename_i h; cases h; done)|refine zB ?_|refine zK ?_|refine zZ ⟨_, rfl, ?_⟩)
  all_goals first | (refine Sq.callv rfl (compare_ok v (upperV c).1 hv (upper_pok c)) ?_) | skip
  all_goals repeat' (first|refine zS ?_|refine zR ?_|refine zE tab_ok rfl rfl ?_|refine zN ?_|(refine zG rfl rfl (fun _ => ?_) fun _ => ?_)<;>refine zE tab_ok rfl rfl ?_|(refine zC rfl (fun _ => ?_) fun _ => ?_)<;>try (rename_i h; cases h; done)|refine zB ?_|refine zK ?_|refine zZ ⟨_, rfl, ?_⟩)
  all_goals
    show bool _ = bool _
    congr 3
    simp_all [hasC]
    try (intros; omega)
end Go.Lg.Tryz

set_option linter.unusedVariables false
set_option linter.unusedSimpArgs false
namespace Go.Lg.Tryz
open Go Go.Proofs Go.RowKit Go.Lib Go.Lg.Sem
theorem idxCmp (g : Nat) (caps : List AV) (H : Store) {α : Type} (enc : α → T) (p : α → Bool) (hc : ExtOnly caps) (hH : ∀ κ v, lk H κ = some v → (∃ j, κ = .e j)) (hHr : ∀ κ ty cells, lk H κ = some (.blk ty cells) → ExtOnly cells) (xs : List α)
    (hx : ∀ x, x ∈ xs → El true 5 (enc x) ∧ Fn Tryz.prog Gw g (.tr (enc x) :: caps) H (· = .tr (.sc (.bool (p x))))) (hn : xs.length ≤ 1073741824) :
    Fn Tryz.prog Gw 119 [.tr (.ls (xs.map enc)), .fn g caps] H (fun r => ∃ i : Int, r = .tr (.sc (.int .i64 i)) ∧ (decide (i ≥ 0) = xs.any p)) := by
  refine Fn.of tab_ok Tryz.func119 rfl (by decide) (by simp [Tryz.f119]) rfl (fun κ v h => by obtain ⟨j, rfl⟩ := hH κ v h; rfl) Gw.below ?_
  repeat' (first|refine zS ?_|refine zR ?_|refine zE tab_ok rfl rfl ?_|refine zN ?_|(refine zG rfl rfl (fun _ => ?_) fun _ => ?_)<;>refine zE tab_ok rfl rfl ?_|(refine zC rfl (fun _ => ?_) fun _ => ?_)<;>try (rename_i h; cases h; done)|refine zB ?_|refine zK ?_|refine zZ ⟨_, rfl, ?_⟩)
  refine Tr.loopS (fun i : Nat => [(.s 0, .tr (.ls (xs.map enc))), (.s 1, .fn g caps), (.s 7, .tr (.sc (.int .i64 ((xs.map enc).length : Int)))), (.s 8, .tr (.sc (.int .i64 (i : Int))))] ++ H) (fun i => xs.length - i) (fun i => i ≤ xs.length ∧ (xs.take i).any p = false)
    0 ⟨by omega, by simp⟩ (Sub.app ⟨rfl, rfl, rfl, rfl, trivial⟩ (fun κ v h => by obtain ⟨j, rfl⟩ := hH κ v h; exact h)) ?_
  rintro i ⟨hi, hp⟩
  repeat' (first | refine zS ?_ | refine zR ?_ | refine zE tab_ok rfl rfl ?_ | refine zN ?_ | refine zB ?_ | refine zK ?_)
  refine zC rfl (fun h => ?_) (fun h => ?_)
  · have hlt : i < xs.length := by simpa using h
    obtain ⟨hxe, hxf⟩ := hx _ (List.getElem_mem hlt)
    repeat' (first | refine zS ?_ | refine zR ?_ | refine zE tab_ok rfl rfl ?_ | refine zN ?_ | refine zB ?_ | refine zK ?_)
    refine zI (x := enc xs[i]) tab_ok rfl (by omega) (by simp [hlt]) hxe.len ?_
    refine Sq.loadEl (x := enc xs[i]) tab_ok rfl hxe ?_
    refine Sq.callE (H := H) rfl (by
      intro x hx
      rcases List.mem_cons.1 hx with rfl | hx
      · intro κ h; cases h
      · exact hc x hx) (fun κ v h => by obtain ⟨j, rfl⟩ := hH κ v h; exact ⟨⟨j, rfl⟩, h⟩) hHr hxf ?_
    rintro _ rfl
    refine zN ?_
    refine zC rfl (fun hb => ?_) (fun hb => ?_)
    · repeat' (first|refine zS ?_|refine zR ?_|refine zE tab_ok rfl rfl ?_|refine zN ?_|(refine zG rfl rfl (fun _ => ?_) fun _ => ?_)<;>refine zE tab_ok rfl rfl ?_|(refine zC rfl (fun _ => ?_) fun _ => ?_)<;>try (rename_i h; cases h; done)|refine zB ?_|refine zK ?_|refine zZ ⟨_, rfl, ?_⟩)
      refine ⟨_, rfl, ?_⟩
      have : xs.any p = true := List.any_eq_true.2 ⟨_, List.getElem_mem hlt, hb⟩
      rw [this]; simp
    · refine zK ?_
      refine zR ?_
      refine zE tab_ok rfl rfl ?_
      refine Sq.re (wrapz (z := ((i + 1 : Nat) : Int)) (by omega) (by omega) (by omega)) ?_
      refine zE tab_ok rfl rfl ?_
      refine zN ?_
      refine ⟨i + 1, ⟨by omega, ?_⟩, by omega, Sub.app ⟨rfl, rfl, rfl, rfl, trivial⟩ (fun κ v h => by obtain ⟨j, rfl⟩ := hH κ v h; exact h)⟩
      rw [List.take_succ_eq_append_getElem hlt, List.any_append, hp]; simp [hb]
  · have hge : ¬ i < xs.length := by simpa using h
    refine Tr.exit ?_
    repeat' (first|refine zS ?_|refine zR ?_|refine zE tab_ok rfl rfl ?_|refine zN ?_|(refine zG rfl rfl (fun _ => ?_) fun _ => ?_)<;>refine zE tab_ok rfl rfl ?_|(refine zC rfl (fun _ => ?_) fun _ => ?_)<;>try (rename_i h; cases h; done)|refine zB ?_|refine zK ?_|refine zZ ⟨_, rfl, ?_⟩)
    refine ⟨_, rfl, ?_⟩
    rw [List.take_of_length_le (by omega)] at hp
    rw [hp]; rfl
theorem containsCmp (g : Nat) (caps : List AV) (H : Store) {α : Type} (enc : α → T) (p : α → Bool) (hc : ExtOnly caps) (hH : ∀ κ v, lk H κ = some v → (∃ j, κ = .e j)) (hHr : ∀ κ ty cells, lk H κ = some (.blk ty cells) → ExtOnly cells) (xs : List α)
    (hx : ∀ x, x ∈ xs → El true 5 (enc x) ∧ Fn Tryz.prog Gw g (.tr (enc x) :: caps) H (· = .tr (.sc (.bool (p x))))) (hn : xs.length ≤ 1073741824) :
    Fn Tryz.prog Gw 92 [.tr (.ls (xs.map enc)), .fn g caps] H (· = .tr (.sc (.bool (xs.any p)))) := by
  refine Fn.of tab_ok Tryz.func92 rfl (by decide) (by simp [Tryz.f92]) rfl (fun κ v h => by obtain ⟨j, rfl⟩ := hH κ v h; rfl) Gw.below ?_
  repeat' (first|refine zS ?_|refine zR ?_|refine zE tab_ok rfl rfl ?_|refine zN ?_|(refine zG rfl rfl (fun _ => ?_) fun _ => ?_)<;>refine zE tab_ok rfl rfl ?_|(refine zC rfl (fun _ => ?_) fun _ => ?_)<;>try (rename_i h; cases h; done)|refine zB ?_|refine zK ?_|refine zZ ⟨_, rfl, ?_⟩)
  refine Sq.callE (H := H) rfl (by
      intro x hx
      rcases List.mem_cons.1 hx with rfl | hx
      · intro κ h; cases h
      · rcases List.mem_cons.1 hx with rfl | hx
        · intro κ h; cases h with | fn _ _ x hx h => exact hc x hx κ h
        · cases hx) (fun κ v h => by obtain ⟨j, rfl⟩ := hH κ v h; exact ⟨⟨j, rfl⟩, h⟩) hHr (idxCmp g caps H enc p hc hH hHr xs hx hn) ?_
  rintro _ ⟨i, rfl, hi⟩
  repeat' (first|refine zS ?_|refine zR ?_|refine zE tab_ok rfl rfl ?_|refine zN ?_|(refine zG rfl rfl (fun _ => ?_) fun _ => ?_)<;>refine zE tab_ok rfl rfl ?_|(refine zC rfl (fun _ => ?_) fun _ => ?_)<;>try (rename_i h; cases h; done)|refine zB ?_|refine zK ?_|refine zZ ⟨_, rfl, ?_⟩)
  rw [hi]
theorem idxCmps (g : Nat) (caps : List AV) (H : Store) {α : Type} (enc : α → T) (p : α → Bool) (hc : ExtOnly caps) (hH : ∀ κ v, lk H κ = some v → (∃ j, κ = .e j)) (hHr : ∀ κ ty cells, lk H κ = some (.blk ty cells) → ExtOnly cells) (xs : List α)
    (hx : ∀ x, x ∈ xs → El false 1 (enc x) ∧ Fn Tryz.prog Gw g (.tr (enc x) :: caps) H (· = .tr (.sc (.bool (p x))))) (hn : xs.length ≤ 1073741824) :
    Fn Tryz.prog Gw 118 [.tr (.ls (xs.map enc)), .fn g caps] H (fun r => ∃ i : Int, r = .tr (.sc (.int .i64 i)) ∧ (decide (i ≥ 0) = xs.any p)) := by
  refine Fn.of tab_ok Tryz.func118 rfl (by decide) (by simp [Tryz.f118]) rfl (fun κ v h => by obtain ⟨j, rfl⟩ := hH κ v h; rfl) Gw.below ?_
  repeat' (first|refine zS ?_|refine zR ?_|refine zE tab_ok rfl rfl ?_|refine zN ?_|(refine zG rfl rfl (fun _ => ?_) fun _ => ?_)<;>refine zE tab_ok rfl rfl ?_|(refine zC rfl (fun _ => ?_) fun _ => ?_)<;>try (rename_i h; cases h; done)|refine zB ?_|refine zK ?_|refine zZ ⟨_, rfl, ?_⟩)
  refine Tr.loopS (fun i : Nat => [(.s 0, .tr (.ls (xs.map enc))), (.s 1, .fn g caps), (.s 7, .tr (.sc (.int .i64 ((xs.map enc).length : Int)))), (.s 8, .tr (.sc (.int .i64 (i : Int))))] ++ H) (fun i => xs.length - i) (fun i => i ≤ xs.length ∧ (xs.take i).any p = false)
    0 ⟨by omega, by simp⟩ (Sub.app ⟨rfl, rfl, rfl, rfl, trivial⟩ (fun κ v h => by obtain ⟨j, rfl⟩ := hH κ v h; exact h)) ?_
  rintro i ⟨hi, hp⟩
  repeat' (first | refine zS ?_ | refine zR ?_ | refine zE tab_ok rfl rfl ?_ | refine zN ?_ | refine zB ?_ | refine zK ?_)
  refine zC rfl (fun h => ?_) (fun h => ?_)
  · have hlt : i < xs.length := by simpa using h
    obtain ⟨hxe, hxf⟩ := hx _ (List.getElem_mem hlt)
    repeat' (first | refine zS ?_ | refine zR ?_ | refine zE tab_ok rfl rfl ?_ | refine zN ?_ | refine zB ?_ | refine zK ?_)
    refine zI (x := enc xs[i]) tab_ok rfl (by omega) (by simp [hlt]) hxe.len ?_
    refine Sq.loadEl (x := enc xs[i]) tab_ok rfl hxe ?_
    refine Sq.callE (H := H) rfl (by
      intro x hx
      rcases List.mem_cons.1 hx with rfl | hx
      · intro κ h; cases h
      · exact hc x hx) (fun κ v h => by obtain ⟨j, rfl⟩ := hH κ v h; exact ⟨⟨j, rfl⟩, h⟩) hHr hxf ?_
    rintro _ rfl
    refine zN ?_
    refine zC rfl (fun hb => ?_) (fun hb => ?_)
    · repeat' (first|refine zS ?_|refine zR ?_|refine zE tab_ok rfl rfl ?_|refine zN ?_|(refine zG rfl rfl (fun _ => ?_) fun _ => ?_)<;>refine zE tab_ok rfl rfl ?_|(refine zC rfl (fun _ => ?_) fun _ => ?_)<;>try (rename_i h; cases h; done)|refine zB ?_|refine zK ?_|refine zZ ⟨_, rfl, ?_⟩)
      refine ⟨_, rfl, ?_⟩
      have : xs.any p = true := List.any_eq_true.2 ⟨_, List.getElem_mem hlt, hb⟩
      rw [this]; simp
    · refine zK ?_
      refine zR ?_
      refine zE tab_ok rfl rfl ?_
      refine Sq.re (wrapz (z := ((i + 1 : Nat) : Int)) (by omega) (by omega) (by omega)) ?_
      refine zE tab_ok rfl rfl ?_
      refine zN ?_
      refine ⟨i + 1, ⟨by omega, ?_⟩, by omega, Sub.app ⟨rfl, rfl, rfl, rfl, trivial⟩ (fun κ v h => by obtain ⟨j, rfl⟩ := hH κ v h; exact h)⟩
      rw [List.take_succ_eq_append_getElem hlt, List.any_append, hp]; simp [hb]
  · have hge : ¬ i < xs.length := by simpa using h
    refine Tr.exit ?_
    repeat' (first|refine zS ?_|refine zR ?_|refine zE tab_ok rfl rfl ?_|refine zN ?_|(refine zG rfl rfl (fun _ => ?_) fun _ => ?_)<;>refine zE tab_ok rfl rfl ?_|(refine zC rfl (fun _ => ?_) fun _ => ?_)<;>try (rename_i h; cases h; done)|refine zB ?_|refine zK ?_|refine zZ ⟨_, rfl, ?_⟩)
    refine ⟨_, rfl, ?_⟩
    rw [List.take_of_length_le (by omega)] at hp
    rw [hp]; rfl
theorem containsCmps (g : Nat) (caps : List AV) (H : Store) {α : Type} (enc : α → T) (p : α → Bool) (hc : ExtOnly caps) (hH : ∀ κ v, lk H κ = some v → (∃ j, κ = .e j)) (hHr : ∀ κ ty cells, lk H κ = some (.blk ty cells) → ExtOnly cells) (xs : List α)
    (hx : ∀ x, x ∈ xs → El false 1 (enc x) ∧ Fn Tryz.prog Gw g (.tr (enc x) :: caps) H (· = .tr (.sc (.bool (p x))))) (hn : xs.length ≤ 1073741824) :
    Fn Tryz.prog Gw 90 [.tr (.ls (xs.map enc)), .fn g caps] H (· = .tr (.sc (.bool (xs.any p)))) := by
  refine Fn.of tab_ok Tryz.func90 rfl (by decide) (by simp [Tryz.f90]) rfl (fun κ v h => by obtain ⟨j, rfl⟩ := hH κ v h; rfl) Gw.below ?_
  repeat' (first|refine zS ?_|refine zR ?_|refine zE tab_ok rfl rfl ?_|refine zN ?_|(refine zG rfl rfl (fun _ => ?_) fun _ => ?_)<;>refine zE tab_ok rfl rfl ?_|(refine zC rfl (fun _ => ?_) fun _ => ?_)<;>try (rename_i h; cases h; done)|refine zB ?_|refine zK ?_|refine zZ ⟨_, rfl, ?_⟩)
  refine Sq.callE (H := H) rfl (by
      intro x hx
      rcases List.mem_cons.1 hx with rfl | hx
      · intro κ h; cases h
      · rcases List.mem_cons.1 hx with rfl | hx
        · intro κ h; cases h with | fn _ _ x hx h => exact hc x hx κ h
        · cases hx) (fun κ v h => by obtain ⟨j, rfl⟩ := hH κ v h; exact ⟨⟨j, rfl⟩, h⟩) hHr (idxCmps g caps H enc p hc hH hHr xs hx hn) ?_
  rintro _ ⟨i, rfl, hi⟩
  repeat' (first|refine zS ?_|refine zR ?_|refine zE tab_ok rfl rfl ?_|refine zN ?_|(refine zG rfl rfl (fun _ => ?_) fun _ => ?_)<;>refine zE tab_ok rfl rfl ?_|(refine zC rfl (fun _ => ?_) fun _ => ?_)<;>try (rename_i h; cases h; done)|refine zB ?_|refine zK ?_|refine zZ ⟨_, rfl, ?_⟩)
  rw [hi]
abbrev rngArg (r : Rng) : AV := .tr (rngT r)
theorem cmp_el (c : Cmp) : El true 5 (Cmp.t c) := .inl ⟨rfl, _, rfl, rfl⟩
theorem cmps_el (l : List Cmp) : El false 1 (cmpsT l) := .inr ⟨rfl, rfl, rfl⟩
theorem noH {R : Loc → AV → Prop} : ∀ κ v, lk ([] : Store) κ = some v → R κ v := fun κ v h => nomatch h
theorem allRight_ok (l : List Cmp) (hl : ∀ c, c ∈ l → c.ok) (hn : l.length ≤ 1073741824) :
    Fn Tryz.prog Gw 92 [.tr (cmpsT l), .fn 113 []] [] (· = bool (l.any fun c => !cmpRight c)) :=
  containsCmp _ [] [] Cmp.t _ (fun x h => nomatch h) noH (fun κ ty cells h => nomatch h) l (fun c hc => ⟨cmp_el c, cmpRight1_ok c (hl c hc)⟩) hn
theorem rngRight_ok (r : Rng) (hr : r.ok) (hn : r.length ≤ 1073741824) : Fn Tryz.prog Gw 83 [.tr (rngT r)] [] (· = bool (rngRight r)) := by
  refine Fn.of tab_ok Tryz.func83 rfl (by decide) (by simp [Tryz.f83]) rfl (fun κ v h => by cases h) Gw.below ?_
  repeat' (first|refine zS ?_|refine zR ?_|refine zE tab_ok rfl rfl ?_|refine zN ?_|(refine zG rfl rfl (fun _ => ?_) fun _ => ?_)<;>refine zE tab_ok rfl rfl ?_|(refine zC rfl (fun _ => ?_) fun _ => ?_)<;>try (rename_i h; cases h; done)|refine zB ?_|refine zK ?_|refine zZ ⟨_, rfl, ?_⟩)
  refine Tr.loopS (fun i : Nat => [(.s 1, .ptr (.l 1) 0), (.l 1, .blk 81 [.tr (.ls (r.map cmpsT))]), (.s 6, .tr (.ls (r.map cmpsT))), (.s 7, int (r.map cmpsT).length), (.s 8, int i)]) (fun i => r.length - i)
    (fun i => i ≤ r.length ∧ (r.take i).all (fun l => sizedB l.length && l.all cmpRight) = true)
    0 ⟨by omega, by simp⟩ (Sub.app (l := [_, _, _, _, _]) (H := []) ⟨rfl, rfl, rfl, rfl, rfl, trivial⟩ (fun κ v h => nomatch h)) ?_
  rintro i ⟨hi, hp⟩
  repeat' (first | refine zS ?_ | refine zR ?_ | refine zE tab_ok rfl rfl ?_ | refine zN ?_ | refine zB ?_ | refine zK ?_)
  refine zC rfl (fun h => ?_) (fun h => ?_)
  · have hlt : i < r.length := by simpa using h
    obtain ⟨hl1, hl2⟩ := hr r[i] (List.getElem_mem hlt)
    repeat' (first | refine zS ?_ | refine zR ?_ | refine zE tab_ok rfl rfl ?_ | refine zN ?_ | refine zB ?_ | refine zK ?_)
    refine zI (x := cmpsT r[i]) tab_ok rfl (by omega) (by simp [hlt]) rfl ?_
    repeat' (first|refine zS ?_|refine zR ?_|refine zE tab_ok rfl rfl ?_|refine zN ?_|(refine zG rfl rfl (fun _ => ?_) fun _ => ?_)<;>refine zE tab_ok rfl rfl ?_|(refine zC rfl (fun _ => ?_) fun _ => ?_)<;>try (rename_i h; cases h; done)|refine zB ?_|refine zK ?_|refine zZ ⟨_, rfl, ?_⟩)
    refine Sq.callv rfl (sized_ok _) ?_
    repeat' (first|refine zS ?_|refine zR ?_|refine zE tab_ok rfl rfl ?_|refine zN ?_|(refine zG rfl rfl (fun _ => ?_) fun _ => ?_)<;>refine zE tab_ok rfl rfl ?_|(refine zC rfl (fun _ => ?_) fun _ => ?_)<;>try (rename_i h; cases h; done)|refine zB ?_|refine zK ?_|refine zZ ⟨_, rfl, ?_⟩)
    all_goals first | (refine Sq.callv rfl (allRight_ok r[i] hl2 hl1) ?_) | skip
    all_goals repeat' (first|refine zS ?_|refine zR ?_|refine zE tab_ok rfl rfl ?_|refine zN ?_|(refine zG rfl rfl (fun _ => ?_) fun _ => ?_)<;>refine zE tab_ok rfl rfl ?_|(refine zC rfl (fun _ => ?_) fun _ => ?_)<;>try (rename_i h; cases h; done)|refine zB ?_|refine zK ?_|refine zZ ⟨_, rfl, ?_⟩)
    all_goals first
      | refine ⟨i + 1, ⟨by omega, ?_⟩, by omega, Sub.app (l := [_, _, _, _, _]) (H := []) ⟨rfl, rfl, rfl, rfl, congrArg some (wrapz (by omega) (by omega) (by omega)), trivial⟩ (fun κ v h => nomatch h)⟩
        rename_i h1 h2
        rw [List.take_succ_eq_append_getElem hlt, List.all_append, hp]
        simp only [List.length_map, Bool.not_eq_false', List.any_eq_false, Bool.not_eq_true', Bool.not_eq_false] at h1 h2
        simp only [List.all_cons, List.all_nil, Bool.and_true, Bool.true_and, h1, List.all_eq_true]
        exact h2
      | show bool _ = bool _
        congr 3
        have : (sizedB r[i].length && r[i].all cmpRight) = false := by
          rename_i h1 h2
          simp only [List.length_map, Bool.not_eq_false', Bool.not_eq_true'] at h1 h2
          first
            | (rw [h1]; rfl)
            | (have : r[i].all cmpRight = false := by
                 obtain ⟨c, hc, hc2⟩ := List.any_eq_true.1 h2
                 rw [← Bool.not_eq_true, List.all_eq_true]
                 intro h
                 rw [h c hc] at hc2; cases hc2
               rw [this, Bool.and_false])
        have h2 : (r.all fun l => sizedB l.length && l.all cmpRight) = false := by
          rw [← Bool.not_eq_true, List.all_eq_true]
          intro h
          rw [h _ (List.getElem_mem hlt)] at this; cases this
        simp only [rngRight, h2, Bool.false_and]
  · have hge : ¬ i < r.length := by simpa using h
    rw [List.take_of_length_le (by omega)] at hp
    refine Tr.exit ?_
    repeat' (first|refine zS ?_|refine zR ?_|refine zE tab_ok rfl rfl ?_|refine zN ?_|(refine zG rfl rfl (fun _ => ?_) fun _ => ?_)<;>refine zE tab_ok rfl rfl ?_|(refine zC rfl (fun _ => ?_) fun _ => ?_)<;>try (rename_i h; cases h; done)|refine zB ?_|refine zK ?_|refine zZ ⟨_, rfl, ?_⟩)
    refine Sq.callv rfl (sized_ok _) ?_
    repeat' (first|refine zS ?_|refine zR ?_|refine zE tab_ok rfl rfl ?_|refine zN ?_|(refine zG rfl rfl (fun _ => ?_) fun _ => ?_)<;>refine zE tab_ok rfl rfl ?_|(refine zC rfl (fun _ => ?_) fun _ => ?_)<;>try (rename_i h; cases h; done)|refine zB ?_|refine zK ?_|refine zZ ⟨_, rfl, ?_⟩)
    show bool _ = bool _
    congr 3
    simp only [rngRight, hp, Bool.true_and, List.length_map]
theorem lk1 {k κ : Loc} {v u : AV} (h : lk [(k, u)] κ = some v) : κ = k ∧ v = u := by
  rw [lk_cons] at h
  split at h
  · rename_i e; exact ⟨e.symm, (Option.some.inj h).symm⟩
  · cases h
theorem has1_ok (v : Ver) (hv : v.ok) (c : Cmp) (hc : c.ok) : Fn Tryz.prog Gw 93 [.tr (Cmp.t c), .ptr (.e 0) 0] [(.e 0, .blk 75 [int v.a, int v.b, int v.c, str v.p])] (· = bool (!hasC c v)) := by
  refine Fn.of tab_ok Tryz.func93 rfl (by decide) (by simp [Tryz.f93]) rfl (fun κ v h => (lk1 h).1 ▸ rfl) Gw.below ?_
  repeat' (first|refine zS ?_|refine zR ?_|refine zE tab_ok rfl rfl ?_|refine zN ?_|(refine zG rfl rfl (fun _ => ?_) fun _ => ?_)<;>refine zE tab_ok rfl rfl ?_|(refine zC rfl (fun _ => ?_) fun _ => ?_)<;>try (rename_i h; cases h; done)|refine zB ?_|refine zK ?_|refine zZ ⟨_, rfl, ?_⟩)
  refine Sq.callv rfl (has_ok c v hc hv) ?_
  repeat' (first|refine zS ?_|refine zR ?_|refine zE tab_ok rfl rfl ?_|refine zN ?_|(refine zG rfl rfl (fun _ => ?_) fun _ => ?_)<;>refine zE tab_ok rfl rfl ?_|(refine zC rfl (fun _ => ?_) fun _ => ?_)<;>try (rename_i h; cases h; done)|refine zB ?_|refine zK ?_|refine zZ ⟨_, rfl, ?_⟩)
  rfl
abbrev verH (v : Ver) : Store := [(.e 0, .blk 75 [int v.a, int v.b, int v.c, str v.p])]
theorem verH_e (v : Ver) : ∀ κ u, lk (verH v) κ = some u → ∃ j, κ = .e j := fun κ u h => ⟨0, (lk1 h).1⟩
theorem verH_r (v : Ver) : ∀ κ ty cells, lk (verH v) κ = some (.blk ty cells) → ExtOnly cells := fun κ ty cells h => by
  obtain ⟨_, h2⟩ := lk1 h
  injection h2 with h3 h4
  subst h4
  intro x hx κ hr
  simp only [List.mem_cons, List.not_mem_nil, or_false] at hx
  rcases hx with rfl | rfl | rfl | rfl <;> cases hr
theorem ptr_ext : ExtOnly [.ptr (.e 0) 0] := fun x hx κ h => by
  obtain rfl := List.mem_singleton.1 hx
  cases h; exact ⟨0, rfl⟩
theorem has2_ok (v : Ver) (hv : v.ok) (l : List Cmp) (hl : ∀ c, c ∈ l → c.ok) (hn : l.length ≤ 1073741824) : Fn Tryz.prog Gw 91 [.tr (cmpsT l), .ptr (.e 0) 0] (verH v) (· = bool (l.all fun c => hasC c v)) := by
  refine Fn.of tab_ok Tryz.func91 rfl (by decide) (by simp [Tryz.f91]) rfl (fun κ v h => (lk1 h).1 ▸ rfl) Gw.below ?_
  repeat' (first|refine zS ?_|refine zR ?_|refine zE tab_ok rfl rfl ?_|refine zN ?_|(refine zG rfl rfl (fun _ => ?_) fun _ => ?_)<;>refine zE tab_ok rfl rfl ?_|(refine zC rfl (fun _ => ?_) fun _ => ?_)<;>try (rename_i h; cases h; done)|refine zB ?_|refine zK ?_|refine zZ ⟨_, rfl, ?_⟩)
  refine Sq.callE (H := verH v) rfl (by
      intro x hx
      rcases List.mem_cons.1 hx with rfl | hx
      · intro κ h; cases h
      · rcases List.mem_cons.1 hx with rfl | hx
        · intro κ h; cases h with | fn _ _ x hx h => exact ptr_ext x hx κ h
        · cases hx) (fun κ u h => ⟨verH_e v κ u h, by obtain ⟨rfl, rfl⟩ := lk1 h; rfl⟩) (verH_r v)
    (containsCmp 93 [.ptr (.e 0) 0] (verH v) Cmp.t (fun c => !hasC c v) ptr_ext (verH_e v) (verH_r v) l (fun c hc => ⟨cmp_el c, has1_ok v hv c (hl c hc)⟩) hn) ?_
  rintro _ rfl
  repeat' (first|refine zS ?_|refine zR ?_|refine zE tab_ok rfl rfl ?_|refine zN ?_|(refine zG rfl rfl (fun _ => ?_) fun _ => ?_)<;>refine zE tab_ok rfl rfl ?_|(refine zC rfl (fun _ => ?_) fun _ => ?_)<;>try (rename_i h; cases h; done)|refine zB ?_|refine zK ?_|refine zZ ⟨_, rfl, ?_⟩)
  show bool _ = bool _
  congr 3
  rw [Bool.eq_iff_iff, Bool.not_eq_true', ← Bool.not_eq_true, List.any_eq_true, List.all_eq_true]
  constructor
  · intro h c hc
    rcases hh : hasC c v with _ | _
    · exact absurd ⟨c, hc, by rw [hh]; rfl⟩ h
    · rfl
  · rintro h ⟨c, hc, h2⟩
    rw [h c hc] at h2; cases h2
theorem hasR_ok (r : Rng) (v : Ver) (hr : r.ok) (hn : r.length ≤ 1073741824) (hv : v.ok) : Fn Tryz.prog Gw 71 [.tr (rngT r), .tr (Ver.t v)] [] (· = bool (hasR r v)) := by
  refine Fn.of tab_ok Tryz.func71 rfl (by decide) (by simp [Tryz.f71]) rfl (fun κ v h => by cases h) Gw.below ?_
  repeat' (first|refine zS ?_|refine zR ?_|refine zE tab_ok rfl rfl ?_|refine zN ?_|(refine zG rfl rfl (fun _ => ?_) fun _ => ?_)<;>refine zE tab_ok rfl rfl ?_|(refine zC rfl (fun _ => ?_) fun _ => ?_)<;>try (rename_i h; cases h; done)|refine zB ?_|refine zK ?_|refine zZ ⟨_, rfl, ?_⟩)
  refine Sq.callv rfl (rngRight_ok r hr hn) ?_
  repeat' (first|refine zS ?_|refine zR ?_|refine zE tab_ok rfl rfl ?_|refine zN ?_|(refine zG rfl rfl (fun _ => ?_) fun _ => ?_)<;>refine zE tab_ok rfl rfl ?_|(refine zC rfl (fun _ => ?_) fun _ => ?_)<;>try (rename_i h; cases h; done)|refine zB ?_|refine zK ?_|refine zZ ⟨_, rfl, ?_⟩)
  all_goals first | (refine Sq.callv rfl (right_ok v hv) ?_) | skip
  all_goals repeat' (first|refine zS ?_|refine zR ?_|refine zE tab_ok rfl rfl ?_|refine zN ?_|(refine zG rfl rfl (fun _ => ?_) fun _ => ?_)<;>refine zE tab_ok rfl rfl ?_|(refine zC rfl (fun _ => ?_) fun _ => ?_)<;>try (rename_i h; cases h; done)|refine zB ?_|refine zK ?_|refine zZ ⟨_, rfl, ?_⟩)
  all_goals first
    | (refine Sq.callv rfl (containsCmps 91 [.ptr (.e 0) 0] (verH v) cmpsT (fun l => l.all fun c => hasC c v) ptr_ext (verH_e v) (verH_r v) r (fun l hl => ⟨cmps_el l, has2_ok v hv l (hr l hl).2 (hr l hl).1⟩) hn) ?_)
    | skip
  all_goals repeat' (first|refine zS ?_|refine zR ?_|refine zE tab_ok rfl rfl ?_|refine zN ?_|(refine zG rfl rfl (fun _ => ?_) fun _ => ?_)<;>refine zE tab_ok rfl rfl ?_|(refine zC rfl (fun _ => ?_) fun _ => ?_)<;>try (rename_i h; cases h; done)|refine zB ?_|refine zK ?_|refine zZ ⟨_, rfl, ?_⟩)
  all_goals
    show bool _ = bool _
    congr 3
    simp_all [hasR]
end Go.Lg.Tryz

set_option linter.unusedVariables false
set_option linter.unusedSimpArgs false
namespace Go.Lg.Tryz
open Go Go.Proofs Go.RowKit Go.Lib Go.Lg.Sem
abbrev u8 (b : UInt8) : AV := .tr (byteT b)
theorem by_ok (a b : Int) : Fn Tryz.prog Gw 85 [int a, int b] [] (· = int (cmpI a b)) := by
  refine Fn.of tab_ok Tryz.func85 rfl (by decide) (by simp [Tryz.f85]) rfl (fun κ v h => by cases h) Gw.below ?_
  repeat' (first|refine zS ?_|refine zR ?_|refine zE tab_ok rfl rfl ?_|refine zN ?_|(refine zG rfl rfl (fun _ => ?_) fun _ => ?_)<;>refine zE tab_ok rfl rfl ?_|(refine zC rfl (fun _ => ?_) fun _ => ?_)<;>try (rename_i h; cases h; done)|refine zB ?_|refine zK ?_|refine zZ ⟨_, rfl, ?_⟩)
  all_goals
    show int _ = int _
    congr 3
    simp only [decide_eq_true_eq, decide_eq_false_iff_not] at *
    unfold cmpI
    (repeat' split) <;> first | rfl | omega
theorem digit_ok (b : UInt8) : Fn Tryz.prog Gw 133 [u8 b] [] (· = bool (isDig b)) := by
  refine Fn.of tab_ok Tryz.func133 rfl (by decide) (by simp [Tryz.f133]) rfl (fun κ v h => by cases h) Gw.below ?_
  repeat' (first|refine zS ?_|refine zR ?_|refine zE tab_ok rfl rfl ?_|refine zN ?_|(refine zG rfl rfl (fun _ => ?_) fun _ => ?_)<;>refine zE tab_ok rfl rfl ?_|(refine zC rfl (fun _ => ?_) fun _ => ?_)<;>try (rename_i h; cases h; done)|refine zB ?_|refine zK ?_|refine zZ ⟨_, rfl, ?_⟩)
  all_goals
    show bool _ = bool _
    congr 3
    simp only [decide_eq_true_eq, decide_eq_false_iff_not] at *
    rw [Bool.eq_iff_iff]
    simp only [isDig, Bool.and_eq_true, decide_eq_true_eq, Bool.false_eq_true, false_iff, true_iff, iff_true, iff_false, eq_self]
    omega
def numO (s : ByteArray) : Int × Bool := if numP s = true then (valP s, true) else (0, false)
theorem numO_f {s : ByteArray} (h : numP s = false) : numO s = (0, false) := by unfold numO; rw [if_neg (by rw [h]; decide)]
theorem numO_t {s : ByteArray} (h : numP s = true) : numO s = (valP s, true) := by unfold numO; rw [if_pos h]
theorem decV_app (l : List UInt8) (b : UInt8) (a : Nat) : decV a (l ++ [b]) = decV a l * 10 + (b.toNat - 48) := by simp [decV]
theorem Number_ok (s : ByteArray) : Fn Tryz.prog Gw 116 [str s] [] (· = .tup [int (numO s).1, bool (numO s).2]) := by
  have hz := data_length s
  refine Fn.of tab_ok Tryz.func116 rfl (by decide) (by simp [Tryz.f116]) rfl (fun κ v h => by cases h) Gw.below ?_
  repeat' (first|refine zS ?_|refine zR ?_|refine zE tab_ok rfl rfl ?_|refine zN ?_|(refine zG rfl rfl (fun _ => ?_) fun _ => ?_)<;>refine zE tab_ok rfl rfl ?_|(refine zC rfl (fun _ => ?_) fun _ => ?_)<;>try (rename_i h; cases h; done)|refine zB ?_|refine zK ?_|refine zZ ⟨_, rfl, ?_⟩)
  · rename_i h _
    have : s.data.toList = [] := by
      have : s.size = 0 := by simpa using h
      rw [← List.length_eq_zero_iff, hz]; exact this
    rw [numO_f (by simp [numP, numL, this])]
  · rename_i h
    simp only [decide_eq_true_eq] at h
    have : decide (s.data.toList.length ≤ 6) = false := by simp only [decide_eq_false_iff_not]; omega
    rw [numO_f (by simp only [numP, numL, this, Bool.and_false, Bool.false_and])]
  · rename_i h1 h2
    obtain ⟨xs, hxs⟩ : ∃ xs, s.data.toList = xs := ⟨_, rfl⟩
    rw [hxs] at hz
    simp only [beq_eq_false_iff_ne, decide_eq_false_iff_not] at h1 h2
    refine Tr.loopS (fun i : Nat => [(.s 0, str s), (.s 4, int (decV 0 (xs.take i))), (.s 5, int i)]) (fun i => xs.length - i) (fun i => i ≤ xs.length ∧ (xs.take i).all isDig = true ∧ decV 0 (xs.take i) < 10 ^ i)
      0 ⟨by omega, by simp, by simp [decV]⟩ (Sub.app (l := [_, _, _]) (H := []) ⟨rfl, rfl, rfl, trivial⟩ (fun κ v h => nomatch h)) ?_
    rintro i ⟨hi, hp, hd⟩
    have h10 : (10 : Nat) ^ i ≤ 1000000 := Nat.pow_le_pow_right (by decide) (by omega : i ≤ 6)
    repeat' (first|refine zS ?_|refine zR ?_|refine zE tab_ok rfl rfl ?_|refine zN ?_|(refine zG rfl rfl (fun _ => ?_) fun _ => ?_)<;>refine zE tab_ok rfl rfl ?_|(refine zC rfl (fun _ => ?_) fun _ => ?_)<;>try (rename_i h; cases h; done)|refine zB ?_|refine zK ?_|refine zZ ⟨_, rfl, ?_⟩)
    · rename_i h
      have hlt : i < xs.length := by simp only [decide_eq_true_eq] at h; omega
      refine Sq.byte (b := xs[i]) tab_ok rfl (by omega) (by simp [hxs, hlt]) ?_
      repeat' (first|refine zS ?_|refine zR ?_|refine zE tab_ok rfl rfl ?_|refine zN ?_|(refine zG rfl rfl (fun _ => ?_) fun _ => ?_)<;>refine zE tab_ok rfl rfl ?_|(refine zC rfl (fun _ => ?_) fun _ => ?_)<;>try (rename_i h; cases h; done)|refine zB ?_|refine zK ?_|refine zZ ⟨_, rfl, ?_⟩)
      refine Sq.callv rfl (digit_ok xs[i]) ?_
      repeat' (first|refine zS ?_|refine zR ?_|refine zE tab_ok rfl rfl ?_|refine zN ?_|(refine zG rfl rfl (fun _ => ?_) fun _ => ?_)<;>refine zE tab_ok rfl rfl ?_|(refine zC rfl (fun _ => ?_) fun _ => ?_)<;>try (rename_i h; cases h; done)|refine zB ?_|refine zK ?_|refine zZ ⟨_, rfl, ?_⟩)
      · rename_i h
        have hb : isDig xs[i] = false := by simpa using h
        have : xs.all isDig = false := by
          rw [← Bool.not_eq_true, List.all_eq_true]
          intro h
          rw [h _ (List.getElem_mem hlt)] at hb; cases hb
        rw [numO_f (by simp only [numP, numL, hxs, this, Bool.and_false])]
      · rename_i h
        have hb : isDig xs[i] = true := by simpa using h
        have hb2 : 48 ≤ xs[i].toNat ∧ xs[i].toNat ≤ 57 := by simpa [isDig] using hb
        refine Sq.byte (b := xs[i]) tab_ok rfl (by omega) (by simp [hxs, hlt]) ?_
        repeat' (first|refine zS ?_|refine zR ?_|refine zE tab_ok rfl rfl ?_|refine zN ?_|(refine zG rfl rfl (fun _ => ?_) fun _ => ?_)<;>refine zE tab_ok rfl rfl ?_|(refine zC rfl (fun _ => ?_) fun _ => ?_)<;>try (rename_i h; cases h; done)|refine zB ?_|refine zK ?_|refine zZ ⟨_, rfl, ?_⟩)
        have e1 : IntKind.i64.wrap (10 * (decV 0 (List.take i xs) : Int)) = 10 * (decV 0 (List.take i xs) : Int) := Go.IntWalk.i64_in _ ⟨by omega, by omega⟩
        have e2 : IntKind.u8.wrap ((xs[i].toNat : Int) - 48) = ((xs[i].toNat - 48 : Nat) : Int) := by
          rw [Go.IntWalk.u8_in _ ⟨by omega, by omega⟩]; omega
        have e3 : decV 0 (xs.take (i + 1)) = decV 0 (xs.take i) * 10 + (xs[i].toNat - 48) := by rw [List.take_succ_eq_append_getElem hlt, decV_app]
        refine ⟨i + 1, ⟨by omega, ?_, ?_⟩, by omega, Sub.app (l := [_, _, _]) (H := []) ⟨rfl, congrArg some (wrapz (by
            rw [e1, e2, e3, Go.IntWalk.i64_in _ ⟨by omega, by omega⟩]; omega) (by omega) (by rw [e3]; omega)), congrArg some (wrapz (by omega) (by omega) (by omega)), trivial⟩ (fun κ v h => nomatch h)⟩
        · rw [List.take_succ_eq_append_getElem hlt, List.all_append, hp]; simp [hb]
        · rw [e3, Nat.pow_succ]; omega
    · rename_i h
      have hge : xs.length ≤ i := by simp only [decide_eq_false_iff_not] at h; omega
      rw [List.take_of_length_le hge] at hp ⊢
      cases hc : xs with
      | nil => rw [hc] at hz; simp at hz; omega
      | cons c l =>
        rw [← hc]
        have hn : numP s = !(decide (c = 48) && decide (xs.length ≠ 1)) := by
          have e1 : decide (xs.length ≤ 6) = true := by simp only [decide_eq_true_eq]; omega
          simp only [numP, numL, hxs, e1, hp]
          rw [hc]; simp
        have hv : valP s = (decV 0 xs : Int) := by unfold valP numV; rw [hxs]
        have hc48 : (c = 48) ↔ (c.toNat = 48) := ⟨fun h => by rw [h]; rfl, fun h => UInt8.toNat_inj.1 h⟩
        refine Tr.exit ?_
        repeat' (first|refine zS ?_|refine zR ?_|refine zE tab_ok rfl rfl ?_|refine zN ?_|(refine zG rfl rfl (fun _ => ?_) fun _ => ?_)<;>refine zE tab_ok rfl rfl ?_|(refine zC rfl (fun _ => ?_) fun _ => ?_)<;>try (rename_i h; cases h; done)|refine zB ?_|refine zK ?_|refine zZ ⟨_, rfl, ?_⟩)
        refine Sq.byte (b := c) tab_ok rfl (by omega) (by simp [hxs, hc]) ?_
        repeat' (first|refine zS ?_|refine zR ?_|refine zE tab_ok rfl rfl ?_|refine zN ?_|(refine zG rfl rfl (fun _ => ?_) fun _ => ?_)<;>refine zE tab_ok rfl rfl ?_|(refine zC rfl (fun _ => ?_) fun _ => ?_)<;>try (rename_i h; cases h; done)|refine zB ?_|refine zK ?_|refine zZ ⟨_, rfl, ?_⟩)
        all_goals
          rename_i h3 h4
          show AV.tup _ = AV.tup _
        · have h5 : numP s = false := by
            rw [hn]; simp only [decide_eq_true_eq, beq_iff_eq] at h3 h4; simp [hc48]; omega
          rw [numO_f h5]
        · have h5 : numP s = true := by
            rw [hn]; simp only [decide_eq_false_iff_not, beq_iff_eq] at h3 h4; simp [hc48]; omega
          rw [numO_t h5, hv]
        · have h5 : numP s = true := by
            rw [hn]; simp only [beq_eq_false_iff_ne] at h3; simp [hc48]; omega
          rw [numO_t h5, hv]
theorem refMark_ok (s : ByteArray) : Fn Tryz.prog Gw 115 [str s] [] (· = bool (markL s.data.toList)) := by
  have hz := data_length s
  refine Fn.of tab_ok Tryz.func115 rfl (by decide) (by simp [Tryz.f115]) rfl (fun κ v h => by cases h) Gw.below ?_
  repeat' (first|refine zS ?_|refine zR ?_|refine zE tab_ok rfl rfl ?_|refine zN ?_|(refine zG rfl rfl (fun _ => ?_) fun _ => ?_)<;>refine zE tab_ok rfl rfl ?_|(refine zC rfl (fun _ => ?_) fun _ => ?_)<;>try (rename_i h; cases h; done)|refine zB ?_|refine zK ?_|refine zZ ⟨_, rfl, ?_⟩)
  · rename_i h _
    have : s.data.toList = [] := by
      have : s.size = 0 := by simpa using h
      rw [← List.length_eq_zero_iff, hz]; exact this
    rw [this]; rfl
  · rename_i h
    simp only [decide_eq_true_eq] at h
    have : decide (s.data.toList.length ≤ 10) = false := by simp only [decide_eq_false_iff_not]; omega
    simp only [markL, this, Bool.and_false, Bool.false_and]
  · rename_i h1 h2
    obtain ⟨xs, hxs⟩ : ∃ xs, s.data.toList = xs := ⟨_, rfl⟩
    rw [hxs] at hz ⊢
    simp only [beq_eq_false_iff_ne, decide_eq_false_iff_not] at h1 h2
    refine Tr.loopS (fun i : Nat => [(.s 0, str s), (.s 3, bool ((xs.take i).all isDig)), (.s 4, int i)]) (fun i => xs.length - i) (fun i => i ≤ xs.length ∧ (xs.take i).all (fun b => okB b.toNat) = true)
      0 ⟨by omega, by simp⟩ (Sub.app (l := [_, _, _]) (H := []) ⟨rfl, rfl, rfl, trivial⟩ (fun κ v h => nomatch h)) ?_
    rintro i ⟨hi, hp⟩
    repeat' (first|refine zS ?_|refine zR ?_|refine zE tab_ok rfl rfl ?_|refine zN ?_|(refine zG rfl rfl (fun _ => ?_) fun _ => ?_)<;>refine zE tab_ok rfl rfl ?_|(refine zC rfl (fun _ => ?_) fun _ => ?_)<;>try (rename_i h; cases h; done)|refine zB ?_|refine zK ?_|refine zZ ⟨_, rfl, ?_⟩)
    · rename_i h
      have hlt : i < xs.length := by simp only [decide_eq_true_eq] at h; omega
      refine Sq.byte (b := xs[i]) tab_ok rfl (by omega) (by simp [hxs, hlt]) ?_
      repeat' (first|refine zS ?_|refine zR ?_|refine zE tab_ok rfl rfl ?_|refine zN ?_|(refine zG rfl rfl (fun _ => ?_) fun _ => ?_)<;>refine zE tab_ok rfl rfl ?_|(refine zC rfl (fun _ => ?_) fun _ => ?_)<;>try (rename_i h; cases h; done)|refine zB ?_|refine zK ?_|refine zZ ⟨_, rfl, ?_⟩)
      refine Sq.callv rfl (digit_ok xs[i]) ?_
      repeat' (first|refine zS ?_|refine zR ?_|refine zE tab_ok rfl rfl ?_|refine zN ?_|(refine zG rfl rfl (fun _ => ?_) fun _ => ?_)<;>refine zE tab_ok rfl rfl ?_|(refine zC rfl (fun _ => ?_) fun _ => ?_)<;>try (rename_i h; cases h; done)|refine zB ?_|refine zK ?_|refine zZ ⟨_, rfl, ?_⟩)
      all_goals first | (refine Sq.byte (b := xs[i]) tab_ok rfl (by omega) (by simp [hxs, hlt]) ?_) | skip
      all_goals repeat' (first|refine zS ?_|refine zR ?_|refine zE tab_ok rfl rfl ?_|refine zN ?_|(refine zG rfl rfl (fun _ => ?_) fun _ => ?_)<;>refine zE tab_ok rfl rfl ?_|(refine zC rfl (fun _ => ?_) fun _ => ?_)<;>try (rename_i h; cases h; done)|refine zB ?_|refine zK ?_|refine zZ ⟨_, rfl, ?_⟩)
      all_goals first | (refine Sq.byte (b := xs[i]) tab_ok rfl (by omega) (by simp [hxs, hlt]) ?_) | skip
      all_goals repeat' (first|refine zS ?_|refine zR ?_|refine zE tab_ok rfl rfl ?_|refine zN ?_|(refine zG rfl rfl (fun _ => ?_) fun _ => ?_)<;>refine zE tab_ok rfl rfl ?_|(refine zC rfl (fun _ => ?_) fun _ => ?_)<;>try (rename_i h; cases h; done)|refine zB ?_|refine zK ?_|refine zZ ⟨_, rfl, ?_⟩)
      all_goals first
        | refine ⟨i + 1, ⟨by omega, ?_⟩, by omega, Sub.app (l := [_, _, _]) (H := []) ⟨rfl, by
            show some (bool _) = some (bool _)
            rw [List.take_succ_eq_append_getElem hlt, List.all_append]
            simp only [Bool.not_eq_true', Bool.not_eq_false'] at *
            simp [*], congrArg some (wrapz (by omega) (by omega) (by omega)), trivial⟩ (fun κ v h => nomatch h)⟩
          rw [List.take_succ_eq_append_getElem hlt, List.all_append, hp]
          simp only [decide_eq_false_iff_not, Bool.not_eq_true', Bool.not_eq_false', isDig, Bool.and_eq_true, decide_eq_true_eq] at *
          simp [okB]
          omega
        | show bool _ = bool _
          congr 3
          have : okB xs[i].toNat = false := by
            rw [← Bool.not_eq_true]
            simp only [decide_eq_true_eq, decide_eq_false_iff_not, Bool.not_eq_true', ← Bool.not_eq_true, isDig, okB, Bool.and_eq_true, Bool.or_eq_true] at *
            omega
          have h2 : (xs.all fun b => okB b.toNat) = false := by
            rw [← Bool.not_eq_true, List.all_eq_true]
            intro h
            rw [h _ (List.getElem_mem hlt)] at this; cases this
          simp only [markL, h2, Bool.and_false, Bool.false_and]
    · rename_i h
      have hge : xs.length ≤ i := by simp only [decide_eq_false_iff_not] at h; omega
      rw [List.take_of_length_le hge] at hp ⊢
      have hm : markL xs = (!(xs.all isDig) || numL xs) := by
        have e1 : xs.isEmpty = false := by
          cases xs with
          | nil => simp at hz; omega
          | cons _ _ => rfl
        have e2 : decide (xs.length ≤ 10) = true := by simp only [decide_eq_true_eq]; omega
        simp only [markL, e1, e2, hp, Bool.not_false, Bool.true_and]
      have hn2 : (numO s).2 = numL xs := by
        have : numP s = numL xs := by unfold numP; rw [hxs]
        cases hh : numP s with
        | true => rw [numO_t hh, ← this, hh]
        | false => rw [numO_f hh, ← this, hh]
      refine Tr.exit ?_
      repeat' (first|refine zS ?_|refine zR ?_|refine zE tab_ok rfl rfl ?_|refine zN ?_|(refine zG rfl rfl (fun _ => ?_) fun _ => ?_)<;>refine zE tab_ok rfl rfl ?_|(refine zC rfl (fun _ => ?_) fun _ => ?_)<;>try (rename_i h; cases h; done)|refine zB ?_|refine zK ?_|refine zZ ⟨_, rfl, ?_⟩)
      refine Sq.callv rfl (Number_ok s) ?_
      repeat' (first|refine zS ?_|refine zR ?_|refine zE tab_ok rfl rfl ?_|refine zN ?_|(refine zG rfl rfl (fun _ => ?_) fun _ => ?_)<;>refine zE tab_ok rfl rfl ?_|(refine zC rfl (fun _ => ?_) fun _ => ?_)<;>try (rename_i h; cases h; done)|refine zB ?_|refine zK ?_|refine zZ ⟨_, rfl, ?_⟩)
      all_goals
        rename_i h
        show bool _ = bool _
        congr 3
        rw [hn2] at h
        rw [hm, h]
        cases xs.all isDig <;> rfl
end Go.Lg.Tryz

set_option linter.unusedVariables false
set_option linter.unusedSimpArgs false
namespace Go.Lg.Tryz
open Go Go.Proofs Go.RowKit Go.Lib Go.Lg.Sem
theorem Cut_ok (s : ByteArray) (c : UInt8) (hs : s.size ≤ 1000000000) : Fn Tryz.prog Gw 86 [str s, u8 c] [] (· = .own 9 ((pieces (one c) s).map strT)) := by
  refine Fn.of tab_ok Tryz.func86 rfl (by decide) (by simp [Tryz.f86]) rfl (fun κ v h => by cases h) Gw.below ?_
  repeat' (first|refine zS ?_|refine zR ?_|refine zE tab_ok rfl rfl ?_|refine zN ?_|(refine zG rfl rfl (fun _ => ?_) fun _ => ?_)<;>refine zE tab_ok rfl rfl ?_|(refine zC rfl (fun _ => ?_) fun _ => ?_)<;>try (rename_i h; cases h; done)|refine zB ?_|refine zK ?_|refine zZ ⟨_, rfl, ?_⟩)
  refine Tr.loopS (ι := Nat × Nat × List ByteArray) (fun x => [(.s 0, str s), (.s 1, u8 c), (.s 5, .own 9 (x.2.2.map strT)), (.s 6, int x.2.1), (.s 7, int x.1)]) (fun x => s.size - x.1)
    (fun x => x.1 ≤ s.size ∧ x.2.1 ≤ x.1 ∧ x.2.2.length ≤ x.2.1 ∧ (∀ j, x.2.1 ≤ j → j < x.1 → b8 s j ≠ c) ∧ pieces (one c) s = x.2.2 ++ pieces (one c) (s.extract x.2.1 s.size))
    (0, 0, []) ⟨Nat.zero_le _, Nat.le_refl _, Nat.le_refl _, fun j h1 h2 => absurd h2 (Nat.not_lt_zero _), by rw [ext_all]; rfl⟩ (Sub.app (l := [_, _, _, _, _]) (H := []) ⟨rfl, rfl, rfl, rfl, rfl, trivial⟩ (fun κ v h => nomatch h)) ?_
  rintro ⟨i, a, out⟩ ⟨hi, ha, ho, hno, hp⟩
  simp only at hi ha ho hno hp ⊢
  repeat' (first|refine zS ?_|refine zR ?_|refine zE tab_ok rfl rfl ?_|refine zN ?_|(refine zG rfl rfl (fun _ => ?_) fun _ => ?_)<;>refine zE tab_ok rfl rfl ?_|(refine zC rfl (fun _ => ?_) fun _ => ?_)<;>try (rename_i h; cases h; done)|refine zB ?_|refine zK ?_|refine zZ ⟨_, rfl, ?_⟩)
  · rename_i h
    have hlt : i < s.size := by simp only [decide_eq_true_eq] at h; omega
    refine Sq.byte (b := b8 s i) tab_ok rfl (by omega) (b8_get s i hlt) ?_
    repeat' (first|refine zS ?_|refine zR ?_|refine zE tab_ok rfl rfl ?_|refine zN ?_|(refine zG rfl rfl (fun _ => ?_) fun _ => ?_)<;>refine zE tab_ok rfl rfl ?_|(refine zC rfl (fun _ => ?_) fun _ => ?_)<;>try (rename_i h; cases h; done)|refine zB ?_|refine zK ?_|refine zZ ⟨_, rfl, ?_⟩)
    · rename_i h
      have hc : b8 s i = c := by simp only [beq_iff_eq] at h; rw [← UInt8.toNat_inj]; omega
      rw [cut_hit s c a i ha hlt hc hno] at hp
      refine Sq.substr tab_ok rfl (by show (0:Int) ≤ a; omega) (by show (a : Int) ≤ i; omega) (by show (i : Int) ≤ s.size; omega) ?_
      repeat' (first|refine zS ?_|refine zR ?_|refine zE tab_ok rfl rfl ?_|refine zN ?_|(refine zG rfl rfl (fun _ => ?_) fun _ => ?_)<;>refine zE tab_ok rfl rfl ?_|(refine zC rfl (fun _ => ?_) fun _ => ?_)<;>try (rename_i h; cases h; done)|refine zB ?_|refine zK ?_|refine zZ ⟨_, rfl, ?_⟩)
      refine Sq.append tab_ok rfl (by intro y hy; simp only [List.mem_singleton] at hy; subst hy; rfl) (by simp; omega) ?_
      repeat' (first|refine zS ?_|refine zR ?_|refine zE tab_ok rfl rfl ?_|refine zN ?_|(refine zG rfl rfl (fun _ => ?_) fun _ => ?_)<;>refine zE tab_ok rfl rfl ?_|(refine zC rfl (fun _ => ?_) fun _ => ?_)<;>try (rename_i h; cases h; done)|refine zB ?_|refine zK ?_|refine zZ ⟨_, rfl, ?_⟩)
      exact ⟨(i + 1, i + 1, out ++ [s.extract a i]), ⟨by show i + 1 ≤ s.size; omega, Nat.le_refl _, by simp; omega, fun j h1 h2 => absurd h2 (by simp only at h1 ⊢; omega), by rw [hp]; simp⟩, by show s.size - (i + 1) < s.size - i; omega,
        Sub.app (l := [_, _, _, _, _]) (H := []) ⟨rfl, rfl, congrArg some (congrArg (AV.own _) (by simp [Bd.lo, Bd.hi])), congrArg some (wrapz (by simp only; omega) (by simp only; omega) (by simp only; omega)), congrArg some (wrapz (by omega) (by omega) (by omega)), trivial⟩ (fun κ v h => nomatch h)⟩
    · rename_i h
      have hc : b8 s i ≠ c := by simp only [beq_eq_false_iff_ne] at h; intro h2; rw [h2] at h; exact h rfl
      exact ⟨(i + 1, a, out), ⟨by show i + 1 ≤ s.size; omega, by show a ≤ i + 1; omega, ho, fun j h1 h2 => by
          by_cases e : j = i
          · subst e; exact hc
          · exact hno j h1 (by simp only at h2; omega), hp⟩, by show s.size - (i + 1) < s.size - i; omega,
        Sub.app (l := [_, _, _, _, _]) (H := []) ⟨rfl, rfl, rfl, rfl, congrArg some (wrapz (by omega) (by omega) (by omega)), trivial⟩ (fun κ v h => nomatch h)⟩
  · rename_i h
    have hge : i = s.size := by simp only [decide_eq_false_iff_not] at h; omega
    subst hge
    rw [cut_miss s c a hno] at hp
    refine Tr.exit ?_
    repeat' (first|refine zS ?_|refine zR ?_|refine zE tab_ok rfl rfl ?_|refine zN ?_|(refine zG rfl rfl (fun _ => ?_) fun _ => ?_)<;>refine zE tab_ok rfl rfl ?_|(refine zC rfl (fun _ => ?_) fun _ => ?_)<;>try (rename_i h; cases h; done)|refine zB ?_|refine zK ?_|refine zZ ⟨_, rfl, ?_⟩)
    refine Sq.substr tab_ok rfl (by show (0:Int) ≤ a; omega) (by show (a : Int) ≤ s.size; omega) (by show (s.size : Int) ≤ s.size; omega) ?_
    repeat' (first|refine zS ?_|refine zR ?_|refine zE tab_ok rfl rfl ?_|refine zN ?_|(refine zG rfl rfl (fun _ => ?_) fun _ => ?_)<;>refine zE tab_ok rfl rfl ?_|(refine zC rfl (fun _ => ?_) fun _ => ?_)<;>try (rename_i h; cases h; done)|refine zB ?_|refine zK ?_|refine zZ ⟨_, rfl, ?_⟩)
    refine Sq.append tab_ok rfl (by intro y hy; simp only [List.mem_singleton] at hy; subst hy; rfl) (by simp; omega) ?_
    repeat' (first|refine zS ?_|refine zR ?_|refine zE tab_ok rfl rfl ?_|refine zN ?_|(refine zG rfl rfl (fun _ => ?_) fun _ => ?_)<;>refine zE tab_ok rfl rfl ?_|(refine zC rfl (fun _ => ?_) fun _ => ?_)<;>try (rename_i h; cases h; done)|refine zB ?_|refine zK ?_|refine zZ ⟨_, rfl, ?_⟩)
    show AV.own _ _ = AV.own _ _
    rw [hp]
    simp [Bd.lo, Bd.hi]
theorem cut_dot (s : ByteArray) (hs : s.size ≤ 1000000000) : Fn Tryz.prog Gw 86 [str s, .tr (.sc (.int .u8 46))] [] (· = .own 9 ((pieces dot s).map strT)) := Cut_ok s 46 hs
theorem Pre_ok (s : ByteArray) (hs : s.size ≤ 1000000000) : Fn Tryz.prog Gw 84 [str s] [] (· = bool (preO s)) := by
  have lp := pieces_len s
  refine Fn.of tab_ok Tryz.func84 rfl (by decide) (by simp [Tryz.f84]) rfl (fun κ v h => by cases h) Gw.below ?_
  repeat' (first|refine zS ?_|refine zR ?_|refine zE tab_ok rfl rfl ?_|refine zN ?_|(refine zG rfl rfl (fun _ => ?_) fun _ => ?_)<;>refine zE tab_ok rfl rfl ?_|(refine zC rfl (fun _ => ?_) fun _ => ?_)<;>try (rename_i h; cases h; done)|refine zB ?_|refine zK ?_|refine zZ ⟨_, rfl, ?_⟩)
  · rename_i h
    show bool _ = bool _
    congr 3
    simp only [ba_toList] at h
    have : s.data.toList = [] := by simpa using h
    simp [preO, ba_toList, this]
  · rename_i h
    have hp : preO s = (decide ((pieces dot s).length ≤ 4) && (pieces dot s).all (fun p => markL p.data.toList)) := by
      simp only [ba_toList] at h
      have : s.data.toList.isEmpty = false := by cases hh : s.data.toList <;> simp_all
      simp only [preO, ba_toList, this, Bool.false_or]; rfl
    rw [hp]
    have hc := cut_dot s hs
    generalize pieces dot s = x at *
    refine Sq.callv rfl (hc) ?_
    repeat' (first|refine zS ?_|refine zR ?_|refine zE tab_ok rfl rfl ?_|refine zN ?_|(refine zG rfl rfl (fun _ => ?_) fun _ => ?_)<;>refine zE tab_ok rfl rfl ?_|(refine zC rfl (fun _ => ?_) fun _ => ?_)<;>try (rename_i h; cases h; done)|refine zB ?_|refine zK ?_|refine zZ ⟨_, rfl, ?_⟩)
    · rename_i h4
      have : decide (x.length ≤ 4) = false := by simp only [List.length_map, decide_eq_true_eq] at h4; simp only [decide_eq_false_iff_not]; omega
      rw [this]; rfl
    · rename_i h4
      have : decide (x.length ≤ 4) = true := by simp only [List.length_map, decide_eq_false_iff_not] at h4; simp only [decide_eq_true_eq]; omega
      rw [this, Bool.true_and]
      refine Tr.loopS (fun i : Nat => [(.s 3, .own 9 (x.map strT)), (.s 4, int i)]) (fun i => x.length - i) (fun i => i ≤ x.length ∧ (x.take i).all (fun p => markL p.data.toList) = true)
        0 ⟨by omega, by simp⟩ (Sub.app (l := [_, _]) (H := []) ⟨rfl, rfl, trivial⟩ (fun κ v h => nomatch h)) ?_
      rintro i ⟨hi, hp⟩
      repeat' (first|refine zS ?_|refine zR ?_|refine zE tab_ok rfl rfl ?_|refine zN ?_|(refine zG rfl rfl (fun _ => ?_) fun _ => ?_)<;>refine zE tab_ok rfl rfl ?_|(refine zC rfl (fun _ => ?_) fun _ => ?_)<;>try (rename_i h; cases h; done)|refine zB ?_|refine zK ?_|refine zZ ⟨_, rfl, ?_⟩)
      · rename_i h
        have hlt : i < x.length := by simp only [List.length_map, decide_eq_true_eq] at h; omega
        refine zI (x := strT x[i]) tab_ok rfl (by omega) (by simp [hlt]) rfl ?_
        repeat' (first|refine zS ?_|refine zR ?_|refine zE tab_ok rfl rfl ?_|refine zN ?_|(refine zG rfl rfl (fun _ => ?_) fun _ => ?_)<;>refine zE tab_ok rfl rfl ?_|(refine zC rfl (fun _ => ?_) fun _ => ?_)<;>try (rename_i h; cases h; done)|refine zB ?_|refine zK ?_|refine zZ ⟨_, rfl, ?_⟩)
        refine Sq.callv rfl (refMark_ok x[i]) ?_
        repeat' (first|refine zS ?_|refine zR ?_|refine zE tab_ok rfl rfl ?_|refine zN ?_|(refine zG rfl rfl (fun _ => ?_) fun _ => ?_)<;>refine zE tab_ok rfl rfl ?_|(refine zC rfl (fun _ => ?_) fun _ => ?_)<;>try (rename_i h; cases h; done)|refine zB ?_|refine zK ?_|refine zZ ⟨_, rfl, ?_⟩)
        · rename_i h
          have hb : markL x[i].data.toList = false := by simpa using h
          have : (x.all fun p => markL p.data.toList) = false := by
            rw [← Bool.not_eq_true, List.all_eq_true]
            intro h
            rw [h _ (List.getElem_mem hlt)] at hb; cases hb
          rw [this]
        · rename_i h
          have hb : markL x[i].data.toList = true := by simpa using h
          refine ⟨i + 1, ⟨by omega, ?_⟩, by omega, Sub.app (l := [_, _]) (H := []) ⟨rfl, congrArg some (wrapz (by omega) (by omega) (by omega)), trivial⟩ (fun κ v h => nomatch h)⟩
          rw [List.take_succ_eq_append_getElem hlt, List.all_append, hp]; simp [hb]
      · rename_i h
        have hge : x.length ≤ i := by simp only [List.length_map, decide_eq_false_iff_not] at h; omega
        rw [List.take_of_length_le hge] at hp
        refine Tr.exit ?_
        repeat' (first|refine zS ?_|refine zR ?_|refine zE tab_ok rfl rfl ?_|refine zN ?_|(refine zG rfl rfl (fun _ => ?_) fun _ => ?_)<;>refine zE tab_ok rfl rfl ?_|(refine zC rfl (fun _ => ?_) fun _ => ?_)<;>try (rename_i h; cases h; done)|refine zB ?_|refine zK ?_|refine zZ ⟨_, rfl, ?_⟩)
        rw [hp]
theorem refRight_ok (v : Ver) (h : v.ok) : Fn Tryz.prog Gw 61 [.tr (Ver.t v)] [] (· = bool v.right) := by
  refine Fn.of tab_ok Tryz.func61 rfl (by decide) (by simp [Tryz.f61]) rfl (fun κ v h => by cases h) Gw.below ?_
  repeat' (first|refine zS ?_|refine zR ?_|refine zE tab_ok rfl rfl ?_|refine zN ?_|(refine zG rfl rfl (fun _ => ?_) fun _ => ?_)<;>refine zE tab_ok rfl rfl ?_|(refine zC rfl (fun _ => ?_) fun _ => ?_)<;>try (rename_i h; cases h; done)|refine zB ?_|refine zK ?_|refine zZ ⟨_, rfl, ?_⟩)
  all_goals first | (refine Sq.callv rfl (Pre_ok v.p h) ?_) | skip
  all_goals repeat' (first|refine zS ?_|refine zR ?_|refine zE tab_ok rfl rfl ?_|refine zN ?_|(refine zG rfl rfl (fun _ => ?_) fun _ => ?_)<;>refine zE tab_ok rfl rfl ?_|(refine zC rfl (fun _ => ?_) fun _ => ?_)<;>try (rename_i h; cases h; done)|refine zB ?_|refine zK ?_|refine zZ ⟨_, rfl, ?_⟩)
  all_goals
    show bool _ = bool _
    congr 3
    simp only [decide_eq_true_eq, decide_eq_false_iff_not] at *
    rw [Bool.eq_iff_iff]
    simp only [Ver.right, rightB, inN, Bool.and_eq_true, decide_eq_true_eq, Bool.false_eq_true, false_iff, iff_false, not_and]
  all_goals first | (constructor; (intro h; exact ⟨⟨by omega, by omega⟩, ⟨by omega, by omega⟩, ⟨by omega, by omega⟩, h⟩); (intro h; exact h.2.2.2)) | (intros; omega)
end Go.Lg.Tryz

set_option linter.unusedVariables false
set_option linter.unusedSimpArgs false
namespace Go.Lg.Tryz
open Go Go.Proofs Go.RowKit Go.Lib Go.Lg.Sem
theorem texts_ok (p q : ByteArray) (hp : p.size ≤ 1000000000) : Fn Tryz.prog Gw 117 [str p, str q] [] (· = int (cmpS p q)) := by
  have hz1 := data_length p
  have hz2 := data_length q
  rw [cmpS_lex]
  obtain ⟨x, hx⟩ : ∃ x, p.data.toList = x := ⟨_, rfl⟩
  obtain ⟨y, hy⟩ : ∃ y, q.data.toList = y := ⟨_, rfl⟩
  rw [hx] at hz1 ⊢
  rw [hy] at hz2 ⊢
  refine Fn.of tab_ok Tryz.func117 rfl (by decide) (by simp [Tryz.f117]) rfl (fun κ v h => by cases h) Gw.below ?_
  repeat' (first|refine zS ?_|refine zR ?_|refine zE tab_ok rfl rfl ?_|refine zN ?_|(refine zG rfl rfl (fun _ => ?_) fun _ => ?_)<;>refine zE tab_ok rfl rfl ?_|(refine zC rfl (fun _ => ?_) fun _ => ?_)<;>try (rename_i h; cases h; done)|refine zB ?_|refine zK ?_|refine zZ ⟨_, rfl, ?_⟩)
  refine Tr.loopS (fun i : Nat => [(.s 0, str p), (.s 1, str q), (.s 5, int i)]) (fun i => x.length - i) (fun i => i ≤ x.length ∧ i ≤ y.length ∧ lexL cmpB x y = lexL cmpB (x.drop i) (y.drop i))
    0 ⟨by omega, by omega, by simp⟩ (Sub.app (l := [_, _, _]) (H := []) ⟨rfl, rfl, rfl, trivial⟩ (fun κ v h => nomatch h)) ?_
  rintro i ⟨hi1, hi2, hl⟩
  repeat' (first|refine zS ?_|refine zR ?_|refine zE tab_ok rfl rfl ?_|refine zN ?_|(refine zG rfl rfl (fun _ => ?_) fun _ => ?_)<;>refine zE tab_ok rfl rfl ?_|(refine zC rfl (fun _ => ?_) fun _ => ?_)<;>try (rename_i h; cases h; done)|refine zB ?_|refine zK ?_|refine zZ ⟨_, rfl, ?_⟩)
  all_goals simp only [decide_eq_true_eq, decide_eq_false_iff_not] at *
  · have h1 : i < x.length := by omega
    have h2 : i < y.length := by omega
    rw [lex_step cmpB x y i h1 h2] at hl
    have b1 : p.data.toList[i]? = some x[i] := by rw [hx]; exact List.getElem?_eq_getElem h1
    have b2 : q.data.toList[i]? = some y[i] := by rw [hy]; exact List.getElem?_eq_getElem h2
    refine Tr.drawn ( zD tab_ok rfl rfl <| zD tab_ok rfl rfl <| zO rfl (fun q K hK => Sq.byte (b := x[i]) tab_ok rfl (by omega) b1 (zN hK)) <| zD tab_ok rfl rfl <| zD tab_ok rfl rfl <| zO rfl (fun q K hK => Sq.byte (b := y[i]) tab_ok rfl (by omega) b2 (zN hK)) <| zD tab_ok rfl rfl <| DSq.nil _) mix_ok rfl ?_
    refine zC rfl (fun h => ?_) (fun h => ?_)
    · repeat' (first|refine zS ?_|refine zR ?_|refine zE tab_ok rfl rfl ?_|refine zN ?_|(refine zG rfl rfl (fun _ => ?_) fun _ => ?_)<;>refine zE tab_ok rfl rfl ?_|(refine zC rfl (fun _ => ?_) fun _ => ?_)<;>try (rename_i h; cases h; done)|refine zB ?_|refine zK ?_|refine zZ ⟨_, rfl, ?_⟩)
      refine Tr.drawn ( zD tab_ok rfl rfl <| zD tab_ok rfl rfl <| zO rfl (fun q K hK => Sq.byte (b := x[i]) tab_ok rfl (by omega) b1 (zN hK)) <| zD tab_ok rfl rfl <| zD tab_ok rfl rfl <| zD tab_ok rfl rfl <| zO rfl (fun q K hK => Sq.byte (b := y[i]) tab_ok rfl (by omega) b2 (zN hK)) <| zD tab_ok rfl rfl <| DSq.call rfl (fun _ => rfl) (by_ok _ _) <| zD tab_ok rfl rfl <| DSq.nil _) mix_ok rfl ?_
      repeat' (first|refine zS ?_|refine zR ?_|refine zE tab_ok rfl rfl ?_|refine zN ?_|(refine zG rfl rfl (fun _ => ?_) fun _ => ?_)<;>refine zE tab_ok rfl rfl ?_|(refine zC rfl (fun _ => ?_) fun _ => ?_)<;>try (rename_i h; cases h; done)|refine zB ?_|refine zK ?_|refine zZ ⟨_, rfl, ?_⟩)
      have hne : cmpB x[i] y[i] ≠ 0 := by
        intro h0
        have := cmpI_zero.1 h0
        rw [this] at h; simp at h
      rw [hl, if_neg hne]
      have q1 := x[i].toNat_lt
      have q2 := y[i].toNat_lt
      have w1 : IntKind.i64.wrap (x[i].toNat : Int) = x[i].toNat := Go.IntWalk.i64_in _ ⟨by omega, by omega⟩
      have w2 : IntKind.i64.wrap (y[i].toNat : Int) = y[i].toNat := Go.IntWalk.i64_in _ ⟨by omega, by omega⟩
      show int (cmpI _ _) = int _
      rw [w1, w2]
      rfl
    · repeat' (first|refine zS ?_|refine zR ?_|refine zE tab_ok rfl rfl ?_|refine zN ?_|(refine zG rfl rfl (fun _ => ?_) fun _ => ?_)<;>refine zE tab_ok rfl rfl ?_|(refine zC rfl (fun _ => ?_) fun _ => ?_)<;>try (rename_i h; cases h; done)|refine zB ?_|refine zK ?_|refine zZ ⟨_, rfl, ?_⟩)
      refine ⟨i + 1, ⟨by omega, by omega, ?_⟩, by omega, Sub.app (l := [_, _, _]) (H := []) ⟨rfl, rfl, congrArg some (wrapz (by omega) (by omega) (by omega)), trivial⟩ (fun κ v h => nomatch h)⟩
      have h0 : cmpB x[i] y[i] = 0 := by
        unfold cmpB; rw [cmpI_zero]; simpa using h
      rw [hl, if_pos h0]
  · refine Tr.exit ?_
    repeat' (first|refine zS ?_|refine zR ?_|refine zE tab_ok rfl rfl ?_|refine zN ?_|(refine zG rfl rfl (fun _ => ?_) fun _ => ?_)<;>refine zE tab_ok rfl rfl ?_|(refine zC rfl (fun _ => ?_) fun _ => ?_)<;>try (rename_i h; cases h; done)|refine zB ?_|refine zK ?_|refine zZ ⟨_, rfl, ?_⟩)
    refine Sq.callv rfl (by_ok p.size q.size) ?_
    repeat' (first|refine zS ?_|refine zR ?_|refine zE tab_ok rfl rfl ?_|refine zN ?_|(refine zG rfl rfl (fun _ => ?_) fun _ => ?_)<;>refine zE tab_ok rfl rfl ?_|(refine zC rfl (fun _ => ?_) fun _ => ?_)<;>try (rename_i h; cases h; done)|refine zB ?_|refine zK ?_|refine zZ ⟨_, rfl, ?_⟩)
    rw [hl, lex_end cmpB x y i hi1 hi2 (by omega), hz1, hz2]
  · refine Tr.exit ?_
    repeat' (first|refine zS ?_|refine zR ?_|refine zE tab_ok rfl rfl ?_|refine zN ?_|(refine zG rfl rfl (fun _ => ?_) fun _ => ?_)<;>refine zE tab_ok rfl rfl ?_|(refine zC rfl (fun _ => ?_) fun _ => ?_)<;>try (rename_i h; cases h; done)|refine zB ?_|refine zK ?_|refine zZ ⟨_, rfl, ?_⟩)
    refine Sq.callv rfl (by_ok p.size q.size) ?_
    repeat' (first|refine zS ?_|refine zR ?_|refine zE tab_ok rfl rfl ?_|refine zN ?_|(refine zG rfl rfl (fun _ => ?_) fun _ => ?_)<;>refine zE tab_ok rfl rfl ?_|(refine zC rfl (fun _ => ?_) fun _ => ?_)<;>try (rename_i h; cases h; done)|refine zB ?_|refine zK ?_|refine zZ ⟨_, rfl, ?_⟩)
    rw [hl, lex_end cmpB x y i hi1 hi2 (by omega), hz1, hz2]
set_option maxRecDepth 4096 in
theorem refMarks_ok (p q : ByteArray) (hp : p.size ≤ 1000000000) : Fn Tryz.prog Gw 87 [str p, str q] [] (· = int (cmpM p q)) := by
  have ex : cmpM p q = if numP p = true then (if numP q = true then cmpI (valP p) (valP q) else -1) else if numP q = true then 1 else cmpS p q := rfl
  rw [ex]
  have n1 := Number_ok p
  have n2 := Number_ok q
  cases h1 : numP p <;> cases h2 : numP q
  all_goals (first | rw [numO_f h1] at n1 | rw [numO_t h1] at n1); (first | rw [numO_f h2] at n2 | rw [numO_t h2] at n2)
  all_goals
    refine Fn.of tab_ok Tryz.func87 rfl (by decide) (by simp [Tryz.f87]) rfl (fun κ v h => by cases h) Gw.below ?_
    repeat' (first|refine zS ?_|refine zR ?_|refine zE tab_ok rfl rfl ?_|refine zN ?_|(refine zG rfl rfl (fun _ => ?_) fun _ => ?_)<;>refine zE tab_ok rfl rfl ?_|(refine zC rfl (fun _ => ?_) fun _ => ?_)<;>try (rename_i h; cases h; done)|refine zB ?_|refine zK ?_|refine zZ ⟨_, rfl, ?_⟩)
    refine Sq.callv rfl n1 ?_
    repeat' (first|refine zS ?_|refine zR ?_|refine zE tab_ok rfl rfl ?_|refine zN ?_|(refine zG rfl rfl (fun _ => ?_) fun _ => ?_)<;>refine zE tab_ok rfl rfl ?_|(refine zC rfl (fun _ => ?_) fun _ => ?_)<;>try (rename_i h; cases h; done)|refine zB ?_|refine zK ?_|refine zZ ⟨_, rfl, ?_⟩)
    refine Sq.callv rfl n2 ?_
    repeat' (first|refine zS ?_|refine zR ?_|refine zE tab_ok rfl rfl ?_|refine zN ?_|(refine zG rfl rfl (fun _ => ?_) fun _ => ?_)<;>refine zE tab_ok rfl rfl ?_|(refine zC rfl (fun _ => ?_) fun _ => ?_)<;>try (rename_i h; cases h; done)|refine zB ?_|refine zK ?_|refine zZ ⟨_, rfl, ?_⟩)
  all_goals first | (refine Sq.callv rfl (by_ok (valP p) (valP q)) ?_) | (refine Sq.callv rfl (texts_ok p q hp) ?_) | skip
  all_goals repeat' (first|refine zS ?_|refine zR ?_|refine zE tab_ok rfl rfl ?_|refine zN ?_|(refine zG rfl rfl (fun _ => ?_) fun _ => ?_)<;>refine zE tab_ok rfl rfl ?_|(refine zC rfl (fun _ => ?_) fun _ => ?_)<;>try (rename_i h; cases h; done)|refine zB ?_|refine zK ?_|refine zZ ⟨_, rfl, ?_⟩)
  all_goals rfl
set_option maxRecDepth 8192 in
theorem refCompare_ok (v u : Ver) (hv : v.ok) (hu : u.ok) : Fn Tryz.prog Gw 62 [.tr (Ver.t v), .tr (Ver.t u)] [] (· = int (cmpVer v u)) := by
  refine Fn.of tab_ok Tryz.func62 rfl (by decide) (by simp [Tryz.f62]) rfl (fun κ v h => by cases h) Gw.below ?_
  repeat' (first|refine zS ?_|refine zR ?_|refine zE tab_ok rfl rfl ?_|refine zN ?_|(refine zG rfl rfl (fun _ => ?_) fun _ => ?_)<;>refine zE tab_ok rfl rfl ?_|(refine zC rfl (fun _ => ?_) fun _ => ?_)<;>try (rename_i h; cases h; done)|refine zB ?_|refine zK ?_|refine zZ ⟨_, rfl, ?_⟩)
  refine Sq.callv rfl (by_ok v.a u.a) ?_
  repeat' (first|refine zS ?_|refine zR ?_|refine zE tab_ok rfl rfl ?_|refine zN ?_|(refine zG rfl rfl (fun _ => ?_) fun _ => ?_)<;>refine zE tab_ok rfl rfl ?_|(refine zC rfl (fun _ => ?_) fun _ => ?_)<;>try (rename_i h; cases h; done)|refine zB ?_|refine zK ?_|refine zZ ⟨_, rfl, ?_⟩)
  all_goals first | (refine Sq.callv rfl (by_ok v.b u.b) ?_) | skip
  all_goals repeat' (first|refine zS ?_|refine zR ?_|refine zE tab_ok rfl rfl ?_|refine zN ?_|(refine zG rfl rfl (fun _ => ?_) fun _ => ?_)<;>refine zE tab_ok rfl rfl ?_|(refine zC rfl (fun _ => ?_) fun _ => ?_)<;>try (rename_i h; cases h; done)|refine zB ?_|refine zK ?_|refine zZ ⟨_, rfl, ?_⟩)
  all_goals first | (refine Sq.callv rfl (by_ok v.c u.c) ?_) | skip
  all_goals repeat' (first|refine zS ?_|refine zR ?_|refine zE tab_ok rfl rfl ?_|refine zN ?_|(refine zG rfl rfl (fun _ => ?_) fun _ => ?_)<;>refine zE tab_ok rfl rfl ?_|(refine zC rfl (fun _ => ?_) fun _ => ?_)<;>try (rename_i h; cases h; done)|refine zB ?_|refine zK ?_|refine zZ ⟨_, rfl, ?_⟩)
  all_goals simp only [beq_iff_eq, beq_eq_false_iff_ne, bne_iff_ne, bne_eq_false_iff_eq, ba_toList] at *
  all_goals first | (exfalso; omega) | skip
  all_goals first
    | (show int _ = int _
       congr 3
       rw [cmpVer_eq]
       simp_all
       done)
    | skip
  all_goals
    have ev : cmpVer v u = marksV v.p u.p := by rw [cmpVer_eq]; simp only [*, if_true]
    rw [ev]
    have zv := data_length v.p
    have zu := data_length u.p
  · rename_i h
    rw [bytes_ext h, ordP.self _ trivial]
    show int _ = int 0
    simp only [*]
  · rename_i h1 h2
    have : ¬ u.p.size = 0 := by
      rw [← zu, List.length_eq_zero_iff]; intro h; rw [h2, h] at h1; exact h1 rfl
    rw [marksV_lex, if_pos (.inl (by rw [ba_toList]; exact h2)), show v.p.size = 0 by rw [← zv, h2]; rfl]
    show int 1 = int (cmpI _ _)
    congr 3
    unfold cmpI
    rw [if_neg (by omega), if_pos (by omega)]
  · rename_i h1 h2
    have : ¬ v.p.size = 0 := by
      rw [← zv, List.length_eq_zero_iff]; exact h1
    rw [marksV_lex, if_pos (.inr (by rw [ba_toList]; exact h2)), show u.p.size = 0 by rw [← zu, h2]; rfl]
    show int (-1) = int (cmpI _ _)
    congr 3
    unfold cmpI
    rw [if_pos (by omega)]
  · rename_i h1 h2
    rw [marksV_lex, if_neg (by rw [ba_toList, ba_toList]; rintro (h | h); exact h1 h; exact h2 h)]
    have lx := pieces_len v.p
    have ly := pieces_len u.p
    have sx := pieces_size v.p
    have c1 := cut_dot v.p hv
    have c2 := cut_dot u.p hu
    have hv1 : v.p.size ≤ 1000000000 := hv
    have hu1 : u.p.size ≤ 1000000000 := hu
    generalize pieces dot v.p = x at *
    generalize pieces dot u.p = y at *
    refine Sq.callv rfl (c1) ?_
    repeat' (first|refine zS ?_|refine zR ?_|refine zE tab_ok rfl rfl ?_|refine zN ?_|(refine zG rfl rfl (fun _ => ?_) fun _ => ?_)<;>refine zE tab_ok rfl rfl ?_|(refine zC rfl (fun _ => ?_) fun _ => ?_)<;>try (rename_i h; cases h; done)|refine zB ?_|refine zK ?_|refine zZ ⟨_, rfl, ?_⟩)
    refine Sq.callv rfl (c2) ?_
    repeat' (first|refine zS ?_|refine zR ?_|refine zE tab_ok rfl rfl ?_|refine zN ?_|(refine zG rfl rfl (fun _ => ?_) fun _ => ?_)<;>refine zE tab_ok rfl rfl ?_|(refine zC rfl (fun _ => ?_) fun _ => ?_)<;>try (rename_i h; cases h; done)|refine zB ?_|refine zK ?_|refine zZ ⟨_, rfl, ?_⟩)
    refine Tr.loopS (ι := Nat × Int) (fun i => [(.s 6, .own 9 (x.map strT)), (.s 7, .own 9 (y.map strT)), (.s 8, int i.1), (.s 5, int i.2)]) (fun i => x.length - i.1) (fun i => i.1 ≤ x.length ∧ i.1 ≤ y.length ∧ lexL cmpM x y = lexL cmpM (x.drop i.1) (y.drop i.1))
      (0, _) ⟨Nat.zero_le _, Nat.zero_le _, by simp⟩ (Sub.app (l := [_, _, _, _]) (H := []) ⟨rfl, rfl, rfl, rfl, trivial⟩ (fun κ v h => nomatch h)) ?_
    rintro ⟨i, e⟩ ⟨hi1, hi2, hl⟩
    simp only at hi1 hi2 hl ⊢
    repeat' (first|refine zS ?_|refine zR ?_|refine zE tab_ok rfl rfl ?_|refine zN ?_|(refine zG rfl rfl (fun _ => ?_) fun _ => ?_)<;>refine zE tab_ok rfl rfl ?_|(refine zC rfl (fun _ => ?_) fun _ => ?_)<;>try (rename_i h; cases h; done)|refine zB ?_|refine zK ?_|refine zZ ⟨_, rfl, ?_⟩)
    all_goals simp only [decide_eq_true_eq, decide_eq_false_iff_not, List.length_map] at *
    · have h1 : i < x.length := by omega
      have h2 : i < y.length := by omega
      rw [lex_step cmpM x y i h1 h2] at hl
      refine Tr.drawn ( zD tab_ok rfl rfl <| zD tab_ok rfl rfl <| zO rfl (fun q K hK => zI (x := strT x[i]) tab_ok rfl (by omega) (by simp [h1]) rfl (zN hK)) <| zD tab_ok rfl rfl <| zD tab_ok rfl rfl <| zD tab_ok rfl rfl <| zO rfl (fun q K hK => zI (x := strT y[i]) tab_ok rfl (by omega) (by simp [h2]) rfl (zN hK)) <| zD tab_ok rfl rfl <| DSq.call rfl (fun _ => rfl) (refMarks_ok x[i] y[i] (Nat.le_trans (sx _ (List.getElem_mem h1)) hv1)) <| zD tab_ok rfl rfl <| DSq.nil _) mix_ok rfl ?_
      repeat' (first|refine zS ?_|refine zR ?_|refine zE tab_ok rfl rfl ?_|refine zN ?_|(refine zG rfl rfl (fun _ => ?_) fun _ => ?_)<;>refine zE tab_ok rfl rfl ?_|(refine zC rfl (fun _ => ?_) fun _ => ?_)<;>try (rename_i h; cases h; done)|refine zB ?_|refine zK ?_|refine zZ ⟨_, rfl, ?_⟩)
      all_goals rename_i h
      all_goals simp only [bne_iff_ne, bne_eq_false_iff_eq] at h
      · rw [hl, if_neg h]
      · exact ⟨(i + 1, _), ⟨by show i + 1 ≤ _; omega, by show i + 1 ≤ _; omega, by rw [hl, if_pos h]⟩, by show x.length - (i + 1) < x.length - i; omega, Sub.app (l := [_, _, _, _]) (H := []) ⟨rfl, rfl, congrArg some (wrapz (by simp only; omega) (by simp only; omega) (by simp only; omega)), rfl, trivial⟩ (fun κ v h => nomatch h)⟩
    all_goals
      refine Tr.exit ?_
      repeat' (first|refine zS ?_|refine zR ?_|refine zE tab_ok rfl rfl ?_|refine zN ?_|(refine zG rfl rfl (fun _ => ?_) fun _ => ?_)<;>refine zE tab_ok rfl rfl ?_|(refine zC rfl (fun _ => ?_) fun _ => ?_)<;>try (rename_i h; cases h; done)|refine zB ?_|refine zK ?_|refine zZ ⟨_, rfl, ?_⟩)
      refine Sq.callv rfl (by_ok (x.map strT).length (y.map strT).length) ?_
      repeat' (first|refine zS ?_|refine zR ?_|refine zE tab_ok rfl rfl ?_|refine zN ?_|(refine zG rfl rfl (fun _ => ?_) fun _ => ?_)<;>refine zE tab_ok rfl rfl ?_|(refine zC rfl (fun _ => ?_) fun _ => ?_)<;>try (rename_i h; cases h; done)|refine zB ?_|refine zK ?_|refine zZ ⟨_, rfl, ?_⟩)
      rw [hl, lex_end cmpM x y i hi1 hi2 (by omega), List.length_map, List.length_map]
end Go.Lg.Tryz

set_option linter.unusedVariables false
set_option linter.unusedSimpArgs false
namespace Go.Lg.Tryz
open Go Go.Proofs Go.RowKit Go.Lib Go.Lg.Sem
end Go.Lg.Tryz

set_option linter.unusedVariables false
set_option linter.unusedSimpArgs false
namespace Go.Lg.Tryz
open Go Go.Proofs Go.RowKit Go.Lib Go.Lg.Sem
theorem eqA_rver (d : Nat) (w : World) (x0 y0 : Int) (x1 y1 : Int) (x2 y2 : Int) (x3 y3 : ByteArray) :
    (Op.equalIn (d + 2) 87 (.agg #[.int .i64 x0, .int .i64 x1, .int .i64 x2, .string x3]) (.agg #[.int .i64 y0, .int .i64 y1, .int .i64 y2, .string y3])).run Tryz.prog w = .ok (x0 == y0 && (x1 == y1 && (x2 == y2 && (x3.toList == y3.toList)))) w := by
  refine eqA_of Tryz.underlying87 (by kernel_rfl) ?_
  refine eqf_cons (by rfl) (by go_simp; rfl) (by go_simp; rfl) (by go_simp) ?_
  refine eqf_cons (by rfl) (by go_simp; rfl) (by go_simp; rfl) (by go_simp) ?_
  refine eqf_cons (by rfl) (by go_simp; rfl) (by go_simp; rfl) (by go_simp) ?_
  exact eqf_last (by rfl) (by go_simp; rfl) (by go_simp; rfl) (by go_simp)
def rngP (l : List Cmp) : Bool := sizedB l.length && l.all cmpRight
theorem rngRight_eq (r : Rng) : rngRight r = (r.all rngP && sizedB r.length) := rfl
theorem cmpRight_z {c : Cmp} (h : c.op = 0) : cmpRight c = cmpIsZero c := by unfold cmpRight; rw [if_pos h]
theorem cmpRight_n {c : Cmp} (h : c.op ≠ 0) : cmpRight c = (decide (c.op > 0) && (decide (c.op ≤ 7) && c.v.right)) := by unfold cmpRight; rw [if_neg h]
theorem refRngRight_ok (r : Rng) (hr : r.ok) (hn : r.length ≤ 1073741824) : Fn Tryz.prog Gw 63 [.tr (rngT r)] [] (· = bool (rngRight r)) := by
  refine Fn.of tab_ok Tryz.func63 rfl (by decide) (by simp [Tryz.f63]) rfl (fun κ v h => by cases h) Gw.below ?_
  repeat' (first|refine zS ?_|refine zR ?_|refine zE tab_ok rfl rfl ?_|refine zN ?_|(refine zG rfl rfl (fun _ => ?_) fun _ => ?_)<;>refine zE tab_ok rfl rfl ?_|(refine zC rfl (fun _ => ?_) fun _ => ?_)<;>try (rename_i h; cases h; done)|refine zB ?_|refine zK ?_|refine zZ ⟨_, rfl, ?_⟩)
  · rename_i h _
    have : sizedB r.length = false := by simp only [List.length_map, decide_eq_true_eq] at h; simp [sizedB]; omega
    rw [rngRight_eq, this, Bool.and_false]
  · rename_i h
    have : sizedB r.length = false := by simp only [List.length_map, decide_eq_true_eq] at h; simp [sizedB]; omega
    rw [rngRight_eq, this, Bool.and_false]
  · rename_i h1 h2
    have hs : sizedB r.length = true := by simp only [List.length_map, decide_eq_false_iff_not] at h1 h2; simp [sizedB]; omega
    rw [rngRight_eq, hs, Bool.and_true]
    refine Tr.loopS (fun i : Nat => [(.s 1, .ptr (.l 1) 0), (.l 1, .blk 93 [.tr (.ls (r.map cmpsT))]), (.s 3, int i)]) (fun i => r.length - i) (fun i => i ≤ r.length ∧ (r.take i).all rngP = true)
      0 ⟨by omega, by simp⟩ (Sub.app (l := [_, _, _]) (H := []) ⟨rfl, rfl, rfl, trivial⟩ (fun κ v h => nomatch h)) ?_
    rintro i ⟨hi, hp⟩
    repeat' (first|refine zS ?_|refine zR ?_|refine zE tab_ok rfl rfl ?_|refine zN ?_|(refine zG rfl rfl (fun _ => ?_) fun _ => ?_)<;>refine zE tab_ok rfl rfl ?_|(refine zC rfl (fun _ => ?_) fun _ => ?_)<;>try (rename_i h; cases h; done)|refine zB ?_|refine zK ?_|refine zZ ⟨_, rfl, ?_⟩)
    · rename_i h
      have hlt : i < r.length := by simp only [List.length_map, decide_eq_true_eq] at h; omega
      obtain ⟨hl1, hl2⟩ := hr r[i] (List.getElem_mem hlt)
      have bad : rngP r[i] = false → r.all rngP = false := fun hb => by
        rw [← Bool.not_eq_true, List.all_eq_true]
        intro h
        rw [h _ (List.getElem_mem hlt)] at hb; cases hb
      obtain ⟨l, hl⟩ : ∃ l, r[i] = l := ⟨_, rfl⟩
      have he : (r.map cmpsT)[i]? = some (cmpsT l) := by rw [List.getElem?_map, List.getElem?_eq_getElem hlt, hl]; rfl
      rw [hl] at hl1 hl2 bad
      refine zI (x := cmpsT l) tab_ok rfl (by omega) (by simpa using he) rfl ?_
      repeat' (first|refine zS ?_|refine zR ?_|refine zE tab_ok rfl rfl ?_|refine zN ?_|(refine zG rfl rfl (fun _ => ?_) fun _ => ?_)<;>refine zE tab_ok rfl rfl ?_|(refine zC rfl (fun _ => ?_) fun _ => ?_)<;>try (rename_i h; cases h; done)|refine zB ?_|refine zK ?_|refine zZ ⟨_, rfl, ?_⟩)
      all_goals first | (refine zI (x := cmpsT l) tab_ok rfl (by omega) (by simpa using he) rfl ?_) | skip
      all_goals repeat' (first|refine zS ?_|refine zR ?_|refine zE tab_ok rfl rfl ?_|refine zN ?_|(refine zG rfl rfl (fun _ => ?_) fun _ => ?_)<;>refine zE tab_ok rfl rfl ?_|(refine zC rfl (fun _ => ?_) fun _ => ?_)<;>try (rename_i h; cases h; done)|refine zB ?_|refine zK ?_|refine zZ ⟨_, rfl, ?_⟩)
      · rename_i h _
        rw [bad (by simp only [List.length_map, decide_eq_true_eq] at h; unfold rngP; rw [show sizedB (l.length : Int) = false by simp [sizedB]; omega, Bool.false_and])]
      · rename_i h
        rw [bad (by simp only [List.length_map, decide_eq_true_eq] at h; unfold rngP; rw [show sizedB (l.length : Int) = false by simp [sizedB]; omega, Bool.false_and])]
      · rename_i h3 h4
        have hs2 : sizedB l.length = true := by simp only [List.length_map, decide_eq_false_iff_not] at h3 h4; simp [sizedB]; omega
        have ep : rngP l = l.all cmpRight := by unfold rngP; rw [hs2, Bool.true_and]
        refine Tr.loopS (fun k : Nat => [(.s 1, .ptr (.l 1) 0), (.l 1, .blk 93 [.tr (.ls (r.map cmpsT))]), (.s 3, int i), (.s 4, int k)]) (fun k => l.length - k) (fun k => k ≤ l.length ∧ (l.take k).all cmpRight = true)
          0 ⟨by omega, by simp⟩ (Sub.app (l := [_, _, _, _]) (H := []) ⟨rfl, rfl, rfl, rfl, trivial⟩ (fun κ v h => nomatch h)) ?_
        rintro k ⟨hk, hq⟩
        repeat' (first|refine zS ?_|refine zR ?_|refine zE tab_ok rfl rfl ?_|refine zN ?_|(refine zG rfl rfl (fun _ => ?_) fun _ => ?_)<;>refine zE tab_ok rfl rfl ?_|(refine zC rfl (fun _ => ?_) fun _ => ?_)<;>try (rename_i h; cases h; done)|refine zB ?_|refine zK ?_|refine zZ ⟨_, rfl, ?_⟩)
        refine zI (x := cmpsT l) tab_ok rfl (by omega) (by simpa using he) rfl ?_
        repeat' (first|refine zS ?_|refine zR ?_|refine zE tab_ok rfl rfl ?_|refine zN ?_|(refine zG rfl rfl (fun _ => ?_) fun _ => ?_)<;>refine zE tab_ok rfl rfl ?_|(refine zC rfl (fun _ => ?_) fun _ => ?_)<;>try (rename_i h; cases h; done)|refine zB ?_|refine zK ?_|refine zZ ⟨_, rfl, ?_⟩)
        · rename_i h5
          have hk2 : k < l.length := by simp only [List.length_map, decide_eq_true_eq] at h5; omega
          obtain ⟨c, hc⟩ : ∃ c, l[k] = c := ⟨_, rfl⟩
          have hcm : c ∈ l := hc ▸ List.getElem_mem hk2
          have hce : (l.map Cmp.t)[k]? = some (Cmp.t c) := by rw [List.getElem?_map, List.getElem?_eq_getElem hk2, hc]; rfl
          have bad2 : cmpRight c = false → r.all rngP = false := fun hb => bad (by
            rw [ep, ← Bool.not_eq_true, List.all_eq_true]
            intro h
            rw [h _ hcm] at hb; cases hb)
          have good : cmpRight c = true → (l.take (k + 1)).all cmpRight = true := fun hb => by
            rw [List.take_succ_eq_append_getElem hk2, List.all_append, hq, hc]; simp [hb]
          refine zI (x := cmpsT l) tab_ok rfl (by omega) (by simpa using he) rfl ?_
          repeat' (first|refine zS ?_|refine zR ?_|refine zE tab_ok rfl rfl ?_|refine zN ?_|(refine zG rfl rfl (fun _ => ?_) fun _ => ?_)<;>refine zE tab_ok rfl rfl ?_|(refine zC rfl (fun _ => ?_) fun _ => ?_)<;>try (rename_i h; cases h; done)|refine zB ?_|refine zK ?_|refine zZ ⟨_, rfl, ?_⟩)
          refine zI (x := Cmp.t c) tab_ok rfl (by omega) (by simpa using hce) rfl ?_
          repeat' (first|refine zS ?_|refine zR ?_|refine zE tab_ok rfl rfl ?_|refine zN ?_|(refine zG rfl rfl (fun _ => ?_) fun _ => ?_)<;>refine zE tab_ok rfl rfl ?_|(refine zC rfl (fun _ => ?_) fun _ => ?_)<;>try (rename_i h; cases h; done)|refine zB ?_|refine zK ?_|refine zZ ⟨_, rfl, ?_⟩)
          all_goals first | (refine Sq.eqag rfl (by kernel_rfl) (fun w => eqA_rver 9998 w _ _ _ _ _ _ _ _) ?_) | skip
          all_goals repeat' (first|refine zS ?_|refine zR ?_|refine zE tab_ok rfl rfl ?_|refine zN ?_|(refine zG rfl rfl (fun _ => ?_) fun _ => ?_)<;>refine zE tab_ok rfl rfl ?_|(refine zC rfl (fun _ => ?_) fun _ => ?_)<;>try (rename_i h; cases h; done)|refine zB ?_|refine zK ?_|refine zZ ⟨_, rfl, ?_⟩)
          all_goals first | (refine Sq.callv rfl (refRight_ok c.v (hl2 c hcm)) ?_) | skip
          all_goals repeat' (first|refine zS ?_|refine zR ?_|refine zE tab_ok rfl rfl ?_|refine zN ?_|(refine zG rfl rfl (fun _ => ?_) fun _ => ?_)<;>refine zE tab_ok rfl rfl ?_|(refine zC rfl (fun _ => ?_) fun _ => ?_)<;>try (rename_i h; cases h; done)|refine zB ?_|refine zK ?_|refine zZ ⟨_, rfl, ?_⟩)
          all_goals clear hce he hq hp h1 h2 h3 h4 h5 hs hs2 h hr hn hl2 hl hcm
          all_goals simp only [eqSg_t, eqSg_f, ba_toList, decide_eq_true_eq, decide_eq_false_iff_not, beq_iff_eq, beq_eq_false_iff_ne, Bool.not_eq_true', Bool.not_eq_false'] at *
          all_goals first
            | (refine ⟨k + 1, ⟨by omega, good ?_⟩, by omega, Sub.app (l := [_, _, _, _]) (H := []) ⟨rfl, rfl, rfl, congrArg some (wrapz (by omega) (by omega) (by omega)), trivial⟩ (fun κ v h => nomatch h)⟩
               clear bad bad2 good
               by_cases h0 : c.op = 0
               · rw [cmpRight_z h0]; simp_all [cmpIsZero]
               · rw [cmpRight_n h0]; simp_all <;> omega)
            | (rw [bad2 ?_]
               clear bad bad2 good
               by_cases h0 : c.op = 0
               · rw [cmpRight_z h0]; simp_all [cmpIsZero] <;> omega
               · rw [cmpRight_n h0]; simp_all <;> omega)
            | (exfalso
               have hz : cmpIsZero c = true := by
                 unfold cmpIsZero
                 rename_i h7 h8 _
                 rw [h7]; exact h8
               have h9 := zero_right hz
               simp_all)
        · rename_i h5
          have hk2 : l.length ≤ k := by simp only [List.length_map, decide_eq_false_iff_not] at h5; omega
          rw [List.take_of_length_le hk2] at hq
          refine Tr.exit ?_
          repeat' (first|refine zS ?_|refine zR ?_|refine zE tab_ok rfl rfl ?_|refine zN ?_|(refine zG rfl rfl (fun _ => ?_) fun _ => ?_)<;>refine zE tab_ok rfl rfl ?_|(refine zC rfl (fun _ => ?_) fun _ => ?_)<;>try (rename_i h; cases h; done)|refine zB ?_|refine zK ?_|refine zZ ⟨_, rfl, ?_⟩)
          refine ⟨i + 1, ⟨by omega, ?_⟩, by omega, Sub.app (l := [_, _, _]) (H := []) ⟨rfl, rfl, congrArg some (wrapz (by omega) (by omega) (by omega)), trivial⟩ (fun κ v h => nomatch h)⟩
          rw [List.take_succ_eq_append_getElem hlt, List.all_append, hp, hl]; simp [ep, hq]
    · rename_i h
      have hge : r.length ≤ i := by simp only [List.length_map, decide_eq_false_iff_not] at h; omega
      rw [List.take_of_length_le hge] at hp
      refine Tr.exit ?_
      repeat' (first|refine zS ?_|refine zR ?_|refine zE tab_ok rfl rfl ?_|refine zN ?_|(refine zG rfl rfl (fun _ => ?_) fun _ => ?_)<;>refine zE tab_ok rfl rfl ?_|(refine zC rfl (fun _ => ?_) fun _ => ?_)<;>try (rename_i h; cases h; done)|refine zB ?_|refine zK ?_|refine zZ ⟨_, rfl, ?_⟩)
      rw [hp]
end Go.Lg.Tryz

set_option linter.unusedVariables false
set_option linter.unusedSimpArgs false
namespace Go.Lg.Sem
open Go Go.Lib
def Cmp.zero : Cmp := ⟨0, Ver.zero⟩
def sp : ByteArray := ⟨#[32]⟩
end Go.Lg.Sem

set_option linter.unusedVariables false
set_option linter.unusedSimpArgs false
namespace Go.Lg.Sem
open Go Go.Lib
theorem plain_ok_of {m : Nat} {r : Rng} (h : plainR m r = true) (hm : m ≤ 1000) : r.ok ∧ r.length ≤ m ∧ ∀ l, l ∈ r → l.length ≤ m := by
  unfold plainR at h
  rw [Bool.and_eq_true, List.all_eq_true] at h
  have h2 : ∀ l, l ∈ r → l.length ≤ m ∧ ∀ c, c ∈ l → c.v.p.size ≤ 100 := fun l hl => by
    have := h.2 l hl
    unfold plainL at this
    rw [Bool.and_eq_true, List.all_eq_true] at this
    refine ⟨of_decide_eq_true this.1, fun c hc => ?_⟩
    have := this.2 c hc
    unfold plainC at this
    exact of_decide_eq_true this
  refine ⟨fun l hl => ⟨?_, fun c hc => ?_⟩, of_decide_eq_true h.1, fun l hl => (h2 l hl).1⟩
  · have := (h2 l hl).1; omega
  · have := (h2 l hl).2 c hc
    show c.v.p.size ≤ 1000000000
    omega
end Go.Lg.Sem

set_option linter.unusedVariables false
set_option linter.unusedSimpArgs false
namespace Go.Lg.Sem
open Go
structure Nd where
  s : Int
  r : Rng
structure Rls where
  v : Ver
  level : Int
  needs : List Nd
structure Svc where
  name : ByteArray
  rels : List Rls
abbrev Ctl := List Svc
def Nd.small (n : Nd) : Bool := plainR 12 n.r
def Rls.small (r : Rls) : Bool := decide (r.needs.length ≤ 12) && decide (r.v.p.size ≤ 100) && r.needs.all Nd.small
def Svc.small (s : Svc) : Bool := decide (s.name.size ≤ 100) && decide (s.rels.length ≤ 16) && s.rels.all Rls.small
def smallC (c : Ctl) : Bool := decide (c.length ≤ 16) && c.all Svc.small
theorem Nd.of_small {n : Nd} (h : n.small = true) : n.r.ok ∧ n.r.length ≤ 12 ∧ ∀ l, l ∈ n.r → l.length ≤ 12 := plain_ok_of h (by omega)
theorem Rls.of_small {r : Rls} (h : r.small = true) : r.needs.length ≤ 12 ∧ r.v.p.size ≤ 100 ∧ ∀ n, n ∈ r.needs → n.small = true := by
  simp only [Rls.small, Bool.and_eq_true, decide_eq_true_eq, List.all_eq_true] at h; exact ⟨h.1.1, h.1.2, h.2⟩
theorem Svc.of_small {s : Svc} (h : s.small = true) : s.name.size ≤ 100 ∧ s.rels.length ≤ 16 ∧ ∀ r, r ∈ s.rels → r.small = true := by
  simp only [Svc.small, Bool.and_eq_true, decide_eq_true_eq, List.all_eq_true] at h; exact ⟨h.1.1, h.1.2, h.2⟩
theorem smallC_of {c : Ctl} (h : smallC c = true) : c.length ≤ 16 ∧ ∀ s, s ∈ c → s.small = true := by
  simp only [smallC, Bool.and_eq_true, decide_eq_true_eq, List.all_eq_true] at h; exact h
theorem Rls.ok_of {r : Rls} (h : r.small = true) : r.v.ok := by
  have := (Rls.of_small h).2.1
  show r.v.p.size ≤ 1000000000
  omega
def asksN (l : List Nd) (j : Int) : Bool := l.any fun n => n.s == j
def asksS (s : Svc) (j : Int) : Bool := s.rels.any fun r => asksN r.needs j
def asks (c : Ctl) (i : Nat) (j : Int) : Bool := match c[i]? with
  | some s => asksS s j
  | none => false
def pairB (c : Ctl) (i j : Int) : Bool := decide (0 ≤ i) && decide (0 ≤ j) && decide (i < c.length) && decide (j < c.length) && (i != j)
def linkedC (c : Ctl) (i j : Int) : Bool := pairB c i j && (asks c i.toNat j || asks c j.toNat i)
theorem pairB_of {c : Ctl} {i j : Int} (h : pairB c i j = true) : 0 ≤ i ∧ 0 ≤ j ∧ i < c.length ∧ j < c.length ∧ i ≠ j := by
  simp only [pairB, Bool.and_eq_true, decide_eq_true_eq, bne_iff_ne] at h; omega
def metB (r : Rls) (j : Int) (v : Ver) : Bool := !(r.needs.any fun n => n.s == j && !(hasR n.r v))
def relAt (c : Ctl) (i v : Int) : Option Rls := match c[i.toNat]? with
  | some s => if 0 ≤ v then s.rels[v.toNat]? else none
  | none => none
def fitsB (c : Ctl) (i v j w : Int) : Bool := pairB c i j && match relAt c i v, relAt c j w with
  | some a, some b => metB a j b.v && metB b i a.v
  | _, _ => false
end Go.Lg.Sem

set_option linter.unusedVariables false
set_option linter.unusedSimpArgs false
namespace Go.Lg
open Go Go.RowKit Go.ChangeShapes Go.WideShapes Go.ChangeAt Go.Joins
def Mall (W : World) : Nat → Nat → Prop := fun b _ => b < W.heap.size
structure RepL (W : World) (ts : List T) (cs : List Value) : Prop where
  len : cs.length = ts.length
  one : ∀ (j : Nat) (v : Value), cs[j]? = some v → v.oneCell' = true
  rep : ∀ (j : Nat) (y : T) (v : Value), ts[j]? = some y → cs[j]? = some v → Rep W (Mall W) y v
section
variable {H : Type} {enc : TypeId × Value → H} {P : Program} {W : World}
def Opens {α : Type} (enc : TypeId × Value → H) (P : Program) (W : World) (t : TypeId) (e : α → List T) : Prop :=
  ∀ (n : Nat) (cs : List Value) (x : DataW H × List MemPlace), DataW.trod enc P W 0 (fun _ => true) true n t cs = some x → ∃ a : α, RepL W (e a) cs
theorem RepL.one_mk {v : Value} {t : T} (h : v.oneCell' = true) (hr : Rep W (Mall W) t v) : RepL W [t] [v] := by
  refine ⟨rfl, fun j u hu => ?_, fun j y u hy hu => ?_⟩
  · cases j with
    | zero => simp at hu; subst hu; exact h
    | succ j => simp at hu
  · cases j with
    | zero => simp at hu hy; subst hu; subst hy; exact hr
    | succ j => simp at hu
theorem opens_int {t : TypeId} {k : IntKind} (ht : P.underlying t = some (.int k)) : Opens enc P W t (fun z : Int => [.sc (.int k z)]) := fun n cs x h => by
  obtain ⟨z, rfl, _⟩ := DataW.trod_int ht h
  exact ⟨z, .one_mk rfl (.sc _ rfl)⟩
theorem opens_string {t : TypeId} (ht : P.underlying t = some .string) : Opens enc P W t (fun s : ByteArray => [.sc (.string s)]) := fun n cs x h => by
  obtain ⟨s, rfl, _⟩ := DataW.trod_string ht h
  exact ⟨s, .one_mk rfl (.sc _ rfl)⟩
theorem opens_slice {α : Type} [Inhabited α] {t e : TypeId} {en : α → List T} (el : α → T) (hel : ∀ a, (el a).cells = en a) (ht : P.underlying t = some (.slice e)) (hc : ∀ a, (en a).length = P.cellsOf e) (hpos : 0 < P.cellsOf e) (hd : Opens enc P W e en) :
    Opens enc P W t (fun l : List α => [.ls (l.map el)]) := fun n cs x h => by
  rcases Go.Deep.open_slice ht h with ⟨rfl, _⟩ | ⟨a, len, cap, m, n', D, Pl, rfl, hb, hl, hm, hmm, _, hx⟩
  · exact ⟨[], .one_mk rfl (.nil _ _)⟩
  · simp only [if_true] at hmm
    subst hmm
    by_cases h0 : len = 0
    · subst h0
      exact ⟨[], .one_mk rfl (.nil _ _)⟩
    obtain ⟨f, hf⟩ := Go.Deep.choose_lt (α := α × List Value) (n := len) (p := fun i v => W.cells? 0 (a.add (i * P.cellsOf e)) (P.cellsOf e) = some v.2 ∧ RepL W (en v.1) v.2) (fun i hi => by
      obtain ⟨cs', h1, h2⟩ := hx i (by omega)
      obtain ⟨v, hv⟩ := hd _ _ _ h2
      exact ⟨(v, cs'), h1, hv⟩)
    have hcell : ∀ i, i < len → ∀ j, j < P.cellsOf e → W.cell? ((a.add (i * P.cellsOf e)).add j) = (f i).2[j]? ∧ (f i).2.length = P.cellsOf e := fun i hi j hj => by
      obtain ⟨_, h3, h4⟩ := World.cells?_some (hf i hi).1
      exact ⟨h4 j hj, h3⟩
    have hspot : a.spot = none := by
      obtain ⟨h1, h2⟩ := hcell 0 (by omega) 0 hpos
      rw [Go.Deep.add_add] at h1
      have h3 : (f 0).2[0]? ≠ none := by rw [List.getElem?_eq_getElem (by omega)]; simp
      rw [← h1] at h3
      unfold World.cell? at h3
      cases hs : a.spot with
      | none => rfl
      | some q =>
        exfalso
        apply h3
        have : (a.add (0 * P.cellsOf e + 0)).spot = some q := by simp [Addr.add, hs]
        split
        · rw [this]; rfl
        · rfl
    obtain ⟨b, off, sp⟩ := a
    simp only at hspot
    subst hspot
    have hcell2 : ∀ i, i < len → ∀ j, j < P.cellsOf e → W.cell? ⟨b, off + i * P.cellsOf e + j, none⟩ = (f i).2[j]? ∧ (f i).2.length = P.cellsOf e := fun i hi j hj => by
      have := hcell i hi j hj
      rw [add_lit, add_lit] at this
      exact this
    have hlt : b < W.heap.size := by
      obtain ⟨h1, h2⟩ := hcell2 0 (by omega) 0 hpos
      rw [List.getElem?_eq_getElem (by omega)] at h1
      exact World.block_lt_of_cell? W _ h1
    refine ⟨(List.range len).map fun i => (f i).1, .one_mk rfl ?_⟩
    have hlen : (((List.range len).map fun i => (f i).1).map el).length = len := by simp
    have := Rep.ls (w := W) (M := Mall W) (((List.range len).map fun i => (f i).1).map el) b off (P.cellsOf e) m (fun i j => (f i).2.getD j undef) (by rw [hlen]; exact hl) (fun x hx => by
        obtain ⟨y, _, rfl⟩ := List.mem_map.1 hx
        rw [hel, hc]) (fun i j hi hj => hlt) (fun i j hi hj => by
        rw [hlen] at hi
        obtain ⟨h1, h2⟩ := hcell2 i hi j hj
        rw [h1, List.getD_eq_getElem?_getD, List.getElem?_eq_getElem (by omega)]; rfl) (fun i j hi hj => by
        rw [hlen] at hi
        obtain ⟨h1, h2⟩ := hcell2 i hi j hj
        have hg : (f i).2[j]? = some (f i).2[j] := List.getElem?_eq_getElem (by omega)
        rw [List.getD_eq_getElem?_getD, hg]
        exact (hf i hi).2.one j _ hg) (fun i j x y hx hy => by
        rw [List.getElem?_map, List.getElem?_map] at hx
        obtain ⟨z, hz, rfl⟩ := Option.map_eq_some_iff.1 hx
        obtain ⟨i', hi', rfl⟩ := Option.map_eq_some_iff.1 hz
        obtain ⟨hji, hi2⟩ := List.getElem?_eq_some_iff.1 hi'
        rw [List.getElem_range] at hi2
        subst hi2
        rw [List.length_range] at hji
        rw [hel] at hy
        have hj : j < P.cellsOf e := by rw [← hc]; exact (List.getElem?_eq_some_iff.1 hy).1
        obtain ⟨h1, h2⟩ := hcell2 i hji j hj
        have hg : (f i).2[j]? = some (f i).2[j] := List.getElem?_eq_getElem (by omega)
        rw [List.getD_eq_getElem?_getD, hg]
        exact (hf i hji).2.rep j y _ hy hg)
    rw [hlen] at this
    exact this
theorem RepL.app {ts us : List T} {cs ds : List Value} (h : RepL W ts cs) (k : RepL W us ds) : RepL W (ts ++ us) (cs ++ ds) := by
  refine ⟨by simp [h.len, k.len], fun j v hv => ?_, fun j y v hy hv => ?_⟩
  · rcases Nat.lt_or_ge j cs.length with hj | hj
    · rw [List.getElem?_append_left hj] at hv; exact h.one j v hv
    · rw [List.getElem?_append_right hj] at hv; exact k.one _ v hv
  · rcases Nat.lt_or_ge j cs.length with hj | hj
    · rw [List.getElem?_append_left hj] at hv
      rw [List.getElem?_append_left (by rw [← h.len]; exact hj)] at hy
      exact h.rep j y v hy hv
    · rw [List.getElem?_append_right hj] at hv
      rw [List.getElem?_append_right (by rw [← h.len]; exact hj), ← h.len] at hy
      exact k.rep _ y v hy hv
def OpensF {α : Type} (enc : TypeId × Value → H) (P : Program) (W : World) (fs : List Field) (off : Nat) (e : α → List T) : Prop :=
  ∀ (n : Nat) (cs : List Value), cs.length = off + (fs.map fun f => P.cellsOf f.type).sum → (∀ f, f ∈ fs → ∃ x, DataW.trod enc P W 0 (fun _ => true) true n f.type ((cs.drop f.offset).take (P.cellsOf f.type)) = some x) → ∃ a : α, RepL W (e a) (cs.drop off)
theorem OpensF.nil {off : Nat} : OpensF enc P W [] off (fun _ : Unit => []) := fun n cs hl _ => ⟨(), by
  rw [List.drop_of_length_le (by simp at hl; omega)]
  exact ⟨rfl, fun j v hv => by simp at hv, fun j y v hy hv => by simp at hv⟩⟩
theorem OpensF.cons {α β : Type} {f : Field} {fs : List Field} {off k : Nat} {e : α → List T} {e2 : β → List T} (ho : f.offset = off) (hk : P.cellsOf f.type = k) (hd : Opens enc P W f.type e) (h : OpensF enc P W fs (off + k) e2) :
    OpensF enc P W (f :: fs) off (fun p : α × β => e p.1 ++ e2 p.2) := fun n cs hl hx => by
  subst ho; subst hk
  obtain ⟨x, hx1⟩ := hx f (List.mem_cons_self ..)
  obtain ⟨a, ha⟩ := hd _ _ _ hx1
  obtain ⟨b, hb⟩ := h n cs (by simp at hl; omega) (fun g hg => hx g (List.mem_cons_of_mem _ hg))
  refine ⟨(a, b), ?_⟩
  have := ha.app hb
  rwa [← List.drop_drop, List.take_append_drop] at this
theorem opens_struct {α : Type} {t : TypeId} {fs : List Field} {e : α → List T} (ht : P.underlying t = some (.struct fs.toArray)) (hc : P.cellsOf t = (fs.map fun f => P.cellsOf f.type).sum) (h : OpensF enc P W fs 0 e) : Opens enc P W t e := fun n cs x hx => by
  obtain ⟨xs, n', _, _, hl, hlen, hf⟩ := DataW.trod_struct ht hx
  obtain ⟨a, ha⟩ := h n' cs (by omega) (fun f hm => by
    obtain ⟨i, hi, he⟩ := List.getElem_of_mem hm
    have h1 := hf i f (by simp [he, List.getElem?_eq_getElem hi])
    have hi2 : i < xs.length := by rw [hlen]; simpa using hi
    exact ⟨xs[i], by rw [h1]; exact List.getElem?_eq_getElem hi2⟩)
  exact ⟨a, by simpa using ha⟩
theorem Opens.map {α β : Type} {t : TypeId} {e : α → List T} {e' : β → List T} (g : α → β) (hg : ∀ a, e' (g a) = e a) (h : Opens enc P W t e) : Opens enc P W t e' := fun n cs x hx => by
  obtain ⟨a, ha⟩ := h n cs x hx
  exact ⟨g a, by rw [hg]; exact ha⟩
theorem arg_ag {α : Type} {t : TypeId} {e : α → List T} (h : Opens enc P W t e) {v : Value} {cs : Array Value} (hv : v = .agg cs) {d : DataW H} {p : List MemPlace} (ht : DataW.Trod enc P W 0 (fun _ => true) true t v d p) : ∃ a : α, Rep W (Mall W) (.ag (e a)) v := by
  subst hv
  obtain ⟨n, hn⟩ := ht
  obtain ⟨a, ha⟩ := h _ _ _ hn
  have ha : RepL W (e a) cs.toList := ha
  exact ⟨a, .ag _ _ (by simpa using ha.len) (fun i v hv => ha.one i v (by simpa using hv)) (fun i x v hx hv => ha.rep i x v hx (by simpa using hv))⟩
theorem arg_one {α : Type} {t : TypeId} {e : α → T} (h : Opens enc P W t (fun a => [e a])) {v : Value} (hv : v.cells.toList = [v]) {d : DataW H} {p : List MemPlace} (ht : DataW.Trod enc P W 0 (fun _ => true) true t v d p) : ∃ a : α, Rep W (Mall W) (e a) v := by
  obtain ⟨n, hn⟩ := ht
  obtain ⟨a, ha⟩ := h _ _ _ hn
  rw [hv] at ha
  exact ⟨a, ha.rep 0 _ _ rfl rfl⟩
theorem Fn.row {G : World → Prop} {f : FuncId} {ts : List T} {r : AV} {v : Value} (hf : Fn P G f (ts.map .tr) [] (· = r)) (hr : pvA r = some v) {cargs : Array Value} (hs : cargs.size = ts.length) (ha : ∀ (i : Nat) (t : T) (u : Value), ts[i]? = some t → cargs[i]? = some u → Rep W (Mall W) t u) (hG : G W) :
    Calls P f cargs W fun e W' => e = .returned v ∧ Below W.heap.size W W' := by
  have hp : CPre P (Mall W) (fun _ _ => none) (ts.map .tr) [] cargs W :=
    { size := by simp [hs], arg := fun i x u hx hu => by
        rw [List.getElem?_map] at hx
        obtain ⟨t, ht, rfl⟩ := Option.map_eq_some_iff.1 hx
        exact .tr _ _ (ha i t u ht hu)
      blk := fun κ v h => (nomatch h), only := fun _ _ _ h => (nomatch h), inj := fun _ _ _ _ _ h => (nomatch h), lt := fun _ _ _ h => (nomatch h), mlt := fun _ _ h => h }
  refine (hf.2 (Mall W) (fun _ _ => none) W cargs hG hp).mono ?_
  rintro e w' ⟨cv, rfl, hb, M', r', o, rfl, -, -, -, -, hs⟩
  exact ⟨by rw [pvA_uniq hr hs], hb⟩
end
end Go.Lg

namespace Go.Lg.Cuts
open Go Go.RowKit
structure Keeps (S : Nat → Prop) (W W' : World) : Prop where
  size : W.heap.size ≤ W'.heap.size
  block : ∀ r, S r → r < W.heap.size → W'.heap[r]? = W.heap[r]?
theorem Keeps.refl (S : Nat → Prop) (W : World) : Keeps S W W := ⟨Nat.le_refl _, fun _ _ _ => rfl⟩
theorem Keeps.trans {S : Nat → Prop} {A W C : World} (h : Keeps S A W) (k : Keeps S W C) : Keeps S A C :=
  ⟨Nat.le_trans h.size k.size, fun r hb hr => (k.block r hb (Nat.lt_of_lt_of_le hr h.size)).trans (h.block r hb hr)⟩
theorem Keeps.mono {S S' : Nat → Prop} {A W : World} (h : Keeps S A W) (hs : ∀ r, S' r → S r) : Keeps S' A W := ⟨h.size, fun r hb hr => h.block r (hs r hb) hr⟩
theorem Keeps.below {S : Nat → Prop} {A W : World} (h : Below A.heap.size A W) : Keeps S A W := ⟨h.size, fun r _ hr => h.block r hr⟩
theorem Keeps.alloc (S : Nat → Prop) (W : World) (o : Obj) : Keeps S W (W.alloc o) := Keeps.below ((Below.refl _ W).alloc (Nat.le_refl _) o)
theorem Keeps.cell {S : Nat → Prop} {W W' : World} (h : Keeps S W W') {p : Addr} {v : Value} (hb : S p.block) (hc : W.cell? p = some v) : W'.cell? p = some v := by
  have hlt := World.block_lt_of_cell? W p hc
  unfold World.cell? at hc ⊢
  rw [h.block _ hb hlt]; exact hc
def Shape (W W' : World) : Prop := ∀ (b : Nat) (cs : Array Value) (ty : TypeId) (z : Nat × Nat), W.heap[b]? = some (Obj.cells cs ty z) → ∃ cs' : Array Value, W'.heap[b]? = some (Obj.cells cs' ty z) ∧ cs'.size = cs.size
theorem Shape.setCell (W : World) (p : Addr) (v : Value) : Shape W (W.setCell p v) := fun b cs ty z h => by
  simp only [World.setCell, Array.getElem?_modify, h]
  by_cases e : p.block = b
  · rw [if_pos e]
    refine ⟨_, rfl, ?_⟩
    split <;> simp
  · rw [if_neg e]; exact ⟨cs, rfl, rfl⟩
theorem Shape.alloc (W : World) (o : Obj) : Shape W (W.alloc o) := fun b cs ty z h => ⟨cs, (Below.heap_alloc _ _ _ (Array.getElem?_eq_some_iff.1 h).1).trans h, rfl⟩
theorem Shape.put {W : World} {l : Nat} {o : Obj} (o' : Obj) (hl : W.heap[l]? = some o) (hc : o.isCells = false) : Shape W (W.putObj l o') := fun b cs ty z h => by
  by_cases e : b = l
  · subst e; rw [h] at hl; obtain rfl := Option.some.inj hl; cases hc
  · exact ⟨cs, (World.putObj_heap_other e).trans h, rfl⟩
def Turn (b : Nat) (W W' : World) : Prop := W.grownBy W' (some b) ∧ Shape W W'
def Harm (b E : Nat) (W W' : World) : Prop := ∃ row, W.grownBy W' row ∧ Shape W W' ∧ ∀ r, row = some r → r = b ∨ (E ≤ r ∧ ∃ o o', W.heap[r]? = some o ∧ W'.heap[r]? = some o' ∧ o.isCells = false ∧ o'.isCells = false)
def Hold (b E : Nat) (I : Nat → World → Prop) : Prop := ∀ k W W', I k W → Harm b E W W' → I k W'
def HoldB (b : Nat) (I : Nat → World → Prop) : Prop := ∀ k W W', I k W → Turn b W W' → I k W'
theorem Hold.and {b E : Nat} {I I' : Nat → World → Prop} (h : Hold b E I) (h' : Hold b E I') : Hold b E (fun k W => I k W ∧ I' k W) :=
  fun k W W' hs hg => ⟨h k W W' hs.1 hg, h' k W W' hs.2 hg⟩
theorem Hold.pure (b E : Nat) (p : Nat → Prop) : Hold b E (fun k _ => p k) := fun _ _ _ h _ => h
theorem grownBy_put (W : World) (l : Nat) (o : Obj) : W.grownBy (W.putObj l o) (some l) := grownBy_putObj' W l o
theorem Hold.put {b E : Nat} {I : Nat → World → Prop} (h : Hold b E I) {k : Nat} {W : World} {l : Nat} {o : Obj} (o' : Obj) (hi : I k W) (he : E ≤ l) (hl : W.heap[l]? = some o) (hc : o.isCells = false) (hc' : o'.isCells = false) : I k (W.putObj l o') :=
  h k W _ hi ⟨some l, grownBy_put W l o', Shape.put o' hl hc, fun r e => .inr (by cases e; exact ⟨he, o, o', hl, World.putObj_heap_same (Array.getElem?_eq_some_iff.1 hl).1, hc, hc'⟩)⟩
theorem Hold.new {b E : Nat} {I : Nat → World → Prop} (h : Hold b E I) {k : Nat} {W : World} (o : Obj) (hi : I k W) : I k (W.alloc o) :=
  h k W _ hi ⟨none, ((Below.refl _ W).alloc (Nat.le_refl _) o) |> fun hb => ⟨hb.os, hb.tape, hb.output, hb.size, fun i hi _ => hb.block i hi⟩, Shape.alloc _ _, fun r e => by cases e⟩
def cutPost (S : Nat → Prop) (I : Nat → World → Prop) (Ix : Code → Nat → World → Prop) (k : Nat) (W : World) : Exit → Act → World → Prop
  | .normal, _, W' => Keeps S W W' ∧ I (k + 1) W'
  | .ret, _, W' => Keeps S W W' ∧ Ix .ret (k + 1) W'
  | .exit id, _, W' => Keeps S W W' ∧ Ix (.exit id) (k + 1) W'
  | .goto t, _, W' => Keeps S W W' ∧ Ix (.goto t) (k + 1) W'
  | .panic _, _, _ => False
  | .outgrown, _, _ => False
def Iter (F : Fence) (n : Nat) (P : Program) (gf : Nat) (lb : Array Value) (S : Nat → Prop) (B : Nat) (xs : List Value) (w : World) : Prop :=
  ∀ (l : Nat) (J Jx : Nat → World → Prop) (W : World), Keeps S w W → HoldB B J → HoldB B Jx →
    (∀ k W1 v, J k W1 → xs[k]? = some v → YieldAt F (n - 1) P l #[v] W1 fun e W' => (e = .returned (.bool true) ∧ J (k + 1) W' ∧ Keeps S W1 W') ∨ (e = .returned (.bool false) ∧ Jx (k + 1) W')) →
    J 0 W →
    CallsIn F n P gf (#[.func (.yield l) #[] #[]] ++ lb) W fun e W' => (∃ v, e = .returned v) ∧ (J xs.length W' ∨ ∃ k, Jx k W')
variable {F : Fence} {n : Nat} {P : Program}
theorem range_cuts {g : Operand} {ps : Array Tmp} {assign body : Code} {Q : Exit → Act → World → Prop} {a : Act} {w : World}
    (hro : F.round = none) (h1 : 1 ≤ n) {gf : Nat} {lb : Array Value} (hg : a.eval g = .func (.func gf) #[] lb) (hFg : F.fn gf) (eg : ∀ args w, (callFunc gf args).run P w = .ok (.enter gf args) w)
    {S : Nat → Prop} {B : Nat} {xs : List Value} (hS : ∀ r, S r → r < w.heap.size) (hB : B < w.heap.size) (hseq : Iter F (n - 1) P gf lb S B xs w) (hps : ps.size = 1)
    (I : Nat → World → Prop) (Ix : Code → Nat → World → Prop) (hI : Hold B w.heap.size I) (hIx : ∀ c, Hold B w.heap.size (Ix c)) (h0 : I 0 w) (a₁ : Value → Act)
    (hassign : ∀ (l : Nat) (v : Value) (W : World) (K : Act → World → Prop), K (a₁ v) W →
      assign.wpIn (F.inRound l) (n - 1 - 1) P (Exit.then K (fun _ _ _ => False)) { tmps := (ps.zip #[v]).foldl (fun t (p, v) => t.setIfInBounds p v) a.tmps, defers := [] } W)
    (hbody : ∀ (l k : Nat) (v : Value) (W : World), I k W → xs[k]? = some v → w.heap.size + 1 < W.heap.size → l = w.heap.size + 1 → (∃ r, W.heap[l]? = some (.loop r)) → W.heap[w.heap.size]? = some (.deferred (some [])) → body.wpIn (F.inRound l) (n - 1 - 1) P (cutPost (fun r => S r ∨ r = w.heap.size ∨ r = w.heap.size + 1) I Ix k W) (a₁ v) W)
    (hdone : ∀ (D : Nat) (W : World), I xs.length W → W.heap[D]? = some (.deferred (some [])) → w.heap.size ≤ D → Q .normal { a with defers := { target := .collected D, args := #[] } :: a.defers } W)
    (hstop : ∀ (D : Nat) (c : Code) (k : Nat) (W : World), Ix c k W → W.heap[D]? = some (.deferred (some [])) → w.heap.size ≤ D → c.wpIn F n P Q { a with defers := { target := .collected D, args := #[] } :: a.defers } W) :
    (Code.rangeFunc g ps assign body).wpIn F n P Q a w := by
  refine wpIn_rangeFunc ?_
  intro fn hfn
  rw [hro]
  obtain ⟨rec, hrec⟩ : ∃ rec : LoopState → Option Code → Loop, rec = fun st pe => { state := st, pending := pe, fn, tmps := a.tmps, params := ps, assign, body, defers := w.heap.size } := ⟨_, rfl⟩
  obtain ⟨W1, hW1⟩ : ∃ W1, (w.alloc (.deferred (some []))).alloc (.loop (rec .ready none)) = W1 := ⟨_, rfl⟩
  have hz1 : W1.heap.size = w.heap.size + 2 := by rw [← hW1]; simp
  have hL1 : W1.heap[w.heap.size + 1]? = some (.loop (rec .ready none)) := by
    rw [← hW1]; have := World.alloc_heap_new (w.alloc (.deferred (some []))) (.loop (rec .ready none)); rwa [World.size_alloc] at this
  have hK1 : W1.heap[w.heap.size]? = some (.deferred (some [])) := by
    rw [← hW1]; exact (Below.heap_alloc _ _ _ (by simp)).trans (World.alloc_heap_new w _)
  have hI1 : I 0 W1 := by rw [← hW1]; exact hI.new _ (hI.new _ h0)
  have hk1 : Keeps S w W1 := by rw [← hW1]; exact (Keeps.alloc _ _ _).trans (Keeps.alloc _ _ _)
  refine ⟨w.heap.size + 1, [{ target := .collected w.heap.size, args := #[] }], W1, { target := .fn (.func gf) lb, args := #[.func (.yield (w.heap.size + 1)) #[] #[]] }, W1, gf,
    #[.func (.yield (w.heap.size + 1)) #[] #[]] ++ lb, W1, ?_, ?_, ?_, ?_, fun _ => h1, ?_⟩
  · rw [← hW1, hrec]; exact run_enterLoop_outer _ _ _ _ _
  · simp only [resolve, hg]
    simp [go_sem]
  · intro f' hf'; simp [Target.leads] at hf'; subst hf'; exact hFg
  · simp [invoke, go_sem, eg]
  · -- the invariant with the loop's two blocks beside it
    have hgb : ∀ {W W' : World}, Turn B W W' → Harm B w.heap.size W W' := fun h => ⟨some B, h.1, h.2, fun r e => .inl (by cases e; rfl)⟩
    have hst : ∀ {W W' : World} {r : Nat} {o : Obj}, Turn B W W' → w.heap.size ≤ r → W.heap[r]? = some o → W'.heap[r]? = some o :=
      fun {W W' r o} h hr hl => (h.1.block r (Array.getElem?_eq_some_iff.1 hl).1 (by intro e; cases e; omega)).trans hl
    refine (hseq (w.heap.size + 1)
      (fun k W => I k W ∧ W.heap[w.heap.size + 1]? = some (.loop (rec .ready none)) ∧ W.heap[w.heap.size]? = some (.deferred (some [])))
      (fun k W => ∃ c, Ix c k W ∧ W.heap[w.heap.size + 1]? = some (.loop (rec .done (some c))) ∧ W.heap[w.heap.size]? = some (.deferred (some [])))
      W1 hk1
      (fun k A C hs hg' => ⟨hI k A C hs.1 (hgb hg'), hst hg' (by omega) hs.2.1, hst hg' (Nat.le_refl _) hs.2.2⟩)
      (fun k A C hs hg' => by
        obtain ⟨c, hc, hl, hk⟩ := hs
        exact ⟨c, hIx c k A C hc (hgb hg'), hst hg' (by omega) hl, hst hg' (Nat.le_refl _) hk⟩)
      ?_ ⟨hI1, hL1, hK1⟩).mono ?_
    · -- one round
      rintro k W v ⟨hi, hl, hk⟩ hv
      have hlt : w.heap.size + 1 < W.heap.size := (Array.getElem?_eq_some_iff.1 hl).1
      have hy := run_yield (P := P) (args := #[v]) hl (by rw [hrec]; exact hps.symm)
      rw [hrec] at hy
      refine ⟨fn, _, assign, body, hy, roundIn_of_wpIn hfn (hassign _ v W _ ⟨_, run_beginRound hl (by rw [hrec]), ?_⟩)⟩
      have hl2 : (W.putObj (w.heap.size + 1) (.loop { rec .ready none with state := .busy })).heap[w.heap.size + 1]? = some (.loop { rec .ready none with state := .busy }) := World.putObj_heap_same hlt
      have hk2 : (W.putObj (w.heap.size + 1) (.loop { rec .ready none with state := .busy })).heap[w.heap.size]? = some (.deferred (some [])) := (World.putObj_heap_other (by omega)).trans hk
      have hz2 : (W.putObj (w.heap.size + 1) (.loop { rec .ready none with state := .busy })).heap.size = W.heap.size := World.putObj_size
      have hi2 := hI.put (.loop { rec .ready none with state := .busy }) hi (Nat.le_succ _) hl rfl (by rfl)
      refine wpIn_mono (hbody _ k v _ hi2 hv (by rw [hz2]; omega) rfl ⟨_, hl2⟩ hk2) ?_
      have fin : ∀ (jump : Option Code) (W3 : World), Keeps (fun r => S r ∨ r = w.heap.size ∨ r = w.heap.size + 1) (W.putObj (w.heap.size + 1) (.loop { rec .ready none with state := .busy })) W3 →
          (Instr.endRound (w.heap.size + 1) jump).run P W3 = .ok (.bool jump.isNone) (W3.putObj (w.heap.size + 1) (.loop (rec (if jump.isNone then .ready else .done) jump))) ∧
          W3.heap[w.heap.size + 1]? = some (.loop { rec .ready none with state := .busy }) ∧
          (W3.putObj (w.heap.size + 1) (.loop (rec (if jump.isNone then .ready else .done) jump))).heap[w.heap.size + 1]? = some (.loop (rec (if jump.isNone then .ready else .done) jump)) ∧
          (W3.putObj (w.heap.size + 1) (.loop (rec (if jump.isNone then .ready else .done) jump))).heap[w.heap.size]? = some (.deferred (some [])) := fun jump W3 hk3 => by
        have hl3 := (hk3.block _ (.inr (.inr rfl)) (by rw [hz2]; omega)).trans hl2
        have hd3 := (hk3.block _ (.inr (.inl rfl)) (by rw [hz2]; omega)).trans hk2
        have := run_endRound (P := P) jump hl3
        rw [hrec] at this ⊢
        exact ⟨this, by rw [hrec] at hl3; exact hl3, World.putObj_heap_same (Array.getElem?_eq_some_iff.1 hl3).1, (World.putObj_heap_other (by omega)).trans hd3⟩
      have keep : ∀ (W3 : World) (o : Obj), Keeps (fun r => S r ∨ r = w.heap.size ∨ r = w.heap.size + 1) (W.putObj (w.heap.size + 1) (.loop { rec .ready none with state := .busy })) W3 →
          o = .loop (rec .ready none) → Keeps S W (W3.putObj (w.heap.size + 1) o) := fun W3 o hk3 ho => by
        refine ⟨by rw [World.putObj_size]; have := hk3.size; rw [hz2] at this; exact this, fun r hb hr => ?_⟩
        by_cases e : r = w.heap.size + 1
        · subst e; rw [World.putObj_heap_same (Nat.lt_of_lt_of_le hlt (by have := hk3.size; rw [hz2] at this; exact this)), ho]; exact hl.symm
        · rw [World.putObj_heap_other e, hk3.block r (.inl hb) (by rw [hz2]; exact hr), World.putObj_heap_other e]
      rintro e a3 W3 hp
      cases e with
      | normal =>
        obtain ⟨hk3, hi3⟩ := hp
        obtain ⟨hr, hl3, hl4, hk4⟩ := fin none W3 hk3
        exact ⟨_, _, hr, .inl ⟨rfl, ⟨hI.put _ hi3 (Nat.le_succ _) hl3 rfl (by rfl), hl4, hk4⟩, keep W3 _ hk3 (by simp)⟩⟩
      | ret =>
        obtain ⟨hk3, hi3⟩ := hp
        obtain ⟨hr, hl3, hl4, hk4⟩ := fin (some .ret) W3 hk3
        exact ⟨_, _, hr, .inr ⟨rfl, .ret, (hIx _).put _ hi3 (Nat.le_succ _) hl3 rfl (by rfl), hl4, hk4⟩⟩
      | exit id =>
        obtain ⟨hk3, hi3⟩ := hp
        obtain ⟨hr, hl3, hl4, hk4⟩ := fin (some (.exit id)) W3 hk3
        exact ⟨_, _, hr, .inr ⟨rfl, .exit id, (hIx _).put _ hi3 (Nat.le_succ _) hl3 rfl (by rfl), hl4, hk4⟩⟩
      | goto t =>
        obtain ⟨hk3, hi3⟩ := hp
        obtain ⟨hr, hl3, hl4, hk4⟩ := fin (some (.goto t)) W3 hk3
        exact ⟨_, _, hr, .inr ⟨rfl, .goto t, (hIx _).put _ hi3 (Nat.le_succ _) hl3 rfl (by rfl), hl4, hk4⟩⟩
      | panic ch => exact hp.elim
      | outgrown => exact hp.elim
    · -- behind the iterator
      rintro e W2 ⟨⟨v, rfl⟩, (⟨hi, hl, hk⟩ | ⟨k, c, hi, hl, hk⟩)⟩
      · exact ⟨none, _, by have := run_endLoop (P := P) hl (by rw [hrec]; simp); rw [hrec] at this; exact this, hdone _ _ (hI.put _ hi (Nat.le_succ _) hl rfl (by rfl)) ((World.putObj_heap_other (by omega)).trans hk) (Nat.le_refl _)⟩
      · exact ⟨some c, _, by have := run_endLoop (P := P) hl (by rw [hrec]; simp); rw [hrec] at this; exact this, hstop _ c k _ ((hIx c).put _ hi (Nat.le_succ _) hl rfl (by rfl)) ((World.putObj_heap_other (by omega)).trans hk) (Nat.le_refl _)⟩
theorem range_cutsN {l₀ : Nat} {r₀ : Loop} {g : Operand} {ps : Array Tmp} {assign body : Code} {Q : Exit → Act → World → Prop} {a : Act} {w : World}
    (hro : F.round = some l₀) (hl₀ : w.heap[l₀]? = some (.loop r₀)) (h1 : 1 ≤ n) {gf : Nat} {lb : Array Value} (hg : a.eval g = .func (.func gf) #[] lb) (hFg : F.fn gf) (eg : ∀ args w, (callFunc gf args).run P w = .ok (.enter gf args) w)
    {S : Nat → Prop} {B : Nat} {xs : List Value} (hS : ∀ r, S r → r < w.heap.size) (hB : B < w.heap.size) (hseq : Iter F (n - 1) P gf lb S B xs w) (hps : ps.size = 1)
    (I : Nat → World → Prop) (Ix : Code → Nat → World → Prop) (hI : Hold B w.heap.size I) (hIx : ∀ c, Hold B w.heap.size (Ix c)) (h0 : I 0 w) (a₁ : Value → Act)
    (hassign : ∀ (l : Nat) (v : Value) (W : World) (K : Act → World → Prop), K (a₁ v) W →
      assign.wpIn (F.inRound l) (n - 1 - 1) P (Exit.then K (fun _ _ _ => False)) { tmps := (ps.zip #[v]).foldl (fun t (p, v) => t.setIfInBounds p v) a.tmps, defers := [] } W)
    (hbody : ∀ (l k : Nat) (v : Value) (W : World), I k W → xs[k]? = some v → w.heap.size < W.heap.size → l = w.heap.size → (∃ r, W.heap[l]? = some (.loop r)) → body.wpIn (F.inRound l) (n - 1 - 1) P (cutPost (fun r => S r ∨ r = w.heap.size) I Ix k W) (a₁ v) W)
    (hdone : ∀ (W : World), I xs.length W → Q .normal a W)
    (hstop : ∀ (c : Code) (k : Nat) (W : World), Ix c k W → c.wpIn F n P Q a W) :
    (Code.rangeFunc g ps assign body).wpIn F n P Q a w := by
  refine wpIn_rangeFunc ?_
  intro fn hfn
  rw [hro]
  obtain ⟨rec, hrec⟩ : ∃ rec : LoopState → Option Code → Loop, rec = fun st pe => { state := st, pending := pe, fn, tmps := a.tmps, params := ps, assign, body, defers := r₀.defers } := ⟨_, rfl⟩
  obtain ⟨W1, hW1⟩ : ∃ W1, w.alloc (.loop (rec .ready none)) = W1 := ⟨_, rfl⟩
  have hz1 : W1.heap.size = w.heap.size + 1 := by rw [← hW1]; simp
  have hL1 : W1.heap[w.heap.size]? = some (.loop (rec .ready none)) := by rw [← hW1]; exact World.alloc_heap_new w _
  have hI1 : I 0 W1 := by rw [← hW1]; exact hI.new _ h0
  have hk1 : Keeps S w W1 := by rw [← hW1]; exact Keeps.alloc _ _ _
  refine ⟨w.heap.size, [], W1, { target := .fn (.func gf) lb, args := #[.func (.yield w.heap.size) #[] #[]] }, W1, gf,
    #[.func (.yield w.heap.size) #[] #[]] ++ lb, W1, ?_, ?_, ?_, ?_, fun _ => h1, ?_⟩
  · rw [← hW1, hrec]; exact run_enterLoop_inner hl₀ _ _ _ _ _
  · simp only [resolve, hg]
    simp [go_sem]
  · intro f' hf'; simp [Target.leads] at hf'; subst hf'; exact hFg
  · simp [invoke, go_sem, eg]
  · have hgb : ∀ {W W' : World}, Turn B W W' → Harm B w.heap.size W W' := fun h => ⟨some B, h.1, h.2, fun r e => .inl (by cases e; rfl)⟩
    have hst : ∀ {W W' : World} {r : Nat} {o : Obj}, Turn B W W' → w.heap.size ≤ r → W.heap[r]? = some o → W'.heap[r]? = some o :=
      fun {W W' r o} h hr hl => (h.1.block r (Array.getElem?_eq_some_iff.1 hl).1 (by intro e; cases e; omega)).trans hl
    refine (hseq w.heap.size
      (fun k W => I k W ∧ W.heap[w.heap.size]? = some (.loop (rec .ready none)))
      (fun k W => ∃ c, Ix c k W ∧ W.heap[w.heap.size]? = some (.loop (rec .done (some c))))
      W1 hk1
      (fun k A C hs hg' => ⟨hI k A C hs.1 (hgb hg'), hst hg' (Nat.le_refl _) hs.2⟩)
      (fun k A C hs hg' => by
        obtain ⟨c, hc, hl⟩ := hs
        exact ⟨c, hIx c k A C hc (hgb hg'), hst hg' (Nat.le_refl _) hl⟩)
      ?_ ⟨hI1, hL1⟩).mono ?_
    · rintro k W v ⟨hi, hl⟩ hv
      have hlt : w.heap.size < W.heap.size := (Array.getElem?_eq_some_iff.1 hl).1
      have hy := run_yield (P := P) (args := #[v]) hl (by rw [hrec]; exact hps.symm)
      rw [hrec] at hy
      refine ⟨fn, _, assign, body, hy, roundIn_of_wpIn hfn (hassign _ v W _ ⟨_, run_beginRound hl (by rw [hrec]), ?_⟩)⟩
      have hl2 : (W.putObj w.heap.size (.loop { rec .ready none with state := .busy })).heap[w.heap.size]? = some (.loop { rec .ready none with state := .busy }) := World.putObj_heap_same hlt
      have hz2 : (W.putObj w.heap.size (.loop { rec .ready none with state := .busy })).heap.size = W.heap.size := World.putObj_size
      have hi2 := hI.put (.loop { rec .ready none with state := .busy }) hi (Nat.le_refl _) hl rfl (by rfl)
      refine wpIn_mono (hbody _ k v _ hi2 hv (by rw [hz2]; omega) rfl ⟨_, hl2⟩) ?_
      have fin : ∀ (jump : Option Code) (W3 : World), Keeps (fun r => S r ∨ r = w.heap.size) (W.putObj w.heap.size (.loop { rec .ready none with state := .busy })) W3 →
          (Instr.endRound w.heap.size jump).run P W3 = .ok (.bool jump.isNone) (W3.putObj w.heap.size (.loop (rec (if jump.isNone then .ready else .done) jump))) ∧
          W3.heap[w.heap.size]? = some (.loop { rec .ready none with state := .busy }) ∧
          (W3.putObj w.heap.size (.loop (rec (if jump.isNone then .ready else .done) jump))).heap[w.heap.size]? = some (.loop (rec (if jump.isNone then .ready else .done) jump)) := fun jump W3 hk3 => by
        have hl3 := (hk3.block _ (.inr rfl) (by rw [hz2]; omega)).trans hl2
        have := run_endRound (P := P) jump hl3
        rw [hrec] at this ⊢
        exact ⟨this, by rw [hrec] at hl3; exact hl3, World.putObj_heap_same (Array.getElem?_eq_some_iff.1 hl3).1⟩
      have keep : ∀ (W3 : World) (o : Obj), Keeps (fun r => S r ∨ r = w.heap.size) (W.putObj w.heap.size (.loop { rec .ready none with state := .busy })) W3 →
          o = .loop (rec .ready none) → Keeps S W (W3.putObj w.heap.size o) := fun W3 o hk3 ho => by
        refine ⟨by rw [World.putObj_size]; have := hk3.size; rw [hz2] at this; exact this, fun r hb hr => ?_⟩
        by_cases e : r = w.heap.size
        · subst e; rw [World.putObj_heap_same (Nat.lt_of_lt_of_le hlt (by have := hk3.size; rw [hz2] at this; exact this)), ho]; exact hl.symm
        · rw [World.putObj_heap_other e, hk3.block r (.inl hb) (by rw [hz2]; exact hr), World.putObj_heap_other e]
      rintro e a3 W3 hp
      cases e with
      | normal =>
        obtain ⟨hk3, hi3⟩ := hp
        obtain ⟨hr, hl3, hl4⟩ := fin none W3 hk3
        exact ⟨_, _, hr, .inl ⟨rfl, ⟨hI.put _ hi3 (Nat.le_refl _) hl3 rfl (by rfl), hl4⟩, keep W3 _ hk3 (by simp)⟩⟩
      | ret =>
        obtain ⟨hk3, hi3⟩ := hp
        obtain ⟨hr, hl3, hl4⟩ := fin (some .ret) W3 hk3
        exact ⟨_, _, hr, .inr ⟨rfl, .ret, (hIx _).put _ hi3 (Nat.le_refl _) hl3 rfl (by rfl), hl4⟩⟩
      | exit id =>
        obtain ⟨hk3, hi3⟩ := hp
        obtain ⟨hr, hl3, hl4⟩ := fin (some (.exit id)) W3 hk3
        exact ⟨_, _, hr, .inr ⟨rfl, .exit id, (hIx _).put _ hi3 (Nat.le_refl _) hl3 rfl (by rfl), hl4⟩⟩
      | goto t =>
        obtain ⟨hk3, hi3⟩ := hp
        obtain ⟨hr, hl3, hl4⟩ := fin (some (.goto t)) W3 hk3
        exact ⟨_, _, hr, .inr ⟨rfl, .goto t, (hIx _).put _ hi3 (Nat.le_refl _) hl3 rfl (by rfl), hl4⟩⟩
      | panic ch => exact hp.elim
      | outgrown => exact hp.elim
    · rintro e W2 ⟨⟨v, rfl⟩, (⟨hi, hl⟩ | ⟨k, c, hi, hl⟩)⟩
      · exact ⟨none, _, by have := run_endLoop (P := P) hl (by rw [hrec]; simp); rw [hrec] at this; exact this, hdone _ (hI.put _ hi (Nat.le_refl _) hl rfl (by rfl))⟩
      · exact ⟨some c, _, by have := run_endLoop (P := P) hl (by rw [hrec]; simp); rw [hrec] at this; exact this, hstop c k _ ((hIx c).put _ hi (Nat.le_refl _) hl rfl (by rfl))⟩
theorem Iter.inRound {gf : Nat} {lb : Array Value} {S : Nat → Prop} {B : Nat} {xs : List Value} {w : World} (l : Nat) (h : Iter F n P gf lb S B xs w) : Iter (F.inRound l) n P gf lb S B xs w := h
end Go.Lg.Cuts
