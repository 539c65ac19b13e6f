/-
  Of the proof that the law DiagDeep answers true at every row of bytes: a part, without conditions of its own.
-/
import Derived.Shelf.Strings.Builder1
import Derived.Shelf.Strings.Builder2
import Derived.Shelf.Strings.OnBuilder
import Derived.Shelf.Strings.Trim
import Derived.Shelf.Small.Utf8
import Derived.Shelf.Small.Bits
import Derived.Shelf.Small.Strs
import Derived.Shelf.Small.Wraps
import Derived.Shelf.Strconv.Itoa0
import Derived.Shelf.Strings.Search1
import Derived.Shelf.Strings.Prefix
import Derived.Shelf.Unicode.Latin
import Derived.Shelf.Strings.Runes
import Derived.Shelf.Strings.AsciiSet
import Derived.Shelf.Bits.Mul64
import Derived.Shelf.Unicode.DecodeSlow
import Derived.Shelf.Unicode.CaseLookup
import Derived.Shelf.Unicode.CaseConvert
import Derived.Shelf.Unicode.CaseTo
import Derived.Shelf.Unicode.CaseLaid
import Derived.Ground.Names2Prog
import Derived.Shelf.Slices.Clone
import Derived.Test.YtbhfoelnoddlkaaGreatDoorProg
import Derived.Test.YtbhfoelnoddlkaaGreatDoorPart01
import Derived.Lib.ItoaNum
import Derived.Outline
import Derived.WalkKit
set_option linter.unusedVariables false
set_option linter.unusedSimpArgs false
/-
  Contracts of the library at this program (laid by the kit's lay-shelf.mjs and lay-plain.mjs; those used alone).
-/
namespace Go.Proofs
open Go.Shelf
def Tryz.lays159_ren : Go.Shelf.Ren := ⟨fun | 159 => 72 | 165 => 122 | 166 => 84 | 167 => 99 | 169 => 24 | 230 => 123 | 204 => 124 | 240 => 128 | 241 => 183 | 197 => 184 | 118 => 185 | 168 => 186 | 270 => 187 | 262 => 188 | 276 => 189 | 277 => 223 | 260 => 224 | 242 => 225 | 313 => 226 | 278 => 242 | 274 => 243 | 275 => 244 | n => n, fun | 9 => 9 | 4 => 4 | 3 => 3 | 5 => 5 | 72 => 65 | 0 => 0 | 76 => 142 | 75 => 35 | 107 => 199 | 70 => 63 | 20 => 20 | 37 => 22 | 127 => 98 | 21 => 21 | 105 => 276 | 164 => 130 | 162 => 314 | 203 => 282 | 119 => 326 | 46 => 154 | 139 => 329 | 138 => 328 | 51 => 140 | 160 => 330 | 208 => 337 | 206 => 335 | 80 => 70 | n => n, fun | 13 => 16 | 3 => 19 | 4 => 20 | n => n⟩
theorem Tryz.lays159 : Go.Proofs.Lays.n159 Tryz.prog Tryz.lays159_ren := {
  mixed := by kernel_rfl
  f118 := Tryz.func185.trans (congrArg some (by kernel_rfl))
  f159 := Tryz.func72.trans (congrArg some (by kernel_rfl))
  f165 := Tryz.func122.trans (congrArg some (by kernel_rfl))
  f166 := Tryz.func84.trans (congrArg some (by kernel_rfl))
  f167 := Tryz.func99.trans (congrArg some (by kernel_rfl))
  f168 := Tryz.func186.trans (congrArg some (by kernel_rfl))
  f169 := Tryz.func24.trans (congrArg some (by kernel_rfl))
  f197 := Tryz.func184.trans (congrArg some (by kernel_rfl))
  f204 := Tryz.func124.trans (congrArg some (by kernel_rfl))
  f230 := Tryz.func123.trans (congrArg some (by kernel_rfl))
  f240 := Tryz.func128.trans (congrArg some (by kernel_rfl))
  f241 := Tryz.func183.trans (congrArg some (by kernel_rfl))
  f242 := Tryz.func225.trans (congrArg some (by kernel_rfl))
  f260 := Tryz.func224.trans (congrArg some (by kernel_rfl))
  f262 := Tryz.func188.trans (congrArg some (by kernel_rfl))
  f270 := Tryz.func187.trans (congrArg some (by kernel_rfl))
  f274 := Tryz.func243.trans (congrArg some (by kernel_rfl))
  f275 := Tryz.func244.trans (congrArg some (by kernel_rfl))
  f276 := Tryz.func189.trans (congrArg some (by kernel_rfl))
  f277 := Tryz.func223.trans (congrArg some (by kernel_rfl))
  f278 := Tryz.func242.trans (congrArg some (by kernel_rfl))
  f313 := Tryz.func226.trans (congrArg some (by kernel_rfl))
  t0 := Tryz.underlying0
  a0 := Tryz.isAgg0
  z0 := Tryz.sizeOf0
  v0 := Tryz.zeroValue0
  t3 := Tryz.underlying3
  a3 := Tryz.isAgg3
  z3 := Tryz.sizeOf3
  v3 := Tryz.zeroValue3
  t4 := Tryz.underlying4
  a4 := Tryz.isAgg4
  z4 := Tryz.sizeOf4
  v4 := Tryz.zeroValue4
  t5 := Tryz.underlying5
  a5 := Tryz.isAgg5
  z5 := Tryz.sizeOf5
  v5 := Tryz.zeroValue5
  t9 := Tryz.underlying9
  a9 := Tryz.isAgg9
  z9 := Tryz.sizeOf9
  v9 := Tryz.zeroValue9
  t20 := Tryz.underlying20
  a20 := Tryz.isAgg20
  z20 := Tryz.sizeOf20
  v20 := Tryz.zeroValue20
  t21 := Tryz.underlying21
  a21 := Tryz.isAgg21
  z21 := Tryz.sizeOf21
  v21 := Tryz.zeroValue21
  t37 := Tryz.underlying22
  a37 := Tryz.isAgg22
  z37 := Tryz.sizeOf22
  v37 := Tryz.zeroValue22
  t46 := Tryz.underlying154
  a46 := Tryz.isAgg154
  z46 := Tryz.sizeOf154
  v46 := Tryz.zeroValue154
  t51 := Tryz.underlying140
  a51 := Tryz.isAgg140
  z51 := Tryz.sizeOf140
  v51 := Tryz.zeroValue140
  t70 := Tryz.underlying63
  a70 := Tryz.isAgg63
  z70 := Tryz.sizeOf63
  v70 := Tryz.zeroValue63
  t72 := Tryz.underlying65
  a72 := Tryz.isAgg65
  z72 := Tryz.sizeOf65
  v72 := Tryz.zeroValue65
  t75 := Tryz.underlying35
  a75 := Tryz.isAgg35
  z75 := Tryz.sizeOf35
  v75 := Tryz.zeroValue35
  t76 := Tryz.underlying142
  a76 := Tryz.isAgg142
  z76 := Tryz.sizeOf142
  v76 := Tryz.zeroValue142
  t105 := Tryz.underlying276
  a105 := Tryz.isAgg276
  z105 := Tryz.sizeOf276
  v105 := Tryz.zeroValue276
  t107 := Tryz.underlying199
  a107 := Tryz.isAgg199
  z107 := Tryz.sizeOf199
  v107 := Tryz.zeroValue199
  t119 := Tryz.underlying326
  a119 := Tryz.isAgg326
  z119 := Tryz.sizeOf326
  t127 := Tryz.underlying98
  a127 := Tryz.isAgg98
  z127 := Tryz.sizeOf98
  v127 := Tryz.zeroValue98
  t138 := Tryz.underlying328
  a138 := Tryz.isAgg328
  z138 := Tryz.sizeOf328
  v138 := Tryz.zeroValue328
  t139 := Tryz.underlying329
  a139 := Tryz.isAgg329
  z139 := Tryz.sizeOf329
  v139 := Tryz.zeroValue329
  t160 := Tryz.underlying330
  a160 := Tryz.isAgg330
  z160 := Tryz.sizeOf330
  v160 := Tryz.zeroValue330
  t162 := Tryz.underlying314
  a162 := Tryz.isAgg314
  z162 := Tryz.sizeOf314
  v162 := Tryz.zeroValue314
  t164 := Tryz.underlying130
  a164 := Tryz.isAgg130
  z164 := Tryz.sizeOf130
  v164 := Tryz.zeroValue130
  t203 := Tryz.underlying282
  a203 := Tryz.isAgg282
  z203 := Tryz.sizeOf282
  v203 := Tryz.zeroValue282
  t206 := Tryz.underlying335
  a206 := Tryz.isAgg335
  z206 := Tryz.sizeOf335
  v206 := Tryz.zeroValue335
  t208 := Tryz.underlying337
  a208 := Tryz.isAgg337
  z208 := Tryz.sizeOf337
  v208 := Tryz.zeroValue337
  g3 := by kernel_rfl
  g4 := by kernel_rfl
  g13 := by kernel_rfl }
theorem Tryz.Builder_Extra_159 : Builder.Extra Tryz.prog Tryz.lays159_ren := {
  sizeBuilder := by kernel_rfl
  liesBuilder := by kernel_rfl
  t5 := Tryz.underlying5
  a5 := Tryz.isAgg5
  z5 := Tryz.sizeOf5
  v5 := Tryz.zeroValue5
  infoByte := by kernel_rfl
  cellsByte := by kernel_rfl
  sizeByte := by kernel_rfl
  neB5 := by decide }
open Go.RowKit in
theorem Tryz.strings_ToLower_ascii (s : ByteArray) (w : World) (hs : s.size ≤ 140737488355328) (hascii : ∀ (j : Nat) (b : UInt8), s.data.toList[j]? = some b → b.toNat < 128) :
    Calls Tryz.prog 72 #[.string s] w fun e w' => e = .returned (.string ⟨(Lib.toLowerA s.data.toList).toArray⟩) ∧ Below w.heap.size w w' := Any.strings_ToLower_ascii Tryz.lays159 Tryz.Builder_Extra_159 s w hs hascii
def Tryz.lays161_ren : Go.Shelf.Ren := ⟨fun | 161 => 92 | 231 => 133 | 227 => 134 | 233 => 135 | 235 => 136 | 228 => 193 | 197 => 184 | 151 => 194 | 260 => 224 | 152 => 228 | 137 => 28 | 119 => 245 | 224 => 246 | 225 => 247 | 217 => 54 | 266 => 100 | n => n, fun | 9 => 9 | 4 => 4 | 3 => 3 | 5 => 5 | 117 => 222 | 116 => 221 | 0 => 0 | 124 => 225 | 105 => 276 | 21 => 21 | 119 => 326 | 46 => 154 | 139 => 329 | 138 => 328 | n => n, fun | 3 => 19 | 4 => 20 | n => n⟩
theorem Tryz.lays161 : Go.Proofs.Lays.n161 Tryz.prog Tryz.lays161_ren := {
  mixed := by kernel_rfl
  f119 := Tryz.func245.trans (congrArg some (by kernel_rfl))
  f137 := Tryz.func28.trans (congrArg some (by kernel_rfl))
  f151 := Tryz.func194.trans (congrArg some (by kernel_rfl))
  f152 := Tryz.func228.trans (congrArg some (by kernel_rfl))
  f161 := Tryz.func92.trans (congrArg some (by kernel_rfl))
  f197 := Tryz.func184.trans (congrArg some (by kernel_rfl))
  f217 := Tryz.func54.trans (congrArg some (by kernel_rfl))
  f224 := Tryz.func246.trans (congrArg some (by kernel_rfl))
  f225 := Tryz.func247.trans (congrArg some (by kernel_rfl))
  f227 := Tryz.func134.trans (congrArg some (by kernel_rfl))
  f228 := Tryz.func193.trans (congrArg some (by kernel_rfl))
  f231 := Tryz.func133.trans (congrArg some (by kernel_rfl))
  f233 := Tryz.func135.trans (congrArg some (by kernel_rfl))
  f235 := Tryz.func136.trans (congrArg some (by kernel_rfl))
  f260 := Tryz.func224.trans (congrArg some (by kernel_rfl))
  f266 := Tryz.func100.trans (congrArg some (by kernel_rfl))
  t0 := Tryz.underlying0
  a0 := Tryz.isAgg0
  z0 := Tryz.sizeOf0
  v0 := Tryz.zeroValue0
  t3 := Tryz.underlying3
  a3 := Tryz.isAgg3
  z3 := Tryz.sizeOf3
  v3 := Tryz.zeroValue3
  t4 := Tryz.underlying4
  a4 := Tryz.isAgg4
  z4 := Tryz.sizeOf4
  v4 := Tryz.zeroValue4
  t5 := Tryz.underlying5
  a5 := Tryz.isAgg5
  z5 := Tryz.sizeOf5
  v5 := Tryz.zeroValue5
  t9 := Tryz.underlying9
  a9 := Tryz.isAgg9
  z9 := Tryz.sizeOf9
  v9 := Tryz.zeroValue9
  t21 := Tryz.underlying21
  a21 := Tryz.isAgg21
  z21 := Tryz.sizeOf21
  v21 := Tryz.zeroValue21
  t46 := Tryz.underlying154
  a46 := Tryz.isAgg154
  z46 := Tryz.sizeOf154
  v46 := Tryz.zeroValue154
  t105 := Tryz.underlying276
  a105 := Tryz.isAgg276
  z105 := Tryz.sizeOf276
  v105 := Tryz.zeroValue276
  t116 := Tryz.underlying221
  a116 := Tryz.isAgg221
  z116 := Tryz.sizeOf221
  t117 := Tryz.underlying222
  a117 := Tryz.isAgg222
  z117 := Tryz.sizeOf222
  v117 := Tryz.zeroValue222
  t119 := Tryz.underlying326
  a119 := Tryz.isAgg326
  z119 := Tryz.sizeOf326
  t124 := Tryz.underlying225
  a124 := Tryz.isAgg225
  z124 := Tryz.sizeOf225
  v124 := Tryz.zeroValue225
  t138 := Tryz.underlying328
  a138 := Tryz.isAgg328
  z138 := Tryz.sizeOf328
  v138 := Tryz.zeroValue328
  t139 := Tryz.underlying329
  a139 := Tryz.isAgg329
  z139 := Tryz.sizeOf329
  v139 := Tryz.zeroValue329
  g3 := by kernel_rfl
  g4 := by kernel_rfl }
open Go.RowKit in
theorem Tryz.strings_TrimLeft_one (s : ByteArray) (c : UInt8) (hc : c.toNat < 128) (w : World) :
    Calls Tryz.prog 92 #[.string s, .string ⟨#[c]⟩] w fun e w' => e = .returned (.string ⟨(Lib.trimLeftB s.data.toList c).toArray⟩) ∧ w' = w := Any.strings_TrimLeft_one Tryz.lays161 s c hc w
def Tryz.lays162_ren : Go.Shelf.Ren := ⟨fun | 162 => 217 | 232 => 234 | 227 => 134 | 234 => 235 | 236 => 236 | 228 => 193 | 271 => 250 | 151 => 194 | 120 => 251 | 197 => 184 | 152 => 228 | 260 => 224 | 137 => 28 | 119 => 245 | 224 => 246 | 225 => 247 | 217 => 54 | 266 => 100 | n => n, fun | 9 => 9 | 4 => 4 | 3 => 3 | 5 => 5 | 117 => 222 | 116 => 221 | 0 => 0 | 124 => 225 | 21 => 21 | 105 => 276 | 46 => 154 | 119 => 326 | 139 => 329 | 138 => 328 | n => n, fun | 3 => 19 | 4 => 20 | n => n⟩
theorem Tryz.lays162 : Go.Proofs.Lays.n162 Tryz.prog Tryz.lays162_ren := {
  mixed := by kernel_rfl
  f119 := Tryz.func245.trans (congrArg some (by kernel_rfl))
  f120 := Tryz.func251.trans (congrArg some (by kernel_rfl))
  f137 := Tryz.func28.trans (congrArg some (by kernel_rfl))
  f151 := Tryz.func194.trans (congrArg some (by kernel_rfl))
  f152 := Tryz.func228.trans (congrArg some (by kernel_rfl))
  f162 := Tryz.func217.trans (congrArg some (by kernel_rfl))
  f197 := Tryz.func184.trans (congrArg some (by kernel_rfl))
  f217 := Tryz.func54.trans (congrArg some (by kernel_rfl))
  f224 := Tryz.func246.trans (congrArg some (by kernel_rfl))
  f225 := Tryz.func247.trans (congrArg some (by kernel_rfl))
  f227 := Tryz.func134.trans (congrArg some (by kernel_rfl))
  f228 := Tryz.func193.trans (congrArg some (by kernel_rfl))
  f232 := Tryz.func234.trans (congrArg some (by kernel_rfl))
  f234 := Tryz.func235.trans (congrArg some (by kernel_rfl))
  f236 := Tryz.func236.trans (congrArg some (by kernel_rfl))
  f260 := Tryz.func224.trans (congrArg some (by kernel_rfl))
  f266 := Tryz.func100.trans (congrArg some (by kernel_rfl))
  f271 := Tryz.func250.trans (congrArg some (by kernel_rfl))
  t0 := Tryz.underlying0
  a0 := Tryz.isAgg0
  z0 := Tryz.sizeOf0
  v0 := Tryz.zeroValue0
  t3 := Tryz.underlying3
  a3 := Tryz.isAgg3
  z3 := Tryz.sizeOf3
  v3 := Tryz.zeroValue3
  t4 := Tryz.underlying4
  a4 := Tryz.isAgg4
  z4 := Tryz.sizeOf4
  v4 := Tryz.zeroValue4
  t5 := Tryz.underlying5
  a5 := Tryz.isAgg5
  z5 := Tryz.sizeOf5
  v5 := Tryz.zeroValue5
  t9 := Tryz.underlying9
  a9 := Tryz.isAgg9
  z9 := Tryz.sizeOf9
  v9 := Tryz.zeroValue9
  t21 := Tryz.underlying21
  a21 := Tryz.isAgg21
  z21 := Tryz.sizeOf21
  v21 := Tryz.zeroValue21
  t46 := Tryz.underlying154
  a46 := Tryz.isAgg154
  z46 := Tryz.sizeOf154
  v46 := Tryz.zeroValue154
  t105 := Tryz.underlying276
  a105 := Tryz.isAgg276
  z105 := Tryz.sizeOf276
  v105 := Tryz.zeroValue276
  t116 := Tryz.underlying221
  a116 := Tryz.isAgg221
  z116 := Tryz.sizeOf221
  t117 := Tryz.underlying222
  a117 := Tryz.isAgg222
  z117 := Tryz.sizeOf222
  v117 := Tryz.zeroValue222
  t119 := Tryz.underlying326
  a119 := Tryz.isAgg326
  z119 := Tryz.sizeOf326
  t124 := Tryz.underlying225
  a124 := Tryz.isAgg225
  z124 := Tryz.sizeOf225
  v124 := Tryz.zeroValue225
  t138 := Tryz.underlying328
  a138 := Tryz.isAgg328
  z138 := Tryz.sizeOf328
  v138 := Tryz.zeroValue328
  t139 := Tryz.underlying329
  a139 := Tryz.isAgg329
  z139 := Tryz.sizeOf329
  v139 := Tryz.zeroValue329
  g3 := by kernel_rfl
  g4 := by kernel_rfl }
open Go.RowKit in
theorem Tryz.strings_TrimRight_one (s : ByteArray) (c : UInt8) (hc : c.toNat < 128) (w : World) (hs : s.size ≤ 9223372036854775807) :
    Calls Tryz.prog 217 #[.string s, .string ⟨#[c]⟩] w fun e w' => e = .returned (.string ⟨(Lib.trimRightB s.data.toList c).toArray⟩) ∧ w' = w := Any.strings_TrimRight_one Tryz.lays162 s c hc w hs
def Tryz.lays128_ren : Go.Shelf.Ren := ⟨fun | 128 => 131 | n => n, fun | 51 => 140 | 3 => 3 | 4 => 4 | 46 => 154 | 5 => 5 | 9 => 9 | n => n, fun | n => n⟩
theorem Tryz.lays128 : Go.Proofs.Lays.n128 Tryz.prog Tryz.lays128_ren := {
  mixed := by kernel_rfl
  f128 := Tryz.func131.trans (congrArg some (by kernel_rfl))
  t3 := Tryz.underlying3
  a3 := Tryz.isAgg3
  z3 := Tryz.sizeOf3
  v3 := Tryz.zeroValue3
  t4 := Tryz.underlying4
  a4 := Tryz.isAgg4
  z4 := Tryz.sizeOf4
  v4 := Tryz.zeroValue4
  t5 := Tryz.underlying5
  a5 := Tryz.isAgg5
  z5 := Tryz.sizeOf5
  v5 := Tryz.zeroValue5
  t9 := Tryz.underlying9
  a9 := Tryz.isAgg9
  z9 := Tryz.sizeOf9
  v9 := Tryz.zeroValue9
  t46 := Tryz.underlying154
  a46 := Tryz.isAgg154
  z46 := Tryz.sizeOf154
  v46 := Tryz.zeroValue154
  t51 := Tryz.underlying140
  a51 := Tryz.isAgg140
  z51 := Tryz.sizeOf140
  v51 := Tryz.zeroValue140 }
theorem Tryz.bits_Len32 (x : Int) (w : World) (h0 : 0 ≤ x) (h1 : x ≤ 4294967295) :
    Calls Tryz.prog 131 #[.int .u32 x] w fun e w' => e = .returned (.int .i64 (Lib.bitLen x.toNat)) ∧ w' = w := Any.bits_Len32 Tryz.lays128 x w h0 h1
def Tryz.lays137_ren : Go.Shelf.Ren := ⟨fun | 137 => 28 | 217 => 54 | 266 => 100 | n => n, fun | 9 => 9 | 5 => 5 | 3 => 3 | n => n, fun | n => n⟩
theorem Tryz.lays137 : Go.Proofs.Lays.n137 Tryz.prog Tryz.lays137_ren := {
  mixed := by kernel_rfl
  f137 := Tryz.func28.trans (congrArg some (by kernel_rfl))
  f217 := Tryz.func54.trans (congrArg some (by kernel_rfl))
  f266 := Tryz.func100.trans (congrArg some (by kernel_rfl))
  t3 := Tryz.underlying3
  a3 := Tryz.isAgg3
  z3 := Tryz.sizeOf3
  v3 := Tryz.zeroValue3
  t5 := Tryz.underlying5
  a5 := Tryz.isAgg5
  z5 := Tryz.sizeOf5
  v5 := Tryz.zeroValue5
  t9 := Tryz.underlying9
  a9 := Tryz.isAgg9
  z9 := Tryz.sizeOf9
  v9 := Tryz.zeroValue9 }
open Go.RowKit in
theorem Tryz.strings_IndexByte (s : ByteArray) (c : Int) (w : World) :
    Calls Tryz.prog 28 #[.string s, .int .u8 c] w fun e w' => e = .returned (.int .i64 (Lib.indexByte s.data.toList c.toNat.toUInt8)) ∧ w' = w := Any.strings_IndexByte Tryz.lays137 s c w
def Tryz.laysNm215_ren : Go.Shelf.Ren := ⟨fun | 15 => 214 | n => n, fun | 22 => 141 | 3 => 3 | 4 => 4 | n => n, fun | n => n⟩
theorem Tryz.laysNm215 : Go.Proofs.Lays2.n15 Tryz.prog Tryz.laysNm215_ren := {
  mixed := by kernel_rfl
  f15 := Tryz.func214.trans (congrArg some (by kernel_rfl))
  t3 := Tryz.underlying3
  a3 := Tryz.isAgg3
  z3 := Tryz.sizeOf3
  v3 := Tryz.zeroValue3
  t4 := Tryz.underlying4
  a4 := Tryz.isAgg4
  z4 := Tryz.sizeOf4
  v4 := Tryz.zeroValue4
  t22 := Tryz.underlying141
  a22 := Tryz.isAgg141
  z22 := Tryz.sizeOf141
  v22 := Tryz.zeroValue141
  i3 := by kernel_rfl }
open Go.RowKit Go.Lib in
theorem Tryz.slices_Clone_int (b off n c : Nat) (zs : List Int) (w : World) (hz : n ≤ zs.length) (hbig : n * 8 ≤ 140737488355328) (hc : ∀ j, j < zs.length → w.cell? ⟨b, off + j, none⟩ = some (.int .i64 (zs.getD j 0))) :
    Calls Tryz.prog 214 #[.slice (some ⟨b, off, none⟩) n c] w fun e w' => ∃ v', e = .returned v' ∧ w'.ownsRow w.heap.size 3 1 v' n ((zs.take n).map (Value.int .i64)) ∧ v' ≠ .slice none 0 0 ∧ Below w.heap.size w w' := Any.slices_Clone_int Tryz.laysNm215 b off n c zs w hz hbig hc
end Go.Proofs

/-
  nat.From, Uint, Len: walked.
-/
namespace Go.Proofs.YtbhfoelnoddlkaaGreatDoor.D
open Go Go.RowKit Limb

theorem val_pair (x : Nat) : val [x % 4294967296, x / 4294967296] = x := by simp [val]; omega
theorem fit_pair {x : Nat} (hx : x < 18446744073709551616) : Fit [x % 4294967296, x / 4294967296] := by
  intro y hy
  simp only [List.mem_cons, List.not_mem_nil, or_false] at hy
  rcases hy with rfl | rfl <;> omega
set_option maxRecDepth 100000 in
theorem from_any (w : World) (x : Nat) (hx : x < 18446744073709551616) :
    Calls Tryz.prog 144 #[.int .u64 (x : Int)] w fun e w' => Below w.heap.size w w' ∧ ∃ v', e = .returned v' ∧ Limbs w' v' (limbs x) := by
  have hB := Blk.new w (uCells [x % 4294967296, x / 4294967296]) 140
  have hl := limbs_of_blk hB (fit_pair hx) 2 2 (by simp) (Nat.le_refl _) (by omega)
  have HC := Lib.hid (cut_any _ _ _ hl)
  have HT : Hid (trim (List.take 2 [x % 4294967296, x / 4294967296]) = limbs x) := Lib.hid (by
    rw [List.take_of_length_le (by simp), trim_eq (fit_pair hx), val_pair])
  have HE : Hid (uCells [x % 4294967296, x / 4294967296] = #[.int .u32 ((x : Int) % 4294967296), .int .u32 ((x : Int) / 4294967296)]) := Lib.hid (by simp [uCells, uCell])
  clear hB hl
  go_enter Tryz.func144, Tryz.ntmps144
  go_wp2_with fail
  have hc := HC.out
  rw [HE.out] at hc
  refine hc.mono ?_
  rintro e w1 ⟨rfl, v1, rfl, h1⟩
  rw [HT.out] at h1
  have H1 := Lib.hid h1
  clear h1
  go_wp2
  go_ret
  rw [← HE.out] at H1 ⊢
  exact ⟨(Below.refl _ _).alloc (Nat.le_refl _) _, v1, rfl, H1.out⟩

theorem bitLen_blen (x : Nat) (h : x < 4294967296) : Lib.bitLen x = blen x := by
  by_cases h0 : x = 0
  · subst h0; rw [blen_zero]; rfl
  · obtain ⟨a, b, c⟩ := Lib.bitLenAux_bounds 64 x (by omega) h0
    exact (blen_uniq a b c).symm
theorem limbs_length_nat (n : Nat) : ((limbs n).length : Int) = (limbs n).length := rfl

set_option maxRecDepth 100000 in
theorem len_any (w : World) (v : Value) (l : List Nat) (h : Limbs w v l) (hl : l.length ≤ 34359738368) :
    Calls Tryz.prog 90 #[v] w fun e w' => w' = w ∧ e = .returned (.int .i64 (blen (val l) : Nat)) := by
  have hfl := h.fit
  have HC := Lib.hid (cut_any w v l h)
  rw [trim_eq hfl] at HC
  have hTl : (limbs (val l)).length ≤ l.length := by rw [← trim_eq hfl, length_trim]; exact top_le l
  clear h hfl
  generalize val l = x at HC hTl ⊢
  go_enter Tryz.func90, Tryz.ntmps90
  go_wp2_with fail
  refine HC.out.mono ?_
  rintro e w1 ⟨rfl, v1, rfl, h1⟩
  obtain ⟨hf, hv⟩ := h1
  by_cases hx : x = 0
  · subst hx
    rw [limbs_zero] at hv
    rcases hv with ⟨rfl, -⟩ | ⟨blk, off, cap, rfl, -⟩
    · go_wp2
      go_ret
      exact ⟨rfl, by rw [blen_zero]; rfl⟩
    · go_wp2
      go_ret
      exact ⟨rfl, by rw [blen_zero]; rfl⟩
  · have hp := limbs_length_pos hx
    rcases hv with ⟨rfl, h⟩ | ⟨blk, off, cap, rfl, h1, h2, h3, h4⟩
    · rw [h] at hp; simp at hp
    · have hc := h4 ((limbs x).length - 1) (by omega)
      have hfx := hf ((limbs x).getD ((limbs x).length - 1) 0) (by
        rw [List.getD_eq_getElem?_getD, List.getElem?_eq_getElem (by omega)]; exact List.getElem_mem _)
      have HB := Lib.hid (blen_limbs hx)
      have hble := blen_le (k := 32) hfx
      have HL := Lib.hid (Tryz.bits_Len32 (((limbs x).getD ((limbs x).length - 1) 0 : Nat) : Int) w1 (by omega) (by omega))
      rw [Int.toNat_natCast, bitLen_blen _ hfx] at HL
      generalize (limbs x).getD ((limbs x).length - 1) 0 = y at hc HB hble HL
      clear h4 hf hfx HC
      generalize (limbs x).length = n at *
      have g1 : ((n : Int) - 1).toNat = n - 1 := by omega
      have g2 : (0 : Int) ≤ (n : Int) - 1 := by omega
      have g3 : (n : Int) - 1 < (n : Int) := by omega
      have g4 : IntKind.i64.wrap ((n : Int) - 1) = (n : Int) - 1 := IntWalk.i64_in _ (by omega)
      have g5 : ((n : Int) == 0) = false := beq_eq_false_iff_ne.2 (by omega)
      have g6 : IntKind.i64.wrap (32 * ((n : Int) - 1)) = 32 * ((n : Int) - 1) := IntWalk.i64_in _ (by omega)
      have g7 : IntKind.i64.wrap (32 * ((n : Int) - 1) + (blen y : Int)) = 32 * ((n : Int) - 1) + (blen y : Int) := IntWalk.i64_in _ (by omega)
      go_wp2_with fail
      refine HL.out.mono ?_
      rintro e w2 ⟨rfl, rfl⟩
      go_wp2
      go_ret
      refine ⟨rfl, ?_⟩
      rw [HB.out]
      congr 2
      simp
      omega
end Go.Proofs.YtbhfoelnoddlkaaGreatDoor.D

/-
  The bit operations of numbers that are not below 0, as the walk writes them.
-/
namespace Go.Proofs.YtbhfoelnoddlkaaGreatDoor.D
open Go Go.RowKit

theorem bv64 (a : Nat) : (BitVec.ofInt 64 (a : Int)) = BitVec.ofNat 64 a := by
  apply BitVec.eq_of_toNat_eq
  simp
theorem bv32 (a : Nat) : (BitVec.ofInt 32 (a : Int)) = BitVec.ofNat 32 a := by
  apply BitVec.eq_of_toNat_eq
  simp
theorem or_u64 (a b : Nat) (ha : a < 18446744073709551616) (hb : b < 18446744073709551616) : bits .or .u64 (a : Int) (b : Int) = ((a ||| b : Nat) : Int) := by
  have : bits .or .u64 (a : Int) (b : Int) = IntKind.u64.wrap (((BitVec.ofInt 64 (a : Int)) ||| (BitVec.ofInt 64 (b : Int)) : BitVec 64).toNat : Int) := by rfl
  rw [this, bv64, bv64, BitVec.toNat_or, BitVec.toNat_ofNat, BitVec.toNat_ofNat, Nat.mod_eq_of_lt ha, Nat.mod_eq_of_lt hb]
  have h := Nat.or_lt_two_pow (x := a) (y := b) (n := 64) ha hb
  rw [IntKind.wrap_u64]
  omega
theorem or_u32 (a b : Nat) (ha : a < 4294967296) (hb : b < 4294967296) : bits .or .u32 (a : Int) (b : Int) = ((a ||| b : Nat) : Int) := by
  have : bits .or .u32 (a : Int) (b : Int) = IntKind.u32.wrap (((BitVec.ofInt 32 (a : Int)) ||| (BitVec.ofInt 32 (b : Int)) : BitVec 32).toNat : Int) := by rfl
  rw [this, bv32, bv32, BitVec.toNat_or, BitVec.toNat_ofNat, BitVec.toNat_ofNat, Nat.mod_eq_of_lt ha, Nat.mod_eq_of_lt hb]
  have h := Nat.or_lt_two_pow (x := a) (y := b) (n := 32) ha hb
  rw [IntKind.wrap_u32]
  omega
theorem and_u64 (a b : Nat) (ha : a < 18446744073709551616) (hb : b < 18446744073709551616) : bits .and .u64 (a : Int) (b : Int) = ((a &&& b : Nat) : Int) := by
  have : bits .and .u64 (a : Int) (b : Int) = IntKind.u64.wrap (((BitVec.ofInt 64 (a : Int)) &&& (BitVec.ofInt 64 (b : Int)) : BitVec 64).toNat : Int) := by rfl
  rw [this, bv64, bv64, BitVec.toNat_and, BitVec.toNat_ofNat, BitVec.toNat_ofNat, Nat.mod_eq_of_lt ha, Nat.mod_eq_of_lt hb]
  have h := Nat.and_lt_two_pow (x := a) (y := b) (n := 64) hb
  rw [IntKind.wrap_u64]
  omega
/-- Bits that do not meet. -/
theorem or_add (a b k : Nat) (ha : a < 2 ^ k) : a ||| (b * 2 ^ k) = a + b * 2 ^ k := by
  rw [Nat.or_comm, ← Nat.shiftLeft_eq, ← Nat.shiftLeft_add_eq_or_of_lt ha]; omega
theorem or_u64_add (a b k : Nat) (ha : a < 2 ^ k) (hb : a + b * 2 ^ k < 18446744073709551616) : bits .or .u64 (a : Int) ((b * 2 ^ k : Nat) : Int) = ((a + b * 2 ^ k : Nat) : Int) := by
  rw [or_u64 a _ (by omega) (by omega), or_add a b k ha]
end Go.Proofs.YtbhfoelnoddlkaaGreatDoor.D

/-
  nat.Uint, Cmp, Small: walked.
-/
namespace Go.Proofs.YtbhfoelnoddlkaaGreatDoor.D
open Go Go.RowKit Limb

set_option maxRecDepth 100000 in
theorem uint_any (w : World) (v : Value) (l : List Nat) (h : Limbs w v l) (hx : val l < 18446744073709551616) :
    Calls Tryz.prog 112 #[v] w fun e w' => w' = w ∧ e = .returned (.tuple #[.int .u64 (val l : Nat), .bool true]) := by
  have hfl := h.fit
  have HC := Lib.hid (cut_any w v l h)
  rw [trim_eq hfl] at HC
  clear h hfl
  generalize val l = x at HC hx ⊢
  have hTl : (limbs x).length ≤ 2 := limbs_length_le (by omega)
  go_enter Tryz.func112, Tryz.ntmps112
  go_wp2_with fail
  refine HC.out.mono ?_
  rintro e w1 ⟨rfl, v1, rfl, h1⟩
  have HX := Lib.hid h1
  obtain ⟨b, c, rfl⟩ := h1.slice
  clear HC
  have HN : Hid (∃ n, n = (limbs x).length) := Lib.hid ⟨_, rfl⟩
  obtain ⟨n, hn⟩ := HN.out
  have HN' := Lib.hid hn
  rw [← hn] at hTl HX ⊢
  clear hn h1 HN
  go_wp2
  go_loop [4, 5, 13] (fun y _ i => ∃ k : Nat, k ≤ n ∧ i = .int .i64 k ∧ y = .int .u64 (val ((limbs x).take k) : Nat)) (fun _ _ i => n - (intOf i).toNat)
  case atStart => exact ⟨0, by omega, rfl, rfl⟩
  case round =>
    obtain ⟨k, hk, rfl, rfl⟩ := hrel
    by_cases h1 : k < n
    · have g1 : (k : Int) < (n : Int) := by omega
      obtain ⟨hf, ⟨h, h'⟩ | ⟨blk, off, cap, h, h1', h2, h3, h4⟩⟩ := HX.out
      · rw [h'] at HN'; have := HN'.out; simp at this; omega
      · simp only [Value.slice.injEq] at h
        obtain ⟨rfl, -, rfl⟩ := h
        have hc := h4 k (by rw [← HN'.out]; exact h1)
        clear h4
        have g2 : IntKind.i64.wrap (32 * (k : Int)) = 32 * (k : Int) := IntWalk.i64_in _ (by omega)
        have hs := val_snoc (limbs x) k (by rw [← HN'.out]; exact h1)
        have hlt := val_lt (fit_take (fit_limbs x) k)
        rw [List.length_take, ← HN'.out, Nat.min_eq_left (by omega), pow_base] at hlt
        rw [pow_base] at hs
        have hlt2 : val ((limbs x).take (k + 1)) < 18446744073709551616 := by
          have := val_lt (fit_take (fit_limbs x) (k + 1))
          rw [List.length_take, ← HN'.out, Nat.min_eq_left (by omega)] at this
          have h5 : 4294967296 ^ (k + 1) ≤ 4294967296 ^ 2 := Nat.pow_le_pow_right (by omega) (by omega)
          omega
        have hy : (limbs x).getD k 0 < 4294967296 := by
          rw [List.getD_eq_getElem?_getD, List.getElem?_eq_getElem (by rw [← HN'.out]; exact h1)]; exact fit_limbs x _ (List.getElem_mem _)
        have HS := Lib.hid hs
        clear hs
        have g3 : IntKind.u64.wrap ((limbs x).getD k 0 : Nat) = ((limbs x).getD k 0 : Nat) := by rw [IntKind.wrap_u64]; omega
        generalize (limbs x).getD k 0 = y at hc HS hy g3
        have g4 : IntKind.u64.wrap ((y : Int) * 2 ^ (32 * k)) = ((y * 2 ^ (32 * k) : Nat) : Int) := by
          rw [IntKind.wrap_u64, show ((y : Int) * 2 ^ (32 * k)) = ((y * 2 ^ (32 * k) : Nat) : Int) by simp, Int.emod_eq_of_lt (by omega) (by have := HS.out; rw [Nat.mul_comm] at this; omega)]
        have g5 := or_u64_add (val ((limbs x).take k)) y (32 * k) hlt (by have := HS.out; rw [Nat.mul_comm] at this; omega)
        have HG := Lib.hid g5
        clear g5
        have HG4 := Lib.hid g4
        clear g4
        go_wp2
        go_round
        case rel =>
          refine ⟨k + 1, by omega, by simp, ?_⟩
          rw [HG4.out, HG.out, HS.out, Nat.mul_comm]
        case measure => simp [intOf]; omega
    · obtain rfl : k = n := by omega
      go_wp2
      refine bodyPost_ret (v := .tuple #[.int .u64 (val ((limbs x).take k) : Nat), .bool true]) (by simp [results, Tryz.results112, go_sem]) rfl ⟨rfl, ?_⟩
      rw [List.take_of_length_le (by rw [← HN'.out]; exact Nat.le_refl _), val_limbs]
end Go.Proofs.YtbhfoelnoddlkaaGreatDoor.D

/-
  whole.signed, made, Norm, number.OfInt at numbers not below 0: walked.
-/
namespace Go.Proofs.YtbhfoelnoddlkaaGreatDoor.D
open Go Go.RowKit Limb

theorem no_limb2 (a b : Value) (ha : ∀ x, a ≠ .int .u32 x) (hb : ∀ x, b ≠ .int .u32 x) : ∀ (i : Nat) (x : Int), (#[a, b] : Array Value)[i]? ≠ some (.int .u32 x)
  | 0, x, h => ha x (by simpa using h)
  | 1, x, h => hb x (by simpa using h)
  | i + 2, x, h => by simp at h

set_option maxRecDepth 100000 in
theorem signed_any (w : World) (v : Value) (l : List Nat) (h : Limbs w v l) (hl : l.length ≤ 34359738368) :
    Calls Tryz.prog 115 #[.agg #[.bool false, v]] w fun e w' => Below w.heap.size w w' ∧ ∃ (s : Int) (v' : Value), e = .returned (.tuple #[.int .i8 s, v']) ∧ 0 ≤ s ∧ Limbs w' v' (limbs (val l)) ∧ New w.heap.size v' := by
  have hb : Below w.heap.size w (w.alloc (.cells #[.bool false, v] 30)) := (Below.refl _ _).alloc (Nat.le_refl _) _
  have HC := Lib.hid (norm_any _ v l (h.below hb) hl)
  have HT := Lib.hid (trim_eq h.fit)
  clear h
  have HB := Lib.hid hb
  clear hb
  go_enter Tryz.func115, Tryz.ntmps115
  go_wp2_with fail
  refine HC.out.mono ?_
  rintro e w1 ⟨hb1, v1, rfl, h1, hn1⟩
  have HN1 := Lib.hid (hn1.mono (B' := w.heap.size) (by simp))
  clear hn1
  have HB1 := Lib.hid (HB.out.trans (hb1.mono (by simp)))
  have c0 : w1.cell? ⟨w.heap.size, 0, none⟩ = some (.bool false) := by
    rw [hb1.cell (p := ⟨w.heap.size, 0, none⟩) (by simp)]; exact (Blk.new w #[.bool false, v] 30).cell 0
  rw [HT.out] at h1
  have H1 := Lib.hid h1
  clear hb1 HB HC
  obtain ⟨b, c, rfl⟩ := h1.slice
  clear h1
  by_cases hx : val l = 0
  · have h0 : (limbs (val l)).length = 0 := by rw [hx, limbs_zero]; rfl
    rw [h0] at H1 ⊢
    go_wp2
    refine bodyPost_ret (v := .tuple #[.int .i8 0, .slice none 0 0]) (by simp [results, Tryz.results115, go_sem]) rfl ⟨HB1.out, 0, _, rfl, by omega, ?_⟩
    rw [hx, limbs_zero]; exact ⟨Limbs.nil _, New.none _ _ _⟩
  · have h0 : (((limbs (val l)).length : Int) == 0) = false := beq_eq_false_iff_ne.2 (by have := limbs_length_pos hx; omega)
    generalize (limbs (val l)).length = n at H1 h0 HN1 ⊢
    go_wp2
    refine bodyPost_ret (v := .tuple #[.int .i8 1, .slice b n c]) (by simp [results, Tryz.results115, go_sem]) rfl ⟨HB1.out, 1, _, rfl, by omega, H1.out, HN1.out⟩

set_option maxRecDepth 100000 in
theorem made_any (w : World) (s : Int) (hs : 0 ≤ s) (b : Option Addr) (n c : Nat) :
    Calls Tryz.prog 114 #[.int .i8 s, .slice b n c] w fun e w' => Below w.heap.size w w' ∧ e = .returned (.agg #[.bool false, .slice b n c]) := by
  have h0 : (s == -1) = false := beq_eq_false_iff_ne.2 (by omega)
  go_enter Tryz.func114, Tryz.ntmps114
  go_wp2
  refine bodyPost_ret (v := .agg #[.bool false, .slice b n c]) (by simp [results, Tryz.results114, go_sem]) rfl ⟨?_, rfl⟩
  exact (Below.refl _ _).alloc (Nat.le_refl _) _

set_option maxRecDepth 100000 in
theorem wnorm_any (w : World) (v : Value) (l : List Nat) (h : Limbs w v l) (hl : l.length ≤ 34359738368) :
    Calls Tryz.prog 68 #[.agg #[.bool false, v]] w fun e w' => Below w.heap.size w w' ∧ ∃ v' : Value, e = .returned (.agg #[.bool false, v']) ∧ Limbs w' v' (limbs (val l)) ∧ New w.heap.size v' := by
  obtain ⟨W, hW⟩ : ∃ W, W = (w.alloc (.cells #[.bool false, v] 30)).alloc (.cells #[.bool false, .slice none 0 0] 30) := ⟨_, rfl⟩
  have hb : Below w.heap.size w W := by rw [hW]; exact ((Below.refl _ _).alloc (Nat.le_refl _) _).alloc (by simp) _
  have hWs : W.heap.size = w.heap.size + 2 := by rw [hW]; simp
  have hres := Blk.new (w.alloc (.cells #[.bool false, v] 30)) #[.bool false, .slice none 0 0] 30
  rw [← hW] at hres
  have HRES := Lib.hid hres
  have HWS := Lib.hid hWs
  have HC := Lib.hid (signed_any W v l (h.below hb) hl)
  have HB := Lib.hid hb
  have HW := Lib.hid hW
  clear h hb hW hres hWs
  go_enter Tryz.func68, Tryz.ntmps68
  go_wp2_with fail
  rw [← HW.out]
  refine HC.out.mono ?_
  rintro e w1 ⟨hb1, s, v1, rfl, hs, h1, hn1⟩
  have HN1 := Lib.hid (hn1.mono (B' := w.heap.size) HB.out.size)
  clear hn1
  have HB1 := Lib.hid hb1
  have HS := Lib.hid hs
  have HL := Lib.hid h1
  obtain ⟨b, c, rfl⟩ := h1.slice
  clear hb1 hs h1
  go_wp2_with fail
  refine (made_any w1 s HS.out b _ c).mono ?_
  rintro e w2 ⟨hb2, rfl⟩
  have hr2 := (HRES.out.below HB1.out (by rw [HWS.out]; simp)).below hb2 (by have := HB1.out.size; rw [HWS.out] at this; simp; omega)
  rw [show (w.alloc (Obj.cells #[Value.bool false, v] 30)).heap.size = w.heap.size + 1 by simp] at hr2
  have c0 := hr2.cell 0
  have c1 := hr2.cell 1
  have f0 := hr2.free 0
  have f1 := hr2.free 1
  simp only [List.getElem?_toArray, List.getElem?_cons_zero, List.getElem?_cons_succ] at c0 c1
  have hb3 : Below w.heap.size w w2 := (HB.out.trans (HB1.out.mono HB.out.size)).trans (hb2.mono (Nat.le_trans HB.out.size HB1.out.size))
  have hlim := HL.out.below hb2
  have HB3 := Lib.hid hb3
  have HLIM := Lib.hid hlim
  have HR2 := Lib.hid hr2
  clear hr2 hb2 hb3 hlim HRES
  generalize (limbs (val l)).length = n at HLIM HN1 ⊢
  go_wp2
  refine bodyPost_ret (v := .agg #[.bool false, .slice b n c]) (by simp [results, Tryz.results68, go_sem, c0, c1]) rfl ⟨?_, _, rfl, ?_, HN1.out⟩
  · exact (HB3.out.setCell (by simp) _).setCell (by simp) _
  · have hs1 := HR2.out.set 0 (.bool false)
    exact (HLIM.out.set HR2.out (no_limb2 _ _ (by simp) (by simp)) 0 _).set hs1 (by
      simp only [List.setIfInBounds_toArray, List.set_cons_zero]
      exact no_limb2 _ _ (by simp) (by simp)) 1 _
end Go.Proofs.YtbhfoelnoddlkaaGreatDoor.D

