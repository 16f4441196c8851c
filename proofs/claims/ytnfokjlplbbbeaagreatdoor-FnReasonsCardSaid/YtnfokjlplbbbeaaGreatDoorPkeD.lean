/-
  Texts of this proof, one behind the other: LayStr, TextM, Str, Txt1, Txt2, OrdM, Plan, PlanT, Txt3, Txt5, Txt6, Txt7, Put, RdO.
-/
import Derived.Shelf.Strings.Builder1
import Derived.Shelf.Strings.Builder2
import Derived.Shelf.Strings.OnBuilder
import Derived.Shelf.Small.Bits
import Derived.Shelf.Strings.BuilderF
import Derived.Shelf.Strings.Builder2Cap
import Derived.Shelf.Strconv.Atoi
import Derived.Shelf.Strconv.Itoa0
import Derived.Shelf.Strconv.Itoa1
import Derived.Shelf.LaysM
import Derived.Shelf.Strconv.Itoa2
import Derived.Shelf.Strconv.Itoa3
import Derived.Shelf.Strconv.AtoiErrFast
import Derived.Shelf.Strconv.ParseIntEmpty
import Derived.Shelf.Strconv.AtoiFail
import Derived.Shelf.Strconv.Clone
import Derived.Shelf.Strconv.SyntaxError
import Derived.Shelf.LaysC
import Derived.Shelf.Strconv.ToError
import Derived.Shelf.Strconv.Lower
import Derived.Shelf.Strconv.ParseUint10
import Derived.Shelf.Strconv.ParseUint10Empty
import Derived.Shelf.Strconv.ParseUint10Any
import Derived.Shelf.Strconv.ParseInt10
import Derived.Shelf.Strconv.AtoiLong
import Derived.Shelf.Strconv.AtoiInnerAll
import Derived.Shelf.Strconv.RangeError
import Derived.Shelf.Strconv.ToErrorRange
import Derived.Shelf.Strconv.AtoiAll
import Derived.Shelf.Strconv.ErrVarAll
import Derived.Shelf.Strconv.ParseUintEmpty
import Derived.Shelf.Sort.Plain
import Derived.Ground.Names2Prog
import Derived.Shelf.Slices.SearchI
import Derived.Shelf.Slices.In.SortNone
import Derived.Test.YtnfokjlplbbbeaaGreatDoorProg
import Derived.Lib.AtoiAllCases
import Derived.Lib.AtoiTie
import Derived.Lib.ItoaMem
import Derived.Test.YtnfokjlplbbbeaaGreatDoorPkeA
import Derived.Laws.BytesString
import Derived.Lib.Strings
import Derived.Test.YtnfokjlplbbbeaaGreatDoorPkeC

/-
  The contracts of the library's numerals at this program: written by the kit's tools lay-shelf and lay-plain.
-/
namespace Go.Proofs
open Go.Shelf
def Tryz.lays169_ren : Go.Shelf.Ren := ⟨fun | 169 => 75 | n => n, fun | 70 => 90 | 9 => 9 | 0 => 0 | 72 => 92 | 37 => 24 | 127 => 115 | 3 => 3 | 5 => 5 | n => n, fun | n => n⟩
def Tryz.lays241_ren : Go.Shelf.Ren := ⟨fun | 241 => 95 | 277 => 108 | n => n, fun | 70 => 90 | 3 => 3 | 0 => 0 | 72 => 92 | 37 => 24 | 5 => 5 | n => n, fun | n => n⟩
def Tryz.lays165_ren : Go.Shelf.Ren := ⟨fun | 165 => 73 | 240 => 94 | 241 => 95 | 276 => 107 | 277 => 108 | n => n, fun | 70 => 90 | 3 => 3 | 0 => 0 | 4 => 4 | 9 => 9 | 20 => 20 | 72 => 92 | 37 => 24 | 164 => 125 | 5 => 5 | n => n, fun | n => n⟩
def Tryz.lays156_ren : Go.Shelf.Ren := ⟨fun | 156 => 45 | 165 => 73 | 166 => 74 | 169 => 75 | 240 => 94 | 241 => 95 | 276 => 107 | 277 => 108 | n => n, fun | 31 => 63 | 9 => 9 | 3 => 3 | 4 => 4 | 0 => 0 | 20 => 20 | 72 => 92 | 76 => 96 | 70 => 90 | 37 => 24 | 75 => 95 | 127 => 115 | 164 => 125 | 5 => 5 | 80 => 98 | n => n, fun | n => n⟩
theorem Tryz.lays156 : Go.Proofs.Lays.n156 Tryz.prog Tryz.lays156_ren := {
  mixed := by kernel_rfl
  f156 := Tryz.func45.trans (congrArg some (by kernel_rfl))
  f165 := Tryz.func73.trans (congrArg some (by kernel_rfl))
  f166 := Tryz.func74.trans (congrArg some (by kernel_rfl))
  f169 := Tryz.func75.trans (congrArg some (by kernel_rfl))
  f240 := Tryz.func94.trans (congrArg some (by kernel_rfl))
  f241 := Tryz.func95.trans (congrArg some (by kernel_rfl))
  f276 := Tryz.func107.trans (congrArg some (by kernel_rfl))
  f277 := Tryz.func108.trans (congrArg some (by kernel_rfl))
  t0 := Tryz.underlying0
  a0 := Tryz.isAgg0
  z0 := Tryz.sizeOf0
  v0 := Tryz.zeroValue0
  t3 := Tryz.underlying3
  a3 := Tryz.isAgg3
  z3 := Tryz.sizeOf3
  v3 := Tryz.zeroValue3
  t4 := Tryz.underlying4
  a4 := Tryz.isAgg4
  z4 := Tryz.sizeOf4
  v4 := Tryz.zeroValue4
  t9 := Tryz.underlying9
  a9 := Tryz.isAgg9
  z9 := Tryz.sizeOf9
  v9 := Tryz.zeroValue9
  t20 := Tryz.underlying20
  a20 := Tryz.isAgg20
  z20 := Tryz.sizeOf20
  v20 := Tryz.zeroValue20
  t31 := Tryz.underlying63
  a31 := Tryz.isAgg63
  z31 := Tryz.sizeOf63
  v31 := Tryz.zeroValue63
  t37 := Tryz.underlying24
  a37 := Tryz.isAgg24
  z37 := Tryz.sizeOf24
  v37 := Tryz.zeroValue24
  t70 := Tryz.underlying90
  a70 := Tryz.isAgg90
  z70 := Tryz.sizeOf90
  v70 := Tryz.zeroValue90
  t72 := Tryz.underlying92
  a72 := Tryz.isAgg92
  z72 := Tryz.sizeOf92
  v72 := Tryz.zeroValue92
  t75 := Tryz.underlying95
  a75 := Tryz.isAgg95
  z75 := Tryz.sizeOf95
  v75 := Tryz.zeroValue95
  t76 := Tryz.underlying96
  a76 := Tryz.isAgg96
  z76 := Tryz.sizeOf96
  v76 := Tryz.zeroValue96
  t127 := Tryz.underlying115
  a127 := Tryz.isAgg115
  z127 := Tryz.sizeOf115
  v127 := Tryz.zeroValue115
  t164 := Tryz.underlying125
  a164 := Tryz.isAgg125
  z164 := Tryz.sizeOf125
  v164 := Tryz.zeroValue125 }
theorem Tryz.Builder_Extra_156 : Builder.Extra Tryz.prog Tryz.lays156_ren := {
  sizeBuilder := by kernel_rfl
  liesBuilder := by kernel_rfl
  t5 := Tryz.underlying5
  a5 := Tryz.isAgg5
  z5 := Tryz.sizeOf5
  v5 := Tryz.zeroValue5
  infoByte := by kernel_rfl
  cellsByte := by kernel_rfl
  sizeByte := by kernel_rfl
  neB5 := by decide }
open Go.RowKit in
/-- No element: the empty string; the world is as it was. (Whatever the slice's address and capacity: a nil slice too.) (LAID: no walk: one application.) -/
theorem Tryz.strings_Join_none (a : Option Addr) (c : Nat) (sep : ByteArray) (w : World) :
    Calls Tryz.prog 45 #[.slice a 0 c, .string sep] w fun e w' => e = .returned (.string ⟨#[]⟩) ∧ w' = w := Any.strings_Join_none Tryz.lays156 Tryz.Builder_Extra_156 a c sep w
open Go.RowKit in
/-- strings.Join: "Join concatenates the elements of its first argument to create a single string. The separator string sep is placed between elements in the resulting string.": HOWEVER MANY ELEMENTS. Below the heap's end the world is as it was. (LAID: no walk: one application.) -/
theorem Tryz.strings_Join (bk o c : Nat) (xs : List ByteArray) (sep : ByteArray) (w : World) (hcells : ∀ (j : Nat) x, xs[j]? = some x → w.cell? ⟨bk, o + j, none⟩ = some (.string x)) (hbk : bk < w.heap.size) (hN : xs.length ≤ 140737488355328) (hcap : xs.length ≤ c) (hlen : (Lib.join (xs.map (·.data.toList)) sep.data.toList).length ≤ 140737488355328) :
    Calls Tryz.prog 45 #[.slice (some ⟨bk, o, none⟩) xs.length c, .string sep] w fun e w' => e = .returned (.string ⟨(Lib.join (xs.map (·.data.toList)) sep.data.toList).toArray⟩) ∧ Below w.heap.size w w' := Any.strings_Join Tryz.lays156 Tryz.Builder_Extra_156 bk o c xs sep w hcells hbk hN hcap hlen
def Tryz.lays128_ren : Go.Shelf.Ren := ⟨fun | 128 => 91 | n => n, fun | 51 => 112 | 3 => 3 | 4 => 4 | 46 => 89 | 5 => 5 | 9 => 9 | n => n, fun | n => n⟩
def Tryz.lays125_ren : Go.Shelf.Ren := ⟨fun | 125 => 71 | 128 => 91 | 129 => 92 | n => n, fun | 46 => 89 | 3 => 3 | 51 => 112 | 53 => 114 | 4 => 4 | 5 => 5 | 9 => 9 | n => n, fun | n => n⟩
def Tryz.lays244_ren : Go.Shelf.Ren := ⟨fun | 244 => 113 | 247 => 119 | 287 => 128 | 321 => 133 | 322 => 134 | n => n, fun | 9 => 9 | 3 => 3 | 75 => 95 | 4 => 4 | 5 => 5 | 167 => 137 | 37 => 24 | 0 => 0 | 85 => 138 | 2 => 2 | 53 => 114 | 175 => 147 | 46 => 89 | 21 => 21 | 80 => 98 | n => n, fun | n => n⟩
def Tryz.lays172_ren : Go.Shelf.Ren := ⟨fun | 172 => 110 | 244 => 113 | 245 => 114 | 247 => 119 | 279 => 120 | 280 => 121 | 281 => 122 | 282 => 123 | 287 => 128 | 316 => 129 | 171 => 93 | 205 => 130 | 321 => 133 | 322 => 134 | 243 => 106 | 246 => 112 | 283 => 115 | 284 => 116 | 285 => 117 | 286 => 118 | 129 => 92 | 317 => 124 | 318 => 125 | 319 => 126 | 320 => 127 | 337 => 131 | 338 => 132 | n => n, fun | 9 => 9 | 3 => 3 | 75 => 95 | 76 => 96 | 4 => 4 | 5 => 5 | 167 => 137 | 37 => 24 | 0 => 0 | 85 => 138 | 2 => 2 | 168 => 140 | 53 => 114 | 175 => 147 | 46 => 89 | 210 => 151 | 127 => 115 | 145 => 156 | 143 => 154 | 21 => 21 | 171 => 133 | 173 => 135 | 212 => 145 | 51 => 112 | 20 => 20 | 213 => 146 | 232 => 157 | 233 => 158 | 80 => 98 | n => n, fun | 15 => 2 | 16 => 3 | 17 => 1 | 18 => 4 | 19 => 5 | n => n⟩
def Tryz.lays129_ren : Go.Shelf.Ren := ⟨fun | 129 => 92 | n => n, fun | 53 => 114 | 3 => 3 | 4 => 4 | 46 => 89 | 5 => 5 | 9 => 9 | n => n, fun | n => n⟩
def Tryz.lays317_ren : Go.Shelf.Ren := ⟨fun | 317 => 124 | n => n, fun | 3 => 3 | 46 => 89 | n => n, fun | n => n⟩
def Tryz.lays318_ren : Go.Shelf.Ren := ⟨fun | 318 => 125 | n => n, fun | 3 => 3 | 4 => 4 | n => n, fun | n => n⟩
def Tryz.lays283_ren : Go.Shelf.Ren := ⟨fun | 283 => 115 | n => n, fun | 3 => 3 | 9 => 9 | 4 => 4 | n => n, fun | n => n⟩
def Tryz.laysM284_ren : Go.Shelf.Ren := ⟨fun | 284 => 116 | 129 => 92 | 317 => 124 | 318 => 125 | n => n, fun | 53 => 114 | 3 => 3 | 212 => 145 | 0 => 0 | 4 => 4 | 46 => 89 | 5 => 5 | 9 => 9 | n => n, fun | 17 => 1 | n => n⟩
def Tryz.lays285_ren : Go.Shelf.Ren := ⟨fun | 285 => 117 | n => n, fun | 37 => 24 | 53 => 114 | 3 => 3 | 4 => 4 | 51 => 112 | 9 => 9 | 5 => 5 | 0 => 0 | n => n, fun | n => n⟩
def Tryz.laysM246_ren : Go.Shelf.Ren := ⟨fun | 246 => 112 | 283 => 115 | 284 => 116 | 285 => 117 | 286 => 118 | 129 => 92 | 317 => 124 | 318 => 125 | 319 => 126 | 320 => 127 | 337 => 131 | 338 => 132 | n => n, fun | 2 => 2 | 3 => 3 | 9 => 9 | 4 => 4 | 171 => 133 | 0 => 0 | 53 => 114 | 37 => 24 | 5 => 5 | 173 => 135 | 212 => 145 | 51 => 112 | 20 => 20 | 213 => 146 | 46 => 89 | 232 => 157 | 233 => 158 | n => n, fun | 17 => 1 | 18 => 4 | 19 => 5 | n => n⟩
def Tryz.lays246_ren : Go.Shelf.Ren := ⟨fun | 246 => 112 | 283 => 115 | 284 => 116 | 285 => 117 | 286 => 118 | 129 => 92 | 317 => 124 | 318 => 125 | 319 => 126 | 320 => 127 | 337 => 131 | 338 => 132 | n => n, fun | 2 => 2 | 3 => 3 | 9 => 9 | 4 => 4 | 171 => 133 | 0 => 0 | 53 => 114 | 37 => 24 | 5 => 5 | 173 => 135 | 212 => 145 | 51 => 112 | 20 => 20 | 213 => 146 | 46 => 89 | 232 => 157 | 233 => 158 | n => n, fun | 17 => 1 | 18 => 4 | 19 => 5 | n => n⟩
def Tryz.laysM243_ren : Go.Shelf.Ren := ⟨fun | 243 => 106 | 246 => 112 | 283 => 115 | 284 => 116 | 285 => 117 | 286 => 118 | 129 => 92 | 317 => 124 | 318 => 125 | 319 => 126 | 320 => 127 | 337 => 131 | 338 => 132 | n => n, fun | 3 => 3 | 9 => 9 | 2 => 2 | 4 => 4 | 171 => 133 | 0 => 0 | 53 => 114 | 37 => 24 | 5 => 5 | 173 => 135 | 212 => 145 | 51 => 112 | 20 => 20 | 213 => 146 | 46 => 89 | 232 => 157 | 233 => 158 | n => n, fun | 17 => 1 | 18 => 4 | 19 => 5 | n => n⟩
def Tryz.lays243_ren : Go.Shelf.Ren := ⟨fun | 243 => 106 | 246 => 112 | 283 => 115 | 284 => 116 | 285 => 117 | 286 => 118 | 129 => 92 | 317 => 124 | 318 => 125 | 319 => 126 | 320 => 127 | 337 => 131 | 338 => 132 | n => n, fun | 3 => 3 | 9 => 9 | 2 => 2 | 4 => 4 | 171 => 133 | 0 => 0 | 53 => 114 | 37 => 24 | 5 => 5 | 173 => 135 | 212 => 145 | 51 => 112 | 20 => 20 | 213 => 146 | 46 => 89 | 232 => 157 | 233 => 158 | n => n, fun | 17 => 1 | 18 => 4 | 19 => 5 | n => n⟩
def Tryz.laysM171_ren : Go.Shelf.Ren := ⟨fun | 171 => 93 | 243 => 106 | 246 => 112 | 283 => 115 | 284 => 116 | 285 => 117 | 286 => 118 | 129 => 92 | 317 => 124 | 318 => 125 | 319 => 126 | 320 => 127 | 337 => 131 | 338 => 132 | n => n, fun | 3 => 3 | 9 => 9 | 2 => 2 | 4 => 4 | 171 => 133 | 0 => 0 | 53 => 114 | 37 => 24 | 5 => 5 | 173 => 135 | 212 => 145 | 51 => 112 | 20 => 20 | 213 => 146 | 46 => 89 | 232 => 157 | 233 => 158 | n => n, fun | 17 => 1 | 18 => 4 | 19 => 5 | n => n⟩
theorem Tryz.laysM171 : Go.Proofs.LaysM.n171 Tryz.prog Tryz.laysM171_ren := {
  mixed := by kernel_rfl
  f129 := Tryz.func92.trans (congrArg some (by kernel_rfl))
  f171 := Tryz.func93.trans (congrArg some (by kernel_rfl))
  f243 := Tryz.func106.trans (congrArg some (by kernel_rfl))
  f246 := Tryz.func112.trans (congrArg some (by kernel_rfl))
  f283 := Tryz.func115.trans (congrArg some (by kernel_rfl))
  f284 := Tryz.func116.trans (congrArg some (by kernel_rfl))
  f285 := Tryz.func117.trans (congrArg some (by kernel_rfl))
  f286 := Tryz.func118.trans (congrArg some (by kernel_rfl))
  f317 := Tryz.func124.trans (congrArg some (by kernel_rfl))
  f318 := Tryz.func125.trans (congrArg some (by kernel_rfl))
  f319 := Tryz.func126.trans (congrArg some (by kernel_rfl))
  f320 := Tryz.func127.trans (congrArg some (by kernel_rfl))
  f337 := Tryz.func131.trans (congrArg some (by kernel_rfl))
  f338 := Tryz.func132.trans (congrArg some (by kernel_rfl))
  t0 := Tryz.underlying0
  a0 := Tryz.isAgg0
  z0 := Tryz.sizeOf0
  v0 := Tryz.zeroValue0
  t2 := Tryz.underlying2
  a2 := Tryz.isAgg2
  z2 := Tryz.sizeOf2
  v2 := Tryz.zeroValue2
  t3 := Tryz.underlying3
  a3 := Tryz.isAgg3
  z3 := Tryz.sizeOf3
  v3 := Tryz.zeroValue3
  t4 := Tryz.underlying4
  a4 := Tryz.isAgg4
  z4 := Tryz.sizeOf4
  v4 := Tryz.zeroValue4
  t5 := Tryz.underlying5
  a5 := Tryz.isAgg5
  z5 := Tryz.sizeOf5
  v5 := Tryz.zeroValue5
  t9 := Tryz.underlying9
  a9 := Tryz.isAgg9
  z9 := Tryz.sizeOf9
  v9 := Tryz.zeroValue9
  t20 := Tryz.underlying20
  a20 := Tryz.isAgg20
  z20 := Tryz.sizeOf20
  v20 := Tryz.zeroValue20
  t37 := Tryz.underlying24
  a37 := Tryz.isAgg24
  z37 := Tryz.sizeOf24
  v37 := Tryz.zeroValue24
  t46 := Tryz.underlying89
  a46 := Tryz.isAgg89
  z46 := Tryz.sizeOf89
  v46 := Tryz.zeroValue89
  t51 := Tryz.underlying112
  a51 := Tryz.isAgg112
  z51 := Tryz.sizeOf112
  v51 := Tryz.zeroValue112
  t53 := Tryz.underlying114
  a53 := Tryz.isAgg114
  z53 := Tryz.sizeOf114
  v53 := Tryz.zeroValue114
  t171 := Tryz.underlying133
  a171 := Tryz.isAgg133
  z171 := Tryz.sizeOf133
  v171 := Tryz.zeroValue133
  t173 := Tryz.underlying135
  a173 := Tryz.isAgg135
  z173 := Tryz.sizeOf135
  v173 := Tryz.zeroValue135
  t212 := Tryz.underlying145
  a212 := Tryz.isAgg145
  z212 := Tryz.sizeOf145
  v212 := Tryz.zeroValue145
  t213 := Tryz.underlying146
  a213 := Tryz.isAgg146
  z213 := Tryz.sizeOf146
  t232 := Tryz.underlying157
  a232 := Tryz.isAgg157
  z232 := Tryz.sizeOf157
  v232 := Tryz.zeroValue157
  t233 := Tryz.underlying158
  a233 := Tryz.isAgg158
  z233 := Tryz.sizeOf158
  v233 := Tryz.zeroValue158
  g17 := by kernel_rfl
  g18 := by kernel_rfl
  g19 := by kernel_rfl
  i0 := by kernel_rfl
  i2 := by kernel_rfl
  i3 := by kernel_rfl
  i4 := by kernel_rfl
  i5 := by kernel_rfl
  i9 := by kernel_rfl
  i20 := by kernel_rfl
  i37 := by kernel_rfl
  i46 := by kernel_rfl
  i51 := by kernel_rfl
  i53 := by kernel_rfl
  i171 := by kernel_rfl
  i173 := by kernel_rfl
  i212 := by kernel_rfl
  i232 := by kernel_rfl
  i233 := by kernel_rfl
  m17 := by kernel_rfl
  m18 := by kernel_rfl
  m19 := by kernel_rfl }
open Go.RowKit Go.Sort Go.Lib in
/-- strconv.Itoa: "Itoa is equivalent to FormatInt(int64(i), 10).": i's DECIMAL NUMERAL ('Lib.itoa': a '-' where i is negative, then the digits), FOR EVERY int. The world behind the call: the world before it, new blocks behind the heap (the library's 'var a [24]byte'), draws. (LAID: no walk: one application.) -/
theorem Tryz.strconv_Itoa (n : Int) (h0 : -9223372036854775808 ≤ n) (h1 : n ≤ 9223372036854775807) (w : World) (htab : Lib.TabIs Tryz.prog w "internal/strconv.uint64pow10" .u64 Lib.pow10Tab) :
    Calls Tryz.prog 93 #[.int .i64 n] w fun e w' => e = .returned (.string ⟨(Lib.itoa n).toArray⟩) ∧ ∃ k os, w' = grow (w.drewN k) os := Any.strconv_Itoa Tryz.laysM171 n h0 h1 w htab
def Tryz.lays171_ren : Go.Shelf.Ren := ⟨fun | 171 => 93 | 243 => 106 | 246 => 112 | 283 => 115 | 284 => 116 | 285 => 117 | 286 => 118 | 129 => 92 | 317 => 124 | 318 => 125 | 319 => 126 | 320 => 127 | 337 => 131 | 338 => 132 | n => n, fun | 3 => 3 | 9 => 9 | 2 => 2 | 4 => 4 | 171 => 133 | 0 => 0 | 53 => 114 | 37 => 24 | 5 => 5 | 173 => 135 | 212 => 145 | 51 => 112 | 20 => 20 | 213 => 146 | 46 => 89 | 232 => 157 | 233 => 158 | n => n, fun | 17 => 1 | 18 => 4 | 19 => 5 | n => n⟩
def Tryz.lays247_ren : Go.Shelf.Ren := ⟨fun | 247 => 119 | 287 => 128 | 321 => 133 | 322 => 134 | n => n, fun | 9 => 9 | 3 => 3 | 2 => 2 | 75 => 95 | 4 => 4 | 167 => 137 | 5 => 5 | 53 => 114 | 175 => 147 | 46 => 89 | 37 => 24 | 0 => 0 | 21 => 21 | 80 => 98 | n => n, fun | n => n⟩
def Tryz.laysM316_ren : Go.Shelf.Ren := ⟨fun | 316 => 129 | n => n, fun | 9 => 9 | 3 => 3 | 4 => 4 | 37 => 24 | 0 => 0 | 127 => 115 | 5 => 5 | n => n, fun | n => n⟩
def Tryz.laysM279_ren : Go.Shelf.Ren := ⟨fun | 279 => 120 | 316 => 129 | n => n, fun | 9 => 9 | 168 => 140 | 75 => 95 | 210 => 151 | 3 => 3 | 4 => 4 | 37 => 24 | 0 => 0 | 127 => 115 | 80 => 98 | 5 => 5 | n => n, fun | 15 => 2 | n => n⟩
def Tryz.laysC245_ren : Go.Shelf.Ren := ⟨fun | 245 => 114 | 279 => 120 | 280 => 121 | 281 => 122 | 282 => 123 | 316 => 129 | 171 => 93 | 205 => 130 | 243 => 106 | 246 => 112 | 283 => 115 | 284 => 116 | 285 => 117 | 286 => 118 | 129 => 92 | 317 => 124 | 318 => 125 | 319 => 126 | 320 => 127 | 337 => 131 | 338 => 132 | n => n, fun | 9 => 9 | 3 => 3 | 75 => 95 | 167 => 137 | 4 => 4 | 168 => 140 | 210 => 151 | 37 => 24 | 0 => 0 | 127 => 115 | 145 => 156 | 143 => 154 | 2 => 2 | 171 => 133 | 53 => 114 | 5 => 5 | 173 => 135 | 212 => 145 | 51 => 112 | 20 => 20 | 213 => 146 | 46 => 89 | 232 => 157 | 233 => 158 | 80 => 98 | n => n, fun | 15 => 2 | 16 => 3 | 17 => 1 | 18 => 4 | 19 => 5 | n => n⟩
def Tryz.lays321_ren : Go.Shelf.Ren := ⟨fun | 321 => 133 | n => n, fun | 5 => 5 | n => n, fun | n => n⟩
def Tryz.lays287_ren : Go.Shelf.Ren := ⟨fun | 287 => 128 | 321 => 133 | 322 => 134 | n => n, fun | 9 => 9 | 3 => 3 | 53 => 114 | 75 => 95 | 4 => 4 | 167 => 137 | 5 => 5 | 46 => 89 | 37 => 24 | 0 => 0 | 21 => 21 | 80 => 98 | n => n, fun | n => n⟩
def Tryz.laysC247_ren : Go.Shelf.Ren := ⟨fun | 247 => 119 | 287 => 128 | 321 => 133 | 322 => 134 | n => n, fun | 9 => 9 | 3 => 3 | 2 => 2 | 75 => 95 | 4 => 4 | 167 => 137 | 5 => 5 | 53 => 114 | 175 => 147 | 46 => 89 | 37 => 24 | 0 => 0 | 21 => 21 | 80 => 98 | n => n, fun | n => n⟩
def Tryz.laysC244_ren : Go.Shelf.Ren := ⟨fun | 244 => 113 | 247 => 119 | 287 => 128 | 321 => 133 | 322 => 134 | n => n, fun | 9 => 9 | 3 => 3 | 75 => 95 | 4 => 4 | 5 => 5 | 167 => 137 | 37 => 24 | 0 => 0 | 85 => 138 | 2 => 2 | 53 => 114 | 175 => 147 | 46 => 89 | 21 => 21 | 80 => 98 | n => n, fun | n => n⟩
def Tryz.laysM280_ren : Go.Shelf.Ren := ⟨fun | 280 => 121 | 316 => 129 | n => n, fun | 9 => 9 | 168 => 140 | 75 => 95 | 210 => 151 | 3 => 3 | 4 => 4 | 37 => 24 | 0 => 0 | 127 => 115 | 80 => 98 | 5 => 5 | n => n, fun | 16 => 3 | n => n⟩
def Tryz.laysC172_ren : Go.Shelf.Ren := ⟨fun | 172 => 110 | 244 => 113 | 245 => 114 | 247 => 119 | 279 => 120 | 280 => 121 | 281 => 122 | 282 => 123 | 287 => 128 | 316 => 129 | 171 => 93 | 205 => 130 | 321 => 133 | 322 => 134 | 243 => 106 | 246 => 112 | 283 => 115 | 284 => 116 | 285 => 117 | 286 => 118 | 129 => 92 | 317 => 124 | 318 => 125 | 319 => 126 | 320 => 127 | 337 => 131 | 338 => 132 | n => n, fun | 9 => 9 | 3 => 3 | 75 => 95 | 76 => 96 | 4 => 4 | 5 => 5 | 167 => 137 | 37 => 24 | 0 => 0 | 85 => 138 | 2 => 2 | 168 => 140 | 53 => 114 | 175 => 147 | 46 => 89 | 210 => 151 | 127 => 115 | 145 => 156 | 143 => 154 | 21 => 21 | 171 => 133 | 173 => 135 | 212 => 145 | 51 => 112 | 20 => 20 | 213 => 146 | 232 => 157 | 233 => 158 | 80 => 98 | n => n, fun | 15 => 2 | 16 => 3 | 17 => 1 | 18 => 4 | 19 => 5 | n => n⟩
theorem Tryz.laysC172 : Go.Proofs.LaysC.n172 Tryz.prog Tryz.laysC172_ren := {
  mixed := by kernel_rfl
  f129 := Tryz.func92.trans (congrArg some (by kernel_rfl))
  f171 := Tryz.func93.trans (congrArg some (by kernel_rfl))
  f172 := Tryz.func110.trans (congrArg some (by kernel_rfl))
  f205 := Tryz.func130.trans (congrArg some (by kernel_rfl))
  f243 := Tryz.func106.trans (congrArg some (by kernel_rfl))
  f244 := Tryz.func113.trans (congrArg some (by kernel_rfl))
  f245 := Tryz.func114.trans (congrArg some (by kernel_rfl))
  f246 := Tryz.func112.trans (congrArg some (by kernel_rfl))
  f247 := Tryz.func119.trans (congrArg some (by kernel_rfl))
  f279 := Tryz.func120.trans (congrArg some (by kernel_rfl))
  f280 := Tryz.func121.trans (congrArg some (by kernel_rfl))
  f281 := Tryz.func122.trans (congrArg some (by kernel_rfl))
  f282 := Tryz.func123.trans (congrArg some (by kernel_rfl))
  f283 := Tryz.func115.trans (congrArg some (by kernel_rfl))
  f284 := Tryz.func116.trans (congrArg some (by kernel_rfl))
  f285 := Tryz.func117.trans (congrArg some (by kernel_rfl))
  f286 := Tryz.func118.trans (congrArg some (by kernel_rfl))
  f287 := Tryz.func128.trans (congrArg some (by kernel_rfl))
  f316 := Tryz.func129.trans (congrArg some (by kernel_rfl))
  f317 := Tryz.func124.trans (congrArg some (by kernel_rfl))
  f318 := Tryz.func125.trans (congrArg some (by kernel_rfl))
  f319 := Tryz.func126.trans (congrArg some (by kernel_rfl))
  f320 := Tryz.func127.trans (congrArg some (by kernel_rfl))
  f321 := Tryz.func133.trans (congrArg some (by kernel_rfl))
  f322 := Tryz.func134.trans (congrArg some (by kernel_rfl))
  f337 := Tryz.func131.trans (congrArg some (by kernel_rfl))
  f338 := Tryz.func132.trans (congrArg some (by kernel_rfl))
  t0 := Tryz.underlying0
  a0 := Tryz.isAgg0
  z0 := Tryz.sizeOf0
  v0 := Tryz.zeroValue0
  t2 := Tryz.underlying2
  a2 := Tryz.isAgg2
  z2 := Tryz.sizeOf2
  v2 := Tryz.zeroValue2
  t3 := Tryz.underlying3
  a3 := Tryz.isAgg3
  z3 := Tryz.sizeOf3
  v3 := Tryz.zeroValue3
  t4 := Tryz.underlying4
  a4 := Tryz.isAgg4
  z4 := Tryz.sizeOf4
  v4 := Tryz.zeroValue4
  t5 := Tryz.underlying5
  a5 := Tryz.isAgg5
  z5 := Tryz.sizeOf5
  v5 := Tryz.zeroValue5
  t9 := Tryz.underlying9
  a9 := Tryz.isAgg9
  z9 := Tryz.sizeOf9
  v9 := Tryz.zeroValue9
  t20 := Tryz.underlying20
  a20 := Tryz.isAgg20
  z20 := Tryz.sizeOf20
  v20 := Tryz.zeroValue20
  t21 := Tryz.underlying21
  a21 := Tryz.isAgg21
  z21 := Tryz.sizeOf21
  v21 := Tryz.zeroValue21
  t37 := Tryz.underlying24
  a37 := Tryz.isAgg24
  z37 := Tryz.sizeOf24
  v37 := Tryz.zeroValue24
  t46 := Tryz.underlying89
  a46 := Tryz.isAgg89
  z46 := Tryz.sizeOf89
  v46 := Tryz.zeroValue89
  t51 := Tryz.underlying112
  a51 := Tryz.isAgg112
  z51 := Tryz.sizeOf112
  v51 := Tryz.zeroValue112
  t53 := Tryz.underlying114
  a53 := Tryz.isAgg114
  z53 := Tryz.sizeOf114
  v53 := Tryz.zeroValue114
  t75 := Tryz.underlying95
  a75 := Tryz.isAgg95
  z75 := Tryz.sizeOf95
  v75 := Tryz.zeroValue95
  t76 := Tryz.underlying96
  a76 := Tryz.isAgg96
  z76 := Tryz.sizeOf96
  v76 := Tryz.zeroValue96
  t85 := Tryz.underlying138
  a85 := Tryz.isAgg138
  z85 := Tryz.sizeOf138
  v85 := Tryz.zeroValue138
  t127 := Tryz.underlying115
  a127 := Tryz.isAgg115
  z127 := Tryz.sizeOf115
  v127 := Tryz.zeroValue115
  t143 := Tryz.underlying154
  a143 := Tryz.isAgg154
  z143 := Tryz.sizeOf154
  v143 := Tryz.zeroValue154
  t145 := Tryz.underlying156
  a145 := Tryz.isAgg156
  z145 := Tryz.sizeOf156
  v145 := Tryz.zeroValue156
  t167 := Tryz.underlying137
  a167 := Tryz.isAgg137
  z167 := Tryz.sizeOf137
  v167 := Tryz.zeroValue137
  t168 := Tryz.underlying140
  a168 := Tryz.isAgg140
  z168 := Tryz.sizeOf140
  v168 := Tryz.zeroValue140
  t171 := Tryz.underlying133
  a171 := Tryz.isAgg133
  z171 := Tryz.sizeOf133
  v171 := Tryz.zeroValue133
  t173 := Tryz.underlying135
  a173 := Tryz.isAgg135
  z173 := Tryz.sizeOf135
  v173 := Tryz.zeroValue135
  t175 := Tryz.underlying147
  a175 := Tryz.isAgg147
  z175 := Tryz.sizeOf147
  v175 := Tryz.zeroValue147
  t210 := Tryz.underlying151
  a210 := Tryz.isAgg151
  z210 := Tryz.sizeOf151
  v210 := Tryz.zeroValue151
  t212 := Tryz.underlying145
  a212 := Tryz.isAgg145
  z212 := Tryz.sizeOf145
  v212 := Tryz.zeroValue145
  t213 := Tryz.underlying146
  a213 := Tryz.isAgg146
  z213 := Tryz.sizeOf146
  t232 := Tryz.underlying157
  a232 := Tryz.isAgg157
  z232 := Tryz.sizeOf157
  v232 := Tryz.zeroValue157
  t233 := Tryz.underlying158
  a233 := Tryz.isAgg158
  z233 := Tryz.sizeOf158
  v233 := Tryz.zeroValue158
  g15 := by kernel_rfl
  g16 := by kernel_rfl
  g17 := by kernel_rfl
  g18 := by kernel_rfl
  g19 := by kernel_rfl
  t80 := Tryz.underlying98
  a80 := Tryz.isAgg98
  z80 := Tryz.sizeOf98
  v80 := Tryz.zeroValue98
  i0 := by kernel_rfl
  i2 := by kernel_rfl
  i3 := by kernel_rfl
  i4 := by kernel_rfl
  i5 := by kernel_rfl
  i9 := by kernel_rfl
  i20 := by kernel_rfl
  i21 := by kernel_rfl
  i37 := by kernel_rfl
  i46 := by kernel_rfl
  i51 := by kernel_rfl
  i53 := by kernel_rfl
  i75 := by kernel_rfl
  i76 := by kernel_rfl
  i80 := by kernel_rfl
  i85 := by kernel_rfl
  i127 := by kernel_rfl
  i143 := by kernel_rfl
  i145 := by kernel_rfl
  i167 := by kernel_rfl
  i168 := by kernel_rfl
  i171 := by kernel_rfl
  i173 := by kernel_rfl
  i175 := by kernel_rfl
  i210 := by kernel_rfl
  i212 := by kernel_rfl
  i232 := by kernel_rfl
  i233 := by kernel_rfl
  m15 := by kernel_rfl
  m16 := by kernel_rfl
  m17 := by kernel_rfl
  m18 := by kernel_rfl
  m19 := by kernel_rfl
  c0 := by kernel_rfl
  c2 := by kernel_rfl
  c3 := by kernel_rfl
  c4 := by kernel_rfl
  c5 := by kernel_rfl
  c9 := by kernel_rfl
  c20 := by kernel_rfl
  c21 := by kernel_rfl
  c37 := by kernel_rfl
  c46 := by kernel_rfl
  c51 := by kernel_rfl
  c53 := by kernel_rfl
  c75 := by kernel_rfl
  c76 := by kernel_rfl
  c80 := by kernel_rfl
  c85 := by kernel_rfl
  c127 := by kernel_rfl
  c143 := by kernel_rfl
  c145 := by kernel_rfl
  c167 := by kernel_rfl
  c168 := by kernel_rfl
  c171 := by kernel_rfl
  c173 := by kernel_rfl
  c175 := by kernel_rfl
  c210 := by kernel_rfl
  c212 := by kernel_rfl
  c213 := by kernel_rfl
  c232 := by kernel_rfl
  c233 := by kernel_rfl }
open Go.RowKit in
/-- strconv.Atoi, AT EVERY STRING THAT SPELLS AN int ('Lib.atoiAll .. = .ok v'; of whatever length: leading zeros count): v, AND NO ERROR. The world: as it was, or with the one new row that '[]byte(..)' lays. (LAID: no walk: one application.) -/
theorem Tryz.strconv_Atoi_ok (s : ByteArray) (hmax : s.size ≤ 9223372036854775806) (v : Int) (h : Lib.atoiAll s.data.toList = .ok v) (w : World) :
    Calls Tryz.prog 110 #[.string s] w fun e w' => e = .returned (.tuple #[.int .i64 v, .nilIface]) ∧ (w' = w ∨ ∃ t, w' = Lib.bytesWorld w 5 t) := Any.strconv_Atoi_ok Tryz.laysC172 s hmax v h w
open Go.RowKit in
theorem Tryz.strconv_Atoi_syntax_var (s : ByteArray) (hlim : s.size ≤ 281474976710656) (h : Lib.atoiAll s.data.toList = Lib.atoiAll []) (tp : TypeId) (p : Value) (w : World) (hvar : w.var? Tryz.prog "strconv.ErrSyntax" = some #[.iface tp p]) :
    Calls Tryz.prog 110 #[.string s] w fun e w' => ∃ N, e = .returned (.tuple #[.int .i64 0, .iface 140 (.pointer (some ⟨N, 0, none⟩))]) ∧ w.heap.size ≤ N ∧ w'.heap[N]? = some (.cells #[.string ⟨#[65, 116, 111, 105]⟩, .string s, .iface tp p] 151 (0, 0)) ∧ Below w.heap.size w w' := Any.strconv_Atoi_syntax_var Tryz.laysC172 s hlim h tp p w hvar
open Go.RowKit in
theorem Tryz.strconv_Atoi_range_var (s : ByteArray) (hlim : s.size ≤ 281474976710656) (h : Lib.atoiAll s.data.toList = .range) (tp : TypeId) (p : Value) (w : World) (hvar : w.var? Tryz.prog "strconv.ErrRange" = some #[.iface tp p]) :
    Calls Tryz.prog 110 #[.string s] w fun e w' => ∃ N, e = .returned (.tuple #[.int .i64 (Lib.atoiSat s.data.toList), .iface 140 (.pointer (some ⟨N, 0, none⟩))]) ∧ w.heap.size ≤ N ∧ w'.heap[N]? = some (.cells #[.string ⟨#[65, 116, 111, 105]⟩, .string s, .iface tp p] 151 (0, 0)) ∧ Below w.heap.size w w' := Any.strconv_Atoi_range_var Tryz.laysC172 s hlim h tp p w hvar
def Tryz.lays189_ren : Go.Shelf.Ren := ⟨fun | 189 => 42 | 125 => 71 | 257 => 70 | 128 => 91 | 129 => 92 | 294 => 82 | 295 => 83 | 296 => 84 | 297 => 85 | 298 => 86 | 299 => 87 | 216 => 88 | 300 => 89 | 301 => 90 | 328 => 100 | 329 => 101 | 330 => 102 | 331 => 103 | 332 => 104 | 215 => 105 | 343 => 111 | n => n, fun | 28 => 65 | 3 => 3 | 46 => 89 | 0 => 0 | 51 => 112 | 53 => 114 | 4 => 4 | 183 => 105 | 182 => 104 | 131 => 109 | 5 => 5 | 9 => 9 | 218 => 119 | 222 => 123 | 228 => 128 | 229 => 129 | n => n, fun | n => n⟩
def Tryz.laysNm237_ren : Go.Shelf.Ren := ⟨fun | 37 => 105 | n => n, fun | 3 => 3 | 4 => 4 | n => n, fun | n => n⟩
def Tryz.laysNm231_ren : Go.Shelf.Ren := ⟨fun | 31 => 88 | 37 => 105 | n => n, fun | 3 => 3 | 4 => 4 | n => n, fun | n => n⟩
end Go.Proofs

/-
  Texts: parts between separators, and numbers.
-/
namespace Go.Proofs.YtnfokjlplbbbeaaGreatDoor
open Go.Lib
/-- What stands between the bytes b of a text. -/
def partsM (b : UInt8) : List UInt8 → List (List UInt8)
  | [] => [[]]
  | c :: r => if c = b then [] :: partsM b r else match partsM b r with
    | p :: ps => (c :: p) :: ps
    | [] => [[c]]
def joinM (b : UInt8) : List (List UInt8) → List UInt8
  | [] => []
  | [p] => p
  | p :: q :: r => p ++ b :: joinM b (q :: r)
theorem parts_ne (b : UInt8) : ∀ l, partsM b l ≠ []
  | [] => by simp [partsM]
  | c :: r => by
    rw [partsM]; split
    · simp
    · split <;> simp
theorem parts_none {b : UInt8} : ∀ {l : List UInt8}, b ∉ l → partsM b l = [l]
  | [], _ => rfl
  | c :: r, h => by
    rw [partsM, if_neg (fun e => h (by rw [e]; exact List.mem_cons_self)), parts_none (fun hr => h (List.mem_cons_of_mem _ hr))]
theorem parts_cut {b : UInt8} : ∀ {a : List UInt8} (r : List UInt8), b ∉ a → partsM b (a ++ b :: r) = a :: partsM b r
  | [], r, _ => by rw [List.nil_append, partsM, if_pos rfl]
  | c :: a, r, h => by
    rw [List.cons_append, partsM, if_neg (fun e => h (by rw [e]; exact List.mem_cons_self)), parts_cut r (fun hr => h (List.mem_cons_of_mem _ hr))]
theorem parts_len (b : UInt8) : ∀ l, (partsM b l).length ≤ l.length + 1
  | [] => by simp [partsM]
  | c :: r => by
    have ih := parts_len b r
    rw [partsM]; split
    · simp only [List.length_cons]; omega
    · split
      · rename_i p ps e; rw [e] at ih; simp only [List.length_cons] at ih ⊢; omega
      · simp
theorem parts_each (b : UInt8) : ∀ l, ∀ q ∈ partsM b l, q.length ≤ l.length
  | [], q, h => by rw [partsM, List.mem_singleton] at h; rw [h]; exact Nat.le_refl _
  | c :: r, q, h => by
    rw [partsM] at h
    split at h
    · rcases List.mem_cons.1 h with rfl | h
      · exact Nat.zero_le _
      · have := parts_each b r q h; rw [List.length_cons]; omega
    · split at h
      · rename_i p ps e
        rcases List.mem_cons.1 h with rfl | h
        · have := parts_each b r p (by rw [e]; exact List.mem_cons_self); simp only [List.length_cons]; omega
        · have := parts_each b r q (by rw [e]; exact List.mem_cons_of_mem _ h); rw [List.length_cons]; omega
      · rename_i e; exact absurd e (parts_ne b r)
theorem parts_join {b : UInt8} : ∀ {ps : List (List UInt8)}, ps ≠ [] → (∀ p ∈ ps, b ∉ p) → partsM b (joinM b ps) = ps
  | [], h, _ => absurd rfl h
  | [p], _, h => by rw [joinM, parts_none (h p List.mem_cons_self)]
  | p :: q :: r, _, h => by
    rw [joinM, parts_cut _ (h p List.mem_cons_self), parts_join (by simp) (fun x hx => h x (List.mem_cons_of_mem _ hx))]
/-- The step of the loop over a text's bytes. -/
theorem parts_step {b : UInt8} {l : List UInt8} {a i : Nat} (ha : a ≤ i) (hi : l[i]? = some b) (h : b ∉ (l.drop a).take (i - a)) : partsM b (l.drop a) = ((l.take i).drop a) :: partsM b (l.drop (i + 1)) := by
  obtain ⟨hlt, e⟩ := List.getElem?_eq_some_iff.1 hi
  have e1 : l.drop a = (l.drop a).take (i - a) ++ b :: l.drop (i + 1) := by
    conv => lhs; rw [← List.take_append_drop (i - a) (l.drop a), List.drop_drop, show a + (i - a) = i from by omega, List.drop_eq_getElem_cons hlt, e]
  rw [e1, parts_cut _ h, List.drop_take]
theorem parts_last {b : UInt8} {l : List UInt8} {a : Nat} (h : b ∉ (l.drop a).take (l.length - a)) : partsM b (l.drop a) = [l.drop a] := by
  rw [List.take_of_length_le (by rw [List.length_drop]; omega)] at h
  exact parts_none h
theorem seg_next {b c : UInt8} {l : List UInt8} {a i : Nat} (ha : a ≤ i) (hi : l[i]? = some c) (hc : c ≠ b) (h : b ∉ (l.drop a).take (i - a)) : b ∉ (l.drop a).take (i + 1 - a) := by
  have e : (l.drop a).take (i + 1 - a) = (l.drop a).take (i - a) ++ [c] := by
    rw [show i + 1 - a = i - a + 1 from by omega, List.take_add_one, List.getElem?_drop, show a + (i - a) = i from by omega, hi]; rfl
  rw [e]
  intro hm
  rcases List.mem_append.1 hm with hm | hm
  · exact h hm
  · exact hc (List.mem_singleton.1 hm).symm
/-! ### Numbers -/
/-- The digits of a number, the last first taken off. -/
def digL (n : Nat) (out : List UInt8) : List UInt8 := if h : n = 0 then out else digL (n / 10) (UInt8.ofNat (48 + n % 10) :: out)
termination_by n
decreasing_by omega
def digitB (b : UInt8) : Bool := decide (48 ≤ b.toNat) && decide (b.toNat ≤ 57)
def valM (l : List UInt8) : Nat := l.foldl (fun n b => 10 * n + (b.toNat - 48)) 0
theorem val_snoc (l : List UInt8) (b : UInt8) : valM (l ++ [b]) = 10 * valM l + (b.toNat - 48) := by rw [valM, List.foldl_append]; rfl
theorem dig_byte {d : Nat} (h : d < 10) : (UInt8.ofNat (48 + d)).toNat = 48 + d := by
  rw [UInt8.toNat_ofNat']; exact Nat.mod_eq_of_lt (by omega)
theorem dec_val : ∀ n : Nat, valM (decDigits n) = n := by
  intro n
  induction n using Nat.strongRecOn with
  | _ n ih =>
    rw [decDigits]
    split
    · rename_i h; rw [show valM [UInt8.ofNat (48 + n)] = 10 * 0 + ((UInt8.ofNat (48 + n)).toNat - 48) from rfl, dig_byte h]; omega
    · rw [val_snoc, ih (n / 10) (by omega), dig_byte (by omega)]; omega
theorem dec_dig : ∀ n : Nat, (decDigits n).all digitB = true := by
  intro n
  induction n using Nat.strongRecOn with
  | _ n ih =>
    rw [decDigits]
    split
    · rename_i h
      simp only [List.all_cons, List.all_nil, Bool.and_true, digitB, dig_byte h, Bool.and_eq_true, decide_eq_true_eq]; omega
    · rw [List.all_append, ih (n / 10) (by omega)]
      simp only [List.all_cons, List.all_nil, Bool.and_true, Bool.true_and, digitB, dig_byte (show n % 10 < 10 by omega), Bool.and_eq_true, decide_eq_true_eq]; omega
/-- The number whose numeral a text is, if it is at most 999999. -/
def numberM (l : List UInt8) : Int × Bool :=
  if 1 ≤ l.length ∧ l.length ≤ 6 ∧ l.all digitB = true ∧ decDigits (valM l) = l then ((valM l : Int), true) else (0, false)
theorem number_ok {l : List UInt8} {n : Int} (h : numberM l = (n, true)) : 0 ≤ n ∧ n ≤ 999999 ∧ itoa n = l := by
  rw [numberM] at h
  split at h
  · rename_i hh
    obtain ⟨h1, h2, h3, h4⟩ := hh
    obtain ⟨rfl, _⟩ := Prod.mk.inj h
    refine ⟨by omega, ?_, by rw [itoa_nonneg, h4]⟩
    have h5 := lt_pow_nDigits (valM l)
    rw [← decDigits_length, h4] at h5
    have h6 : 10 ^ l.length ≤ 10 ^ 6 := Nat.pow_le_pow_right (by decide) h2
    omega
  · cases (Prod.mk.inj h).2
theorem digits_pow : ∀ k u : Nat, k + 1 < nDigits u → 10 ^ (k + 1) ≤ u
  | 0, u, hu => by
    by_cases h10 : u < 10
    · rw [nDigits_small h10] at hu; omega
    · simpa using Nat.le_of_not_lt h10
  | k + 1, u, hu => by
    by_cases h10 : u < 10
    · rw [nDigits_small h10] at hu; omega
    · rw [nDigits_big h10] at hu
      have := digits_pow k (u / 10) (by omega)
      rw [Nat.pow_succ]; omega
theorem number_mk {n : Int} (h0 : 0 ≤ n) (h1 : n ≤ 999999) : numberM (itoa n) = (n, true) := by
  obtain ⟨u, rfl⟩ := Int.eq_ofNat_of_zero_le h0
  have a1 : 1 ≤ (decDigits u).length := by rw [decDigits_length]; exact nDigits_pos u
  have a2 : (decDigits u).length ≤ 6 := by
    rw [decDigits_length]
    apply Decidable.byContradiction
    intro h
    have h7 := digits_pow 5 u (by omega)
    omega
  rw [itoa_nonneg, numberM]
  simp only [dec_val]
  exact if_pos ⟨a1, a2, dec_dig u, trivial⟩
theorem decFrom_val : ∀ (l : List UInt8) (acc : Nat), l.all digitB = true → decFrom acc l = some (l.foldl (fun n b => 10 * n + (b.toNat - 48)) acc)
  | [], acc, _ => rfl
  | b :: r, acc, h => by
    rw [List.all_cons, Bool.and_eq_true] at h
    have h1 := h.1
    rw [digitB, Bool.and_eq_true, decide_eq_true_eq, decide_eq_true_eq] at h1
    rw [decFrom, digitVal, if_pos h1]
    dsimp only
    rw [decFrom_val r _ h.2, List.foldl_cons, Nat.mul_comm acc 10]
theorem dec_ne (u : Nat) : ∃ b r, decDigits u = b :: r := by
  cases h : decDigits u with
  | nil => have := decDigits_length u; have := nDigits_pos u; rw [h] at *; simp only [List.length_nil] at *; omega
  | cons b r => exact ⟨b, r, rfl⟩
theorem atoi_itoa {n : Int} (h0 : 0 ≤ n) (h1 : n ≤ 999999) : atoiAll (itoa n) = .ok n := by
  obtain ⟨u, rfl⟩ := Int.eq_ofNat_of_zero_le h0
  have hl : (itoa (u : Int)).length ≤ 6 := by
    have := number_mk h0 h1
    rw [numberM] at this
    split at this
    · rename_i hh; exact hh.2.1
    · cases (Prod.mk.inj this).2
  rw [itoa_nonneg] at hl ⊢
  rw [atoiAll_short _ (by omega)]
  obtain ⟨b, r, hb⟩ := dec_ne u
  have hd := dec_dig u
  have hv := dec_val u
  rw [hb] at hd hv ⊢
  have hd1 := hd
  rw [List.all_cons, Bool.and_eq_true, digitB, Bool.and_eq_true, decide_eq_true_eq, decide_eq_true_eq] at hd1
  have e : atoi (b :: r) = some (u : Int) := by
    rw [atoi, if_neg, if_neg, decNat]
    · rw [if_neg (by simp), decFrom_val _ _ hd]
      rw [valM] at hv
      rw [hv]; rfl
    · intro e; have := eq_of_beq e; subst this; exact absurd hd1.1.1 (by decide)
    · intro e; have := eq_of_beq e; subst this; exact absurd hd1.1.1 (by decide)
  rw [e]; rfl
/-- What the program's Number makes of the library's answer. -/
theorem number_of_ok {l : List UInt8} {v : Int} (h : atoiAll l = .ok v) : numberM l = if 0 ≤ v ∧ v ≤ 999999 ∧ itoa v = l then (v, true) else (0, false) := by
  split
  · rename_i hh; rw [← hh.2.2]; exact number_mk hh.1 hh.2.1
  · rename_i hh
    cases hn : numberM l with
    | mk n b =>
      cases b with
      | false => rw [numberM] at hn; split at hn
                 · cases (Prod.mk.inj hn).2
                 · exact hn.symm
      | true =>
        obtain ⟨a1, a2, a3⟩ := number_ok hn
        have := atoi_itoa a1 a2
        rw [a3, h] at this
        injection this with this
        subst this
        exact absurd ⟨a1, a2, a3⟩ hh
theorem number_of_no {l : List UInt8} (h : ∀ v, atoiAll l ≠ .ok v) : numberM l = (0, false) := by
  cases hn : numberM l with
  | mk n b =>
    cases b with
    | false => rw [numberM] at hn; split at hn
               · cases (Prod.mk.inj hn).2
               · exact hn.symm
    | true =>
      obtain ⟨a1, a2, a3⟩ := number_ok hn
      have := atoi_itoa a1 a2
      rw [a3] at this
      exact absurd this (h n)
end Go.Proofs.YtnfokjlplbbbeaaGreatDoor

/-
  Texts in the logic of chunks.
-/
namespace Go.Proofs.YtnfokjlplbbbeaaGreatDoor
open Go.RowKit
/-- A text, as a value. -/
abbrev sv (l : List UInt8) : Value := .string ⟨l.toArray⟩
def scell (l : List UInt8) : List Value := [sv l]
theorem sv_list (l : List UInt8) : (ByteArray.mk l.toArray).toList = l := by rw [ByteArray.toList_eq]
theorem sv_size (l : List UInt8) : (ByteArray.mk l.toArray).size = l.length := rfl
class TyStr (P : Program) (t : TypeId) : Prop where
  h : P.underlying t = some .string
instance : TyStr Tryz.prog 9 := ⟨by kernel_rfl⟩
instance : TyStr Tryz.prog 10 := ⟨by kernel_rfl⟩
instance : TyStr Tryz.prog 11 := ⟨by kernel_rfl⟩
section
variable {P : Program} {n : Nat} {w0 : World} {fr : Fr} {H : List Ch} {x y z : Operand} {t t' : TypeId} {k k' : IntKind} {l m : List UInt8} {p q : Int}
theorem rv_lenS [hT : TyStr P t] (hx : opv fr x = some (sv l)) : RunsV P n w0 fr H (.call ⟨.builtin .len, #[x], #[t]⟩) (.int .i64 (l.length : Int)) := fun a w hr _ _ _ _ _ _ => by
  simp [execOp, resolve, invoke, builtin, hr.opv hx, Builtin.len_, run_underlying hT.h, goInt, sv_size]
theorem sv_get {i : Nat} {b : UInt8} (h : l[i]? = some b) : (ByteArray.mk l.toArray)[i]? = some b := by
  obtain ⟨hi, e⟩ := List.getElem?_eq_some_iff.1 h
  rw [ByteArray.getElem?_lt' _ _ (show i < (ByteArray.mk l.toArray).size from hi), ← e]; rfl
theorem rv_idxS [hT : TyStr P t] {i : Nat} {b : UInt8} (hx : opv fr x = some (sv l)) (hy : opv fr y = some (.int k (i : Int))) (hb : l[i]? = some b) : RunsV P n w0 fr H (.index t x y) (.int .u8 b.toNat) := fun a w hr _ _ _ _ _ _ => by
  simp [execOp, hr.opv hx, hr.opv hy, Instr.index, asIntOf, run_underlying hT.h, sv_get hb]
theorem sv_ext (l : List UInt8) (a b : Nat) : (ByteArray.mk l.toArray).extract a b = ⟨((l.drop a).take (b - a)).toArray⟩ := Go.Lib.extract_eq _ _ _
theorem rv_slcS [hT : TyStr P t] {a b : Nat} (hx : opv fr x = some (sv l)) (hy : opv fr y = some (.int k (a : Int))) (hz : opv fr z = some (.int k' (b : Int))) (hab : a ≤ b) (hb : b ≤ l.length) :
    RunsV P n w0 fr H (.slice t x (some y) (some z) none) (sv ((l.take b).drop a)) := fun c w hr _ _ _ _ _ _ => by
  have e1 : (a : Int) ≤ (b : Int) := by omega
  have e2 : (b : Int) ≤ (l.length : Int) := by omega
  simp [execOp, hr.opv hx, hr.opv hy, hr.opv hz, Instr.sliceAt, Instr.slice, run_underlying hT.h, Instr.sliceBounds, run_sliceBound, sv_size, e1, e2, sv_ext, List.drop_take]
theorem rv_slcSL [hT : TyStr P t] {a : Nat} (hx : opv fr x = some (sv l)) (hy : opv fr y = some (.int k (a : Int))) (ha : a ≤ l.length) :
    RunsV P n w0 fr H (.slice t x (some y) none none) (sv (l.drop a)) := fun c w hr _ _ _ _ _ _ => by
  have e1 : (a : Int) ≤ (l.length : Int) := by omega
  have e3 : (l.drop a).take (l.length - a) = l.drop a := List.take_of_length_le (by rw [List.length_drop]; omega)
  simp [execOp, hr.opv hx, hr.opv hy, Instr.sliceAt, Instr.slice, run_underlying hT.h, Instr.sliceBounds, run_sliceBound, sv_size, e1, sv_ext, e3]
theorem sv_app (l m : List UInt8) : (ByteArray.mk l.toArray) ++ (ByteArray.mk m.toArray) = ⟨(l ++ m).toArray⟩ := by
  apply ByteArray.ext; simp
theorem rv_catS (hx : opv fr x = some (sv l)) (hy : opv fr y = some (sv m)) (h : l.length + m.length ≤ 1152921504606846976) : RunsV P n w0 fr H (.binOp .add t x y t') (sv (l ++ m)) := fun a w hr _ _ _ _ _ _ => by
  simp [execOp, hr.opv hx, hr.opv hy, eqGuard_add, binOp_string_add, Op.stringOp, sv_size, sv_app]
  omega
theorem beq_dec (l m : List UInt8) : (l == m) = decide (l = m) := by rw [Bool.eq_iff_iff]; simp
theorem rv_eqlS (hx : opv fr x = some (sv l)) (hy : opv fr y = some (sv m)) : RunsV P n w0 fr H (.binOp .eql t x y t') (.bool (decide (l = m))) := fun a w hr _ _ _ _ _ _ => by
  simp [execOp, hr.opv hx, hr.opv hy, eqGuard_at_string, binOp_string_eql, sv_list, beq_dec]
theorem rv_neqS (hx : opv fr x = some (sv l)) (hy : opv fr y = some (sv m)) : RunsV P n w0 fr H (.binOp .neq t x y t') (.bool (decide (¬ l = m))) := fun a w hr _ _ _ _ _ _ => by
  simp [execOp, hr.opv hx, hr.opv hy, eqGuard_at_string, binOp_string_neq, sv_list, beq_dec]
end
end Go.Proofs.YtnfokjlplbbbeaaGreatDoor

/-
  Numbers told, and texts taken apart: both ways.
-/
namespace Go.Proofs.YtnfokjlplbbbeaaGreatDoor
open Go.RowKit Go.Lib
section
variable {P : Program} {n : Nat} {w0 : World} {fr : Fr} {H : List Ch} {x y : Operand} {t t' : TypeId} {k : IntKind} {m : Nat}
end
attribute [local irreducible] Go.wpList Go.Code.wp Go.Exit.then Go.Exit.inBlock Go.bodyPost Go.Calls pE pB G RunsV FnV Fn FnM
set_option maxRecDepth 100000
set_option maxHeartbeats 4000000
theorem parts_any {b : UInt8} {l : List UInt8} (hl : l.length ≤ 1048576) (w : World) : Fn Tryz.prog 48 [sv l, .int .u8 (b.toNat : Int)] w (fun v : Value => v.oneCell' = true) (fun v => v) (fun v => [.row v 9 1 ((partsM b l).map scell)]) := by
  refine Fn.of (n := 35) Tryz.func48 rfl rfl ?_; refine G.seq (G.region (G.v (rv_assign rfl) rfl (G.done (G.thenN (G.seq (G.region ?_)))))); refine G.op (og_lit rfl .nil rfl rfl rfl rfl rfl rfl) rfl (fun vl _ => ?_); refine G.know (fun w hw => (Rd.owned 0 rfl (v := vl) w hw).one_) (fun hovl => ?_); refine G.v (rv_assign rfl) rfl (G.done (G.thenN (G.seq (G.region (G.v (rv_assign rfl) rfl (G.done (G.thenN (G.seq (G.seq (G.region (G.v (rv_assign rfl) rfl ?_))))))))))); refine G.done (G.thenN (G.block ?_))
  -- loop 0: turned [5, 6, 7], kept [0, 1]
  (first | refine G.frontR0 vl rfl ?_ | refine G.frontR1 vl rfl ?_ | refine G.frontR2 vl rfl ?_ | refine G.frontR3 vl rfl ?_ | refine G.frontR4 vl rfl ?_ | refine G.frontR5 vl rfl ?_ | refine G.frontR6 vl rfl ?_ | refine G.frontR7 vl rfl ?_ | refine G.frontR8 vl rfl ?_ | refine G.frontR9 vl rfl ?_ | refine G.frontR10 vl rfl ?_ | refine G.frontR11 vl rfl ?_ | refine G.frontR12 vl rfl ?_ | refine G.frontR13 vl rfl ?_)
  refine G.loopK (ι := Nat × Nat × Value × List (List UInt8)) (ks := [0, 1]) (fun x => [(5, x.2.2.1), (6, .int .i64 (x.2.1 : Int)), (7, .int .i64 (x.1 : Int))]) (fun x => [.row x.2.2.1 9 1 (x.2.2.2.map scell)]) (fun x => (x.2.1 ≤ x.1 ∧ x.1 ≤ l.length ∧ x.2.2.2.length ≤ x.1) ∧ partsM b l = x.2.2.2 ++ partsM b (l.drop x.2.1) ∧ b ∉ (l.drop x.2.1).take (x.1 - x.2.1) ∧ x.2.2.1.oneCell' = true) (fun x => l.length - x.1) (0, 0, vl, []) (.cons rfl (.cons rfl (.nil))) rfl ?_ ?_ ?_
  · exact ⟨⟨Nat.le_refl _, Nat.zero_le _, Nat.le_refl _⟩, rfl, by simp, hovl⟩
  · exact ⟨rfl, rfl, rfl, trivial⟩
  rintro ⟨i, a, v, out⟩ ⟨⟨hai, hi, hol⟩, hpm, hno, hov⟩
  dsimp only at hai hi hol hpm hno hov ⊢
  have holm : (out.map scell).length = out.length := List.length_map ..
  by_cases hlt : i < l.length
  case' pos => (obtain ⟨c, hcb⟩ := get_of_lt hlt)
  all_goals
   refine G.seq (G.seq (G.region (G.v (rv_move rfl) rfl (G.v (rv_move rfl) rfl ?_)))); refine G.v (rv_lenS rfl) rfl ?_; refine G.v (rv_lss rfl rfl) rfl (G.done (G.thenN ?_)); refine G.cond rfl (fun hc => ?_) (fun hc => ?_)
   · try exact Bool.noConfusion hc
     all_goals
      try replace hc := of_decide_eq_true hc
      try (exfalso; first | contradiction | omega)
      all_goals
       refine G.skip (G.thenN (G.seq (G.block (G.seq (G.region (G.v (rv_move rfl) rfl (G.v (rv_move rfl) rfl ?_))))))); refine G.v (rv_idxS rfl rfl (by assumption)) rfl ?_; refine G.v (rv_move rfl) rfl (G.v (rv_eql rfl rfl) rfl (G.done (G.thenN ?_))); refine G.cond rfl (fun hc => ?_) (fun hc => ?_)
       · try exact Bool.noConfusion hc
         all_goals
          try replace hc := of_decide_eq_true hc
          try (exfalso; first | contradiction | omega)
          all_goals
           have hcc : c = b := UInt8.toNat_inj.1 (by omega); have hcb2 : l[i]? = some b := (by rw [← hcc]; exact hcb); have hst := parts_step hai hcb2 hno
           all_goals
            refine G.seq (G.region (G.v (rv_move rfl) rfl (G.v (rv_move rfl) rfl (G.v (rv_move rfl) rfl (G.v (rv_move rfl) rfl ?_))))); refine G.v (rv_slcS rfl rfl rfl (by omega) (by omega)) rfl ?_; refine G.op (og_lit rfl (.cons rfl .nil) rfl rfl rfl rfl rfl rfl) rfl (fun vx _ => ?_)
            (first | refine G.op (og_app0 rfl rfl rfl (by first | exact Rd.stays (by assumption) | exact Rd.owned 0 rfl | exact Rd.owned 1 rfl | exact Rd.owned 2 rfl | exact Rd.owned 3 rfl) rfl rfl (by first | (simp; done) | (simp; omega)) (by first | (simp; done) | (simp; omega))) rfl (fun va _ => ?_) | refine G.op (og_app1 rfl rfl rfl (by first | exact Rd.stays (by assumption) | exact Rd.owned 0 rfl | exact Rd.owned 1 rfl | exact Rd.owned 2 rfl | exact Rd.owned 3 rfl) rfl rfl (by first | (simp; done) | (simp; omega)) (by first | (simp; done) | (simp; omega))) rfl (fun va _ => ?_) | refine G.op (og_app2 rfl rfl rfl (by first | exact Rd.stays (by assumption) | exact Rd.owned 0 rfl | exact Rd.owned 1 rfl | exact Rd.owned 2 rfl | exact Rd.owned 3 rfl) rfl rfl (by first | (simp; done) | (simp; omega)) (by first | (simp; done) | (simp; omega))) rfl (fun va _ => ?_) | refine G.op (og_app3 rfl rfl rfl (by first | exact Rd.stays (by assumption) | exact Rd.owned 0 rfl | exact Rd.owned 1 rfl | exact Rd.owned 2 rfl | exact Rd.owned 3 rfl) rfl rfl (by first | (simp; done) | (simp; omega)) (by first | (simp; done) | (simp; omega))) rfl (fun va _ => ?_))
            refine G.know (fun w hw => by first | exact (Rd.owned 0 rfl (v := va) w hw).one_ | exact (Rd.owned 1 rfl (v := va) w hw).one_ | exact (Rd.owned 2 rfl (v := va) w hw).one_) (fun hova => ?_); refine G.v (rv_assign rfl) rfl (G.done (G.thenN (G.region (G.v (rv_move rfl) rfl ?_))))
            (first | refine G.v (rv_incr rfl rfl (by omega)) rfl ?_ | refine G.v (rv_addB rfl rfl (by omega) (by omega)) rfl ?_)
            refine G.v (rv_assign rfl) rfl (G.done (G.inN (G.thenN (G.region (G.v (rv_move rfl) rfl ?_)))))
            (first | refine G.v (rv_incr rfl rfl (by omega)) rfl ?_ | refine G.v (rv_addB rfl rfl (by omega) (by omega)) rfl ?_)
            refine G.v (rv_assign rfl) rfl (G.done ?_)
            first | (first | refine G.frontR0 va rfl ?_ | refine G.frontR1 va rfl ?_ | refine G.frontR2 va rfl ?_ | refine G.frontR3 va rfl ?_ | refine G.frontR4 va rfl ?_ | refine G.frontR5 va rfl ?_ | refine G.frontR6 va rfl ?_ | refine G.frontR7 va rfl ?_ | refine G.frontR8 va rfl ?_ | refine G.frontR9 va rfl ?_ | refine G.frontR10 va rfl ?_ | refine G.frontR11 va rfl ?_ | refine G.frontR12 va rfl ?_ | refine G.frontR13 va rfl ?_) | (first | refine G.frontR0 v rfl ?_ | refine G.frontR1 v rfl ?_ | refine G.frontR2 v rfl ?_ | refine G.frontR3 v rfl ?_ | refine G.frontR4 v rfl ?_ | refine G.frontR5 v rfl ?_ | refine G.frontR6 v rfl ?_ | refine G.frontR7 v rfl ?_ | refine G.frontR8 v rfl ?_ | refine G.frontR9 v rfl ?_ | refine G.frontR10 v rfl ?_ | refine G.frontR11 v rfl ?_ | refine G.frontR12 v rfl ?_ | refine G.frontR13 v rfl ?_)
            first | (refine G.keep1 1 rfl ?_; refine G.backK (i + 1, i + 1, va, out ++ [(l.take i).drop a]) 0 (by first | exact one_eq (congrArg (fun z => Ch.row va 9 1 z) (by rw [List.map_append]; rfl)) | exact one_eq rfl) (.cons rfl (.cons rfl (.nil))) ?_ ?_ ?_) | (refine G.keep1 1 rfl ?_; refine G.backK (i + 1, a, v, out) 0 (by first | exact one_eq (congrArg (fun z => Ch.row va 9 1 z) (by rw [List.map_append]; rfl)) | exact one_eq rfl) (.cons rfl (.cons rfl (.nil))) ?_ ?_ ?_) | (refine G.keep1 0 rfl ?_; refine G.backK (i + 1, i + 1, va, out ++ [(l.take i).drop a]) 0 (by first | exact one_eq (congrArg (fun z => Ch.row va 9 1 z) (by rw [List.map_append]; rfl)) | exact one_eq rfl) (.cons rfl (.cons rfl (.nil))) ?_ ?_ ?_) | (refine G.keep1 0 rfl ?_; refine G.backK (i + 1, a, v, out) 0 (by first | exact one_eq (congrArg (fun z => Ch.row va 9 1 z) (by rw [List.map_append]; rfl)) | exact one_eq rfl) (.cons rfl (.cons rfl (.nil))) ?_ ?_ ?_)
            · exact ⟨rfl, rfl, rfl, trivial⟩
            · first | exact ⟨⟨Nat.le_refl _, hlt, by simp; omega⟩, by rw [hpm, hst]; simp, by simp, hova⟩ | exact ⟨⟨by dsimp only; omega, hlt, by dsimp only; omega⟩, hpm, hsn, hov⟩
            · dsimp only; omega
       · try exact Bool.noConfusion hc
         all_goals
          try replace hc := of_decide_eq_false hc
          try (exfalso; first | contradiction | omega)
          all_goals
           have hcc : ¬ c = b := (fun e => by subst e; omega); have hsn := seg_next hai hcb hcc hno
           all_goals
            refine G.skip (G.inN (G.thenN (G.region (G.v (rv_move rfl) rfl ?_))))
            (first | refine G.v (rv_incr rfl rfl (by omega)) rfl ?_ | refine G.v (rv_addB rfl rfl (by omega) (by omega)) rfl ?_)
            refine G.v (rv_assign rfl) rfl (G.done ?_)
            first | (first | refine G.frontR0 va rfl ?_ | refine G.frontR1 va rfl ?_ | refine G.frontR2 va rfl ?_ | refine G.frontR3 va rfl ?_ | refine G.frontR4 va rfl ?_ | refine G.frontR5 va rfl ?_ | refine G.frontR6 va rfl ?_ | refine G.frontR7 va rfl ?_ | refine G.frontR8 va rfl ?_ | refine G.frontR9 va rfl ?_ | refine G.frontR10 va rfl ?_ | refine G.frontR11 va rfl ?_ | refine G.frontR12 va rfl ?_ | refine G.frontR13 va rfl ?_) | (first | refine G.frontR0 v rfl ?_ | refine G.frontR1 v rfl ?_ | refine G.frontR2 v rfl ?_ | refine G.frontR3 v rfl ?_ | refine G.frontR4 v rfl ?_ | refine G.frontR5 v rfl ?_ | refine G.frontR6 v rfl ?_ | refine G.frontR7 v rfl ?_ | refine G.frontR8 v rfl ?_ | refine G.frontR9 v rfl ?_ | refine G.frontR10 v rfl ?_ | refine G.frontR11 v rfl ?_ | refine G.frontR12 v rfl ?_ | refine G.frontR13 v rfl ?_)
            first | (refine G.keep1 1 rfl ?_; refine G.backK (i + 1, i + 1, va, out ++ [(l.take i).drop a]) 0 (by first | exact one_eq (congrArg (fun z => Ch.row va 9 1 z) (by rw [List.map_append]; rfl)) | exact one_eq rfl) (.cons rfl (.cons rfl (.nil))) ?_ ?_ ?_) | (refine G.keep1 1 rfl ?_; refine G.backK (i + 1, a, v, out) 0 (by first | exact one_eq (congrArg (fun z => Ch.row va 9 1 z) (by rw [List.map_append]; rfl)) | exact one_eq rfl) (.cons rfl (.cons rfl (.nil))) ?_ ?_ ?_) | (refine G.keep1 0 rfl ?_; refine G.backK (i + 1, i + 1, va, out ++ [(l.take i).drop a]) 0 (by first | exact one_eq (congrArg (fun z => Ch.row va 9 1 z) (by rw [List.map_append]; rfl)) | exact one_eq rfl) (.cons rfl (.cons rfl (.nil))) ?_ ?_ ?_) | (refine G.keep1 0 rfl ?_; refine G.backK (i + 1, a, v, out) 0 (by first | exact one_eq (congrArg (fun z => Ch.row va 9 1 z) (by rw [List.map_append]; rfl)) | exact one_eq rfl) (.cons rfl (.cons rfl (.nil))) ?_ ?_ ?_)
            · exact ⟨rfl, rfl, rfl, trivial⟩
            · first | exact ⟨⟨Nat.le_refl _, hlt, by simp; omega⟩, by rw [hpm, hst]; simp, by simp, hova⟩ | exact ⟨⟨by dsimp only; omega, hlt, by dsimp only; omega⟩, hpm, hsn, hov⟩
            · dsimp only; omega
   · try exact Bool.noConfusion hc
     all_goals
      try replace hc := of_decide_eq_false hc
      try (exfalso; first | contradiction | omega)
      all_goals
       obtain rfl : i = l.length := (by omega)
       all_goals
        refine G.exit (G.thenX (G.thenX (G.inX (G.thenN (G.seq (G.region (G.v (rv_move rfl) rfl (G.v (rv_move rfl) rfl (G.v (rv_move rfl) rfl ?_))))))))); refine G.v (rv_slcSL rfl rfl (by omega)) rfl ?_; refine G.op (og_lit rfl (.cons rfl .nil) rfl rfl rfl rfl rfl rfl) rfl (fun vx _ => ?_)
        (first | refine G.op (og_app0 rfl rfl rfl (by first | exact Rd.stays (by assumption) | exact Rd.owned 0 rfl | exact Rd.owned 1 rfl | exact Rd.owned 2 rfl | exact Rd.owned 3 rfl) rfl rfl (by first | (simp; done) | (simp; omega)) (by first | (simp; done) | (simp; omega))) rfl (fun va _ => ?_) | refine G.op (og_app1 rfl rfl rfl (by first | exact Rd.stays (by assumption) | exact Rd.owned 0 rfl | exact Rd.owned 1 rfl | exact Rd.owned 2 rfl | exact Rd.owned 3 rfl) rfl rfl (by first | (simp; done) | (simp; omega)) (by first | (simp; done) | (simp; omega))) rfl (fun va _ => ?_) | refine G.op (og_app2 rfl rfl rfl (by first | exact Rd.stays (by assumption) | exact Rd.owned 0 rfl | exact Rd.owned 1 rfl | exact Rd.owned 2 rfl | exact Rd.owned 3 rfl) rfl rfl (by first | (simp; done) | (simp; omega)) (by first | (simp; done) | (simp; omega))) rfl (fun va _ => ?_) | refine G.op (og_app3 rfl rfl rfl (by first | exact Rd.stays (by assumption) | exact Rd.owned 0 rfl | exact Rd.owned 1 rfl | exact Rd.owned 2 rfl | exact Rd.owned 3 rfl) rfl rfl (by first | (simp; done) | (simp; omega)) (by first | (simp; done) | (simp; omega))) rfl (fun va _ => ?_))
        refine G.know (fun w hw => by first | exact (Rd.owned 0 rfl (v := va) w hw).one_ | exact (Rd.owned 1 rfl (v := va) w hw).one_ | exact (Rd.owned 2 rfl (v := va) w hw).one_) (fun hova => ?_); refine G.v (rv_assign rfl) rfl (G.done (G.thenN (G.ret ?_)))
        ((first | refine G.frontR0 va rfl ?_ | refine G.frontR1 va rfl ?_ | refine G.frontR2 va rfl ?_ | refine G.frontR3 va rfl ?_ | refine G.frontR4 va rfl ?_ | refine G.frontR5 va rfl ?_ | refine G.frontR6 va rfl ?_ | refine G.frontR7 va rfl ?_ | refine G.frontR8 va rfl ?_ | refine G.frontR9 va rfl ?_ | refine G.frontR10 va rfl ?_ | refine G.frontR11 va rfl ?_ | refine G.frontR12 va rfl ?_ | refine G.frontR13 va rfl ?_); exact G.retF va hova rfl rfl rfl (fun w hh => by rw [hpm, parts_last hno, List.map_append]; exact hh.sublist (by repeat (first | exact List.Sublist.refl _ | refine List.Sublist.cons_cons _ ?_ | refine List.Sublist.cons _ ?_))))
end Go.Proofs.YtnfokjlplbbbeaaGreatDoor

/-
  The library's numerals in the logic of chunks; numbers read and told by the program.
-/
namespace Go.Proofs.YtnfokjlplbbbeaaGreatDoor
open Go.RowKit Go.Lib
/-! ### What the library's variables hold -/
theorem var_stays {P : Program} {w0 w : World} {H : List Ch} {name : String} {cs : Array Value} (h : w0.var? P name = some cs) (hh : HeapOk w0 w H) : w.var? P name = some cs := by
  rw [World.var?] at h ⊢
  cases hg : P.globalNamed name with
  | none => rw [hg] at h; cases h
  | some g =>
    rw [hg] at h
    simp only [Option.bind_some] at h ⊢
    have hlt : g < w0.heap.size := by
      rcases Nat.lt_or_ge g w0.heap.size with h' | h'
      · exact h'
      · rw [Array.getElem?_eq_none h'] at h; cases h
    rw [hh.below.block g hlt]; exact h
def TabI (w : World) : Prop := Lib.TabIs Tryz.prog w "internal/strconv.uint64pow10" .u64 Lib.pow10Tab
def TabE (w : World) : Prop := (∃ tp p, w.var? Tryz.prog "strconv.ErrSyntax" = some #[.iface tp p]) ∧ ∃ tp p, w.var? Tryz.prog "strconv.ErrRange" = some #[.iface tp p]
theorem TabI.stays {w0 w : World} {H : List Ch} (h : TabI w0) (hh : HeapOk w0 w H) : TabI w := var_stays h hh
theorem TabE.stays {w0 w : World} {H : List Ch} (h : TabE w0) (hh : HeapOk w0 w H) : TabE w := by
  obtain ⟨⟨t1, p1, h1⟩, ⟨t2, p2, h2⟩⟩ := h
  exact ⟨⟨t1, p1, var_stays h1 hh⟩, ⟨t2, p2, var_stays h2 hh⟩⟩
theorem below_bytes (w : World) (e : TypeId) (s : ByteArray) : Below w.heap.size w (Lib.bytesWorld w e s) :=
  ⟨rfl, rfl, rfl, by rw [Lib.bytesWorld_size]; omega, fun k hk => Lib.bytesWorld_at_old w e s k hk⟩
theorem below_grow (w : World) (k : Nat) (os : Array Obj) : Below w.heap.size w (Go.Sort.grow (w.drewN k) os) :=
  ⟨rfl, rfl, rfl, by simp [Go.Sort.grow, World.drewN], fun j hj => by
    show (w.heap ++ os)[j]? = w.heap[j]?
    rw [Array.getElem?_append_left hj]⟩
theorem HeapOk.ofBelow {w w' : World} (h : Below w.heap.size w w') : HeapOk w w' [] := ⟨h, by simp, List.Pairwise.nil⟩
section
variable {P : Program} {n : Nat} {w0 : World} {fr : Fr} {H : List Ch} {x y : Operand} {t t' : TypeId}
/-- Whether an error is not nil. -/
def notNil : Value → Bool
  | .nilIface => false
  | _ => true
theorem run_neq_nil {ms : Array (String × TypeId)} {v : Value} (w : World) (hT : P.underlying t = some (.interface ms)) (hv : v = .nilIface ∨ ∃ tp p, v = .iface tp p) : (binOp .neq t v .nilIface).run P w = .ok (.bool (notNil v)) w := by
  rcases hv with rfl | ⟨tp, p, rfl⟩
  · have h : ∀ d : Nat, (Op.equalIn (d + 1) t .nilIface .nilIface).run P w = .ok true w := fun d => by simp [Op.equalIn, run_underlying hT]
    simp only [binOp]
    simp [Op.equal, Op.maxDepth, h 9999, notNil]
  · have h : ∀ d : Nat, (Op.equalIn (d + 1) t (.iface tp p) .nilIface).run P w = .ok false w := fun d => by simp [Op.equalIn, run_underlying hT]
    simp only [binOp]
    simp [Op.equal, Op.maxDepth, h 9999, notNil]
theorem rv_neqI {ms : Array (String × TypeId)} {v : Value} (hT : P.underlying t = some (.interface ms)) (hx : opv fr x = some v) (hv : v = .nilIface ∨ ∃ tp p, v = .iface tp p) : RunsV P n w0 fr H (.binOp .neq t x (.const .nilIface) t') (.bool (notNil v)) := fun a w hr _ _ _ _ _ _ => by
  have e2 : a.eval (.const .nilIface) = .nilIface := rfl
  have e : eqGuard .neq t x (.const .nilIface) v .nilIface = pure () := by rcases hv with rfl | ⟨tp, p, rfl⟩ <;> first | rfl | (cases x <;> rfl)
  simp only [execOp, hr.opv hx, e2, e]
  simp [run_neq_nil w hT hv]
end
theorem itoa_any {z : Int} (h0 : -9223372036854775808 ≤ z) (h1 : z ≤ 9223372036854775807) (w : World) (ht : TabI w) : FnV Tryz.prog 93 [.int .i64 z] w (sv (Lib.itoa z)) := by
  refine Calls.mono (Go.Proofs.Tryz.strconv_Itoa z h0 h1 w ht) ?_
  rintro e w' ⟨rfl, k, os, rfl⟩
  exact ⟨rfl, HeapOk.ofBelow (below_grow w k os)⟩
theorem atoi_any {l : List UInt8} (hl : l.length ≤ 1048576) (w : World) (ht : TabE w) : Fn Tryz.prog 110 [sv l] w (fun x : Int × Value => ((x.2 = .nilIface ∧ Lib.atoiAll l = .ok x.1) ∨ ((∃ tp p, x.2 = .iface tp p) ∧ ∀ v, Lib.atoiAll l ≠ .ok v)) ∧ -9223372036854775808 ≤ x.1 ∧ x.1 ≤ 9223372036854775807) (fun x => .tuple #[.int .i64 x.1, x.2]) (fun _ => []) := by
  have e1 : (ByteArray.mk l.toArray).data.toList = l := by simp
  have e2 : (ByteArray.mk l.toArray).size = l.length := sv_size l
  obtain ⟨⟨t1, p1, g1⟩, ⟨t2, p2, g2⟩⟩ := ht
  cases ha : Lib.atoiAll l with
  | ok v =>
    refine Calls.mono (Go.Proofs.Tryz.strconv_Atoi_ok ⟨l.toArray⟩ (by omega) v (by rw [e1]; exact ha) w) ?_
    rintro e w' ⟨rfl, hw⟩
    refine ⟨(v, .nilIface), ⟨.inl ⟨rfl, rfl⟩, Lib.atoiAll_bounds ha⟩, rfl, ?_⟩
    rcases hw with rfl | ⟨t, rfl⟩
    · exact HeapOk.refl _
    · exact HeapOk.ofBelow (below_bytes _ _ _)
  | range =>
    refine Calls.mono (Go.Proofs.Tryz.strconv_Atoi_range_var ⟨l.toArray⟩ (by omega) (by rw [e1]; exact ha) t2 p2 w g2) ?_
    rintro e w' ⟨N, rfl, _, _, hb⟩
    exact ⟨(_, _), ⟨.inr ⟨⟨_, _, rfl⟩, fun v hv => by cases hv⟩, by have := Lib.atoiSat_bounds l; rw [e1]; exact this⟩, rfl, HeapOk.ofBelow hb⟩
  | _ =>
    refine Calls.mono (Go.Proofs.Tryz.strconv_Atoi_syntax_var ⟨l.toArray⟩ (by omega) (by rw [e1]; exact ha) t1 p1 w g1) ?_
    rintro e w' ⟨N, rfl, _, _, hb⟩
    exact ⟨(0, _), ⟨.inr ⟨⟨_, _, rfl⟩, fun v hv => by cases hv⟩, (by decide : (-9223372036854775808 : Int) ≤ 0), (by decide : (0 : Int) ≤ 9223372036854775807)⟩, rfl, HeapOk.ofBelow hb⟩
attribute [local irreducible] Go.wpList Go.Code.wp Go.Exit.then Go.Exit.inBlock Go.bodyPost Go.Calls pE pB G RunsV FnV Fn FnM
set_option maxRecDepth 100000
set_option maxHeartbeats 4000000
theorem digits_any {z : Int} (h0 : -9223372036854775808 ≤ z) (h1 : z ≤ 9223372036854775807) (w : World) (ht : TabI w) : FnV Tryz.prog 72 [.int .i64 z] w (sv (Lib.itoa z)) := by
  refine FnV.of (n := 5) Tryz.func72 rfl rfl ?_; refine G.seq (G.region (G.v (rv_assign rfl) rfl (G.done (G.thenN (G.seq (G.region (G.v (rv_move rfl) rfl ?_))))))); refine G.op (og_callV rfl rfl (fun w hh => itoa_any h0 h1 w (ht.stays hh))) rfl (fun _ _ => ?_); refine G.v (rv_assign rfl) rfl (G.done (G.thenN (G.ret ?_)))
  exact G.retFV rfl rfl rfl
def NumT (l : List UInt8) : Value := .tuple #[.int .i64 (numberM l).1, .bool (numberM l).2]
section
variable {l : List UInt8} {z : Int} {ev : Value} (hnn : (notNil ev = false → Lib.atoiAll l = .ok z) ∧ (notNil ev = true → ∀ v, Lib.atoiAll l ≠ .ok v))
include hnn
theorem num_a (h : notNil ev = true) : Value.tuple #[.int .i64 0, .bool false] = NumT l := by rw [NumT, number_of_no (hnn.2 h)]
theorem num_b (h : notNil ev = false) (h2 : (!inB z 0 999999) = true) : Value.tuple #[.int .i64 0, .bool false] = NumT l := by
  rw [NumT, number_of_ok (hnn.1 h), if_neg]
  rintro ⟨k1, k2, _⟩
  simp [inB, k1, k2] at h2
theorem num_c (h : notNil ev = false) (h2 : ¬ Lib.itoa z = l) : Value.tuple #[.int .i64 0, .bool false] = NumT l := by
  rw [NumT, number_of_ok (hnn.1 h), if_neg (fun k => h2 k.2.2)]
theorem num_d (h : notNil ev = false) (h2 : (!inB z 0 999999) = false) (h3 : ¬ ¬ Lib.itoa z = l) : Value.tuple #[.int .i64 z, .bool true] = NumT l := by
  rw [NumT, number_of_ok (hnn.1 h), if_pos]
  simp only [inB, Bool.not_eq_false', Bool.and_eq_true, decide_eq_true_eq] at h2
  exact ⟨h2.1, h2.2, Decidable.not_not.1 h3⟩
end
theorem number_any {l : List UInt8} (hl : l.length ≤ 1048576) (w : World) (ht : TabI w) (hte : TabE w) : FnV Tryz.prog 97 [sv l] w (.tuple #[.int .i64 (numberM l).1, .bool (numberM l).2]) := by
  refine FnV.of (n := 25) Tryz.func97 rfl rfl ?_; refine G.seq (G.region (G.v (rv_assign rfl) rfl (G.v (rv_assign rfl) rfl (G.done (G.thenN (G.seq (G.region (G.v (rv_move rfl) rfl ?_))))))))
  (refine G.op (og_callF0 rfl rfl (fun w hh => atoi_any hl w (hte.stays hh))) rfl ?_; rintro ⟨z, ev⟩ ⟨hx, hz0, hz1⟩; try dsimp only)
  refine G.v (rv_move rfl) rfl ?_
  have hev : ev = .nilIface ∨ ∃ tp p, ev = .iface tp p := (by rcases hx with hx | hx; exact .inl hx.1; exact .inr hx.1); have hnn : (notNil ev = false → Lib.atoiAll l = .ok z) ∧ (notNil ev = true → ∀ v, Lib.atoiAll l ≠ .ok v) := (by rcases hx with ⟨rfl, hx⟩ | ⟨⟨tp, p, rfl⟩, hx⟩; exact ⟨fun _ => hx, fun h => Bool.noConfusion h⟩; exact ⟨fun h => Bool.noConfusion h, fun _ => hx⟩); clear hx
  refine G.v (rv_extract rfl rfl) rfl (G.v (rv_extract rfl rfl) rfl (G.v (rv_assign rfl) rfl (G.v (rv_assign rfl) rfl (G.done (G.thenN (G.seq (G.seq (G.region (G.v (rv_move rfl) rfl ?_))))))))); refine G.v (rv_neqI Tryz.underlying95 rfl hev) rfl ?_; refine G.v (rv_move rfl) rfl ?_
  all_goals (((with_reducible refine G.gP rfl rfl (fun hg => ?_) (fun hg => ?_)) <;> (try exact Bool.noConfusion hg) <;> (first | (refine G.gY rfl rfl ?_; refine G.v (rv_move rfl) rfl ?_) | refine G.gN rfl rfl rfl ?_ | refine G.gU rfl rfl rfl ?_)))
  all_goals ((first | (refine G.gY rfl rfl ?_; refine G.op (og_callV rfl rfl (fun w _ => in_any _ _ _ w)) rfl (fun _ _ => ?_)) | refine G.gN rfl rfl rfl ?_ | refine G.gU rfl rfl rfl ?_))
  all_goals ((first | (refine G.gY rfl rfl ?_; refine G.v (rv_not rfl) rfl ?_) | refine G.gN rfl rfl rfl ?_ | refine G.gU rfl rfl rfl ?_))
  all_goals ((first | refine G.v (rv_pickT rfl rfl) rfl ?_ | refine G.v (rv_pickF rfl rfl) rfl ?_))
  all_goals (refine G.v (rv_move rfl) rfl ?_)
  all_goals (((with_reducible refine G.gP rfl rfl (fun hg => ?_) (fun hg => ?_)) <;> (try exact Bool.noConfusion hg) <;> (first | (refine G.gY rfl rfl ?_; refine G.v (rv_move rfl) rfl ?_) | refine G.gN rfl rfl rfl ?_ | refine G.gU rfl rfl rfl ?_)))
  all_goals ((first | (refine G.gY rfl rfl ?_; refine G.op (og_callV rfl rfl (fun w hh => digits_any (z := z) hz0 hz1 w (ht.stays hh))) rfl (fun _ _ => ?_)) | refine G.gN rfl rfl rfl ?_ | refine G.gU rfl rfl rfl ?_))
  all_goals ((first | (refine G.gY rfl rfl ?_; refine G.v (rv_move rfl) rfl ?_) | refine G.gN rfl rfl rfl ?_ | refine G.gU rfl rfl rfl ?_))
  all_goals ((first | (refine G.gY rfl rfl ?_; refine G.v (rv_neqS rfl rfl) rfl ?_) | refine G.gN rfl rfl rfl ?_ | refine G.gU rfl rfl rfl ?_))
  all_goals ((first | refine G.v (rv_pickT rfl rfl) rfl ?_ | refine G.v (rv_pickF rfl rfl) rfl ?_))
  all_goals
   refine G.done (G.thenN ?_); refine G.cond rfl (fun hc => ?_) (fun hc => ?_)
   · try exact Bool.noConfusion hc
     all_goals
      try replace hc := of_decide_eq_true hc
      try (exfalso; first | contradiction | omega)
      all_goals
       refine G.seq (G.region (G.v (rv_assign rfl) rfl (G.v (rv_assign rfl) rfl (G.done (G.thenN (G.ret (G.thenR ?_)))))))
       first | exact G.retVL rfl (.cons (.tmp rfl) (.cons (.tmp rfl) .nil)) (num_a hnn (by assumption)) | exact G.retVL rfl (.cons (.tmp rfl) (.cons (.tmp rfl) .nil)) (num_b hnn (by assumption) (by assumption)) | exact G.retVL rfl (.cons (.tmp rfl) (.cons (.tmp rfl) .nil)) (num_c hnn (by assumption) (by assumption)) | exact G.retVL rfl (.cons (.tmp rfl) (.cons (.tmp rfl) .nil)) (num_d hnn (by assumption) (by assumption) (by assumption))
   · try exact Bool.noConfusion hc
     all_goals
      try replace hc := of_decide_eq_false hc
      try (exfalso; first | contradiction | omega)
      all_goals
       refine G.skip (G.thenN (G.seq (G.region (G.v (rv_move rfl) rfl (G.v (rv_assign rfl) rfl (G.v (rv_assign rfl) rfl (G.done (G.thenN (G.ret ?_)))))))))
       first | exact G.retVL rfl (.cons (.tmp rfl) (.cons (.tmp rfl) .nil)) (num_a hnn (by assumption)) | exact G.retVL rfl (.cons (.tmp rfl) (.cons (.tmp rfl) .nil)) (num_b hnn (by assumption) (by assumption)) | exact G.retVL rfl (.cons (.tmp rfl) (.cons (.tmp rfl) .nil)) (num_c hnn (by assumption) (by assumption)) | exact G.retVL rfl (.cons (.tmp rfl) (.cons (.tmp rfl) .nil)) (num_d hnn (by assumption) (by assumption) (by assumption))
end Go.Proofs.YtnfokjlplbbbeaaGreatDoor

/-
  The text of an order, and what is read of it.
-/
namespace Go.Proofs.YtnfokjlplbbbeaaGreatDoor
open Go.Lib
/-- The numbers of texts, if each is one. -/
def numsM : List (List UInt8) → Option (List Int)
  | [] => some []
  | p :: ps => if (numberM p).2 then (numsM ps).map ((numberM p).1 :: ·) else none
theorem nums_len : ∀ {ps : List (List UInt8)} {ns : List Int}, numsM ps = some ns → ns.length = ps.length
  | [], ns, h => by rw [numsM] at h; rw [← Option.some.inj h]; rfl
  | p :: ps, ns, h => by
    rw [numsM] at h
    split at h
    · obtain ⟨ms, hm, rfl⟩ := Option.map_eq_some_iff.1 h
      rw [List.length_cons, List.length_cons, nums_len hm]
    · cases h
/-- A line's numbers: a word, and just so many numbers behind it. -/
def wordsM (w : List UInt8) (k : Nat) (l : List UInt8) : Option (List Int) := match partsM 32 l with
  | p :: ps => if p = w ∧ ps.length = k then numsM ps else none
  | [] => none
theorem words_len {w l : List UInt8} {k : Nat} {ns : List Int} (h : wordsM w k l = some ns) : ns.length = k := by
  rw [wordsM] at h
  split at h
  · split at h
    · rename_i hh; rw [nums_len h, hh.2]
    · cases h
  · cases h
/-- A line of a word and numbers. -/
def lineT (w : List UInt8) (ns : List Int) : List UInt8 := joinM 32 (w :: ns.map itoa)
def okN (n : Int) : Prop := 0 ≤ n ∧ n ≤ 999999
theorem itoa_sp {n : Int} (h : okN n) : ∀ b ∈ itoa n, 48 ≤ b.toNat := by
  obtain ⟨u, rfl⟩ := Int.eq_ofNat_of_zero_le h.1
  rw [itoa_nonneg]
  intro b hb
  have := List.all_eq_true.1 (dec_dig u) b hb
  rw [digitB, Bool.and_eq_true, decide_eq_true_eq] at this
  exact this.1
theorem itoa_no {n : Int} (h : okN n) {b : UInt8} (hb : b.toNat < 48) : b ∉ itoa n := fun hm => by have := itoa_sp h b hm; omega
theorem nums_itoa : ∀ {ns : List Int}, (∀ n ∈ ns, okN n) → numsM (ns.map itoa) = some ns
  | [], _ => rfl
  | n :: ns, h => by
    have h1 := h n List.mem_cons_self
    rw [List.map_cons, numsM, number_mk h1.1 h1.2, if_pos rfl, nums_itoa (fun m hm => h m (List.mem_cons_of_mem _ hm))]; rfl
theorem line_parts {w : List UInt8} {ns : List Int} (hw : (32 : UInt8) ∉ w) (h : ∀ n ∈ ns, okN n) : partsM 32 (lineT w ns) = w :: ns.map itoa := by
  rw [lineT, parts_join (by simp)]
  intro p hp
  rcases List.mem_cons.1 hp with rfl | hp
  · exact hw
  · obtain ⟨n, hn, rfl⟩ := List.mem_map.1 hp
    exact itoa_no (h n hn) (by decide)
theorem words_line {w : List UInt8} {ns : List Int} (hw : (32 : UInt8) ∉ w) (h : ∀ n ∈ ns, okN n) : wordsM w ns.length (lineT w ns) = some ns := by
  rw [wordsM, line_parts hw h]
  dsimp only
  rw [if_pos ⟨rfl, by simp⟩, nums_itoa h]
theorem words_ne {w w' : List UInt8} {ns : List Int} {k : Nat} (hw : (32 : UInt8) ∉ w) (h : ∀ n ∈ ns, okN n) (hne : w ≠ w') : wordsM w' k (lineT w ns) = none := by
  rw [wordsM, line_parts hw h]
  dsimp only
  rw [if_neg (fun e => hne e.1)]
theorem words_two {w w' l : List UInt8} {k k' : Nat} {ns : List Int} (h : wordsM w k l = some ns) (hne : w ≠ w') : wordsM w' k' l = none := by
  rw [wordsM] at h ⊢
  split at h
  · rename_i p ps e
    split at h
    · rename_i hh
      rw [if_neg (fun k => hne (hh.1.symm.trans k.1))]
    · cases h
  · cases h
theorem words_word {w l : List UInt8} {k : Nat} {q : List UInt8} {qs : List (List UInt8)} (h : partsM 32 l = q :: qs) (hne : q ≠ w) : wordsM w k l = none := by
  rw [wordsM, h]; dsimp only; rw [if_neg (fun e => hne e.1)]
/-! ### The words -/
abbrev wWayF : List UInt8 := [119, 97, 121, 32, 102, 105, 114, 115, 116]
abbrev wWayN : List UInt8 := [119, 97, 121, 32, 110, 101, 120, 116]
abbrev wPallet : List UInt8 := [112, 97, 108, 108, 101, 116]
abbrev wClasses : List UInt8 := [99, 108, 97, 115, 115, 101, 115]
abbrev wWith : List UInt8 := [119, 105, 116, 104]
abbrev wType : List UInt8 := [116, 121, 112, 101]
abbrev wMaster : List UInt8 := [109, 97, 115, 116, 101, 114]
abbrev wItem : List UInt8 := [105, 116, 101, 109]
/-! ### The numbers of a line, put into an order -/
def at0 (ns : List Int) (i : Nat) : Int := ns.getD i 0
def putPallet (r : ReqM) (n : List Int) : ReqM := { r with pal := ⟨at0 n 0, at0 n 1, at0 n 2, at0 n 3⟩ }
def putClasses (r : ReqM) (n : List Int) : ReqM := { r with classes := at0 n 0 }
def putWith (r : ReqM) (n : List Int) : ReqM := { r with pairs := r.pairs ++ [⟨at0 n 0, at0 n 1⟩] }
def putType (r : ReqM) (n : List Int) : ReqM := { r with types := r.types ++ [⟨at0 n 0, at0 n 1, at0 n 2, at0 n 3, at0 n 4, at0 n 5, at0 n 6⟩] }
def putMaster (r : ReqM) (n : List Int) : ReqM := { r with master := at0 n 0 }
def putItem (r : ReqM) (n : List Int) : ReqM := { r with items := r.items ++ [⟨at0 n 0, at0 n 1, at0 n 2, at0 n 3, at0 n 4, at0 n 5, at0 n 6⟩] }
/-- What a line is, and the order behind it. -/
def putLineM (r : ReqM) (l : List UInt8) : ReqM × Int :=
  if l = wWayF then ({ r with way := 0 }, 0) else if l = wWayN then ({ r with way := 1 }, 0) else
  match wordsM wPallet 4 l with
  | some n => (putPallet r n, 1)
  | none => match wordsM wClasses 1 l with
    | some n => (putClasses r n, 2)
    | none => match wordsM wWith 2 l with
      | some n => (putWith r n, 3)
      | none => match wordsM wType 7 l with
        | some n => (putType r n, 4)
        | none => match wordsM wMaster 1 l with
          | some n => (putMaster r n, 5)
          | none => match wordsM wItem 7 l with
            | some n => (putItem r n, 6)
            | none => (r, -1)
def mayM (last k : Int) : Bool :=
  if k = 0 ∨ k = 1 ∨ k = 2 then decide (last = k - 1) else if k = 3 then decide (last = 2) || decide (last = 3)
  else if k = 4 ∨ k = 5 then decide (2 ≤ last) && decide (last ≤ 4) else if k = 6 then decide (last = 5) || decide (last = 6) else false
/-- The lines of an order, one behind the other. -/
def runM (r : ReqM) (last : Int) : List (List UInt8) → Option ReqM
  | [] => if last < 5 then none else some r
  | l :: ls => if mayM last (putLineM r l).2 then runM (putLineM r l).1 (putLineM r l).2 ls else none
def reqZ : ReqM := ⟨0, ⟨0, 0, 0, 0⟩, 0, [], [], 0, []⟩
/-- What is read of a text; none: it is no order's. -/
def readM (s : List UInt8) : Option ReqM :=
  let ls := partsM 10 s
  if ls.length - 1 ≤ 60 ∧ ls.getLast? = some [] then runM reqZ (-1) (ls.take (ls.length - 1)) else none
/-! ### The reference's way -/
def goItems (r : ReqM) : List (List UInt8) → Option ReqM
  | [] => some r
  | l :: ls => match wordsM wItem 7 l with
    | some n => goItems (putItem r n) ls
    | none => none
def goMaster (r : ReqM) : List (List UInt8) → Option ReqM
  | [] => none
  | l :: ls => match wordsM wMaster 1 l with
    | some n => goItems (putMaster r n) ls
    | none => none
def goTypes (r : ReqM) : List (List UInt8) → Option ReqM
  | [] => none
  | l :: ls => match wordsM wType 7 l with
    | some n => goTypes (putType r n) ls
    | none => goMaster r (l :: ls)
def goWith (r : ReqM) : List (List UInt8) → Option ReqM
  | [] => none
  | l :: ls => match wordsM wWith 2 l with
    | some n => goWith (putWith r n) ls
    | none => goTypes r (l :: ls)
def goClasses (r : ReqM) : List (List UInt8) → Option ReqM
  | [] => none
  | l :: ls => match wordsM wClasses 1 l with
    | some n => goWith (putClasses r n) ls
    | none => none
def goPallet (r : ReqM) : List (List UInt8) → Option ReqM
  | [] => none
  | l :: ls => match wordsM wPallet 4 l with
    | some n => goClasses (putPallet r n) ls
    | none => none
def goWay : List (List UInt8) → Option ReqM
  | [] => none
  | l :: ls => if l = wWayF then goPallet reqZ ls else if l = wWayN then goPallet { reqZ with way := 1 } ls else none
theorem way_words {l : List UInt8} (h : l = wWayF ∨ l = wWayN) (w : List UInt8) (hw : w ≠ [119, 97, 121]) (k : Nat) : wordsM w k l = none := by
  rcases h with rfl | rfl
  · exact words_word (q := [119, 97, 121]) (qs := [[102, 105, 114, 115, 116]]) (by decide) (fun e => hw e.symm)
  · exact words_word (q := [119, 97, 121]) (qs := [[110, 101, 120, 116]]) (by decide) (fun e => hw e.symm)
/-- What kind a line is, by what its words are. -/
inductive LineIs (r : ReqM) (l : List UInt8) : ReqM → Int → Prop where
  | wayF (h : l = wWayF) : LineIs r l { r with way := 0 } 0
  | wayN (h : l = wWayN) : LineIs r l { r with way := 1 } 0
  | pallet {n : List Int} (h : wordsM wPallet 4 l = some n) : LineIs r l (putPallet r n) 1
  | classes {n : List Int} (h : wordsM wClasses 1 l = some n) : LineIs r l (putClasses r n) 2
  | «with» {n : List Int} (h : wordsM wWith 2 l = some n) : LineIs r l (putWith r n) 3
  | type {n : List Int} (h : wordsM wType 7 l = some n) : LineIs r l (putType r n) 4
  | master {n : List Int} (h : wordsM wMaster 1 l = some n) : LineIs r l (putMaster r n) 5
  | item {n : List Int} (h : wordsM wItem 7 l = some n) : LineIs r l (putItem r n) 6
  | no (h0 : l ≠ wWayF) (h9 : l ≠ wWayN) (h1 : wordsM wPallet 4 l = none) (h2 : wordsM wClasses 1 l = none) (h3 : wordsM wWith 2 l = none) (h4 : wordsM wType 7 l = none) (h5 : wordsM wMaster 1 l = none) (h6 : wordsM wItem 7 l = none) : LineIs r l r (-1)
theorem line_is (r : ReqM) (l : List UInt8) : LineIs r l (putLineM r l).1 (putLineM r l).2 := by
  rw [putLineM]
  split
  · rename_i h; exact .wayF h
  · rename_i h0
    split
    · rename_i h; exact .wayN h
    · rename_i h9
      split
      · rename_i n h; exact .pallet h
      · rename_i h1
        split
        · rename_i n h; exact .classes h
        · rename_i h2
          split
          · rename_i n h; exact .with h
          · rename_i h3
            split
            · rename_i n h; exact .type h
            · rename_i h4
              split
              · rename_i n h; exact .master h
              · rename_i h5
                split
                · rename_i n h; exact .item h
                · rename_i h6; exact .no h0 h9 h1 h2 h3 h4 h5 h6
theorem run_cons {r : ReqM} {last : Int} {l : List UInt8} {ls : List (List UInt8)} {r' : ReqM} {k : Int} (h : (putLineM r l).1 = r') (h2 : (putLineM r l).2 = k) : runM r last (l :: ls) = if mayM last k then runM r' k ls else none := by rw [runM, h, h2]
theorem run_items : ∀ (ls : List (List UInt8)) (r : ReqM) (last : Int), last = 5 ∨ last = 6 → runM r last ls = goItems r ls
  | [], r, last, h => by rw [runM, goItems, if_neg (by omega)]
  | l :: ls, r, last, h => by
    have hi := line_is r l
    rw [goItems]
    generalize hr : (putLineM r l).1 = r' at hi
    generalize hk : (putLineM r l).2 = k at hi
    rw [run_cons hr hk]
    cases hi with
    | wayF e => rw [way_words (.inl e) wItem (by decide)]; rw [if_neg]; rcases h with rfl | rfl <;> decide
    | wayN e => rw [way_words (.inr e) wItem (by decide)]; rw [if_neg]; rcases h with rfl | rfl <;> decide
    | pallet e => rw [words_two e (w' := wItem) (by decide)]; rw [if_neg]; rcases h with rfl | rfl <;> decide
    | classes e => rw [words_two e (w' := wItem) (by decide)]; rw [if_neg]; rcases h with rfl | rfl <;> decide
    | «with» e => rw [words_two e (w' := wItem) (by decide)]; rw [if_neg]; rcases h with rfl | rfl <;> decide
    | type e => rw [words_two e (w' := wItem) (by decide)]; rw [if_neg]; rcases h with rfl | rfl <;> decide
    | master e => rw [words_two e (w' := wItem) (by decide)]; rw [if_neg]; rcases h with rfl | rfl <;> decide
    | item e => rw [e]; rw [if_pos (by rcases h with rfl | rfl <;> decide)]; exact run_items ls _ 6 (.inr rfl)
    | no h0 h9 h1 h2 h3 h4 h5 h6 => rw [h6]; rw [if_neg]; rcases h with rfl | rfl <;> decide
theorem run_types : ∀ (ls : List (List UInt8)) (r : ReqM), runM r 4 ls = goTypes r ls
  | [], r => by rw [runM, goTypes, if_pos (by decide)]
  | l :: ls, r => by
    have hi := line_is r l
    rw [goTypes, goMaster]
    generalize hr : (putLineM r l).1 = r' at hi
    generalize hk : (putLineM r l).2 = k at hi
    rw [run_cons hr hk]
    cases hi with
    | wayF e => rw [way_words (.inl e) wType (by decide), way_words (.inl e) wMaster (by decide)]; rfl
    | wayN e => rw [way_words (.inr e) wType (by decide), way_words (.inr e) wMaster (by decide)]; rfl
    | pallet e => rw [words_two e (w' := wType) (by decide), words_two e (w' := wMaster) (by decide)]; rfl
    | classes e => rw [words_two e (w' := wType) (by decide), words_two e (w' := wMaster) (by decide)]; rfl
    | «with» e => rw [words_two e (w' := wType) (by decide), words_two e (w' := wMaster) (by decide)]; rfl
    | type e => rw [e]; rw [if_pos (by decide)]; exact run_types ls _
    | master e => rw [words_two e (w' := wType) (by decide), e]; rw [if_pos (by decide)]; exact run_items ls _ 5 (.inl rfl)
    | item e => rw [words_two e (w' := wType) (by decide), words_two e (w' := wMaster) (by decide)]; rfl
    | no h0 h9 h1 h2 h3 h4 h5 h6 => rw [h4, h5]; rfl
theorem run_with : ∀ (ls : List (List UInt8)) (r : ReqM) (last : Int), last = 2 ∨ last = 3 → runM r last ls = goWith r ls
  | [], r, last, h => by rw [runM, goWith, if_pos (by omega)]
  | l :: ls, r, last, h => by
    have hi := line_is r l
    rw [goWith, goTypes, goMaster]
    generalize hr : (putLineM r l).1 = r' at hi
    generalize hk : (putLineM r l).2 = k at hi
    rw [run_cons hr hk]
    cases hi with
    | wayF e => rw [way_words (.inl e) wWith (by decide), way_words (.inl e) wType (by decide), way_words (.inl e) wMaster (by decide)]; rw [if_neg]; rcases h with rfl | rfl <;> decide
    | wayN e => rw [way_words (.inr e) wWith (by decide), way_words (.inr e) wType (by decide), way_words (.inr e) wMaster (by decide)]; rw [if_neg]; rcases h with rfl | rfl <;> decide
    | pallet e => rw [words_two e (w' := wWith) (by decide), words_two e (w' := wType) (by decide), words_two e (w' := wMaster) (by decide)]; rw [if_neg]; rcases h with rfl | rfl <;> decide
    | classes e => rw [words_two e (w' := wWith) (by decide), words_two e (w' := wType) (by decide), words_two e (w' := wMaster) (by decide)]; rw [if_neg]; rcases h with rfl | rfl <;> decide
    | «with» e => rw [e]; rw [if_pos (by rcases h with rfl | rfl <;> decide)]; exact run_with ls _ 3 (.inr rfl)
    | type e => rw [words_two e (w' := wWith) (by decide), e]; rw [if_pos (by rcases h with rfl | rfl <;> decide)]; exact run_types ls _
    | master e => rw [words_two e (w' := wWith) (by decide), words_two e (w' := wType) (by decide), e]; rw [if_pos (by rcases h with rfl | rfl <;> decide)]; exact run_items ls _ 5 (.inl rfl)
    | item e => rw [words_two e (w' := wWith) (by decide), words_two e (w' := wType) (by decide), words_two e (w' := wMaster) (by decide)]; rw [if_neg]; rcases h with rfl | rfl <;> decide
    | no h0 h9 h1 h2 h3 h4 h5 h6 => rw [h3, h4, h5]; rw [if_neg]; rcases h with rfl | rfl <;> decide
theorem run_classes (ls : List (List UInt8)) (r : ReqM) : runM r 1 ls = goClasses r ls := by
  cases ls with
  | nil => rfl
  | cons l ls =>
    have hi := line_is r l
    rw [goClasses]
    generalize hr : (putLineM r l).1 = r' at hi
    generalize hk : (putLineM r l).2 = k at hi
    rw [run_cons hr hk]
    cases hi with
    | wayF e => rw [way_words (.inl e) wClasses (by decide)]; rfl
    | wayN e => rw [way_words (.inr e) wClasses (by decide)]; rfl
    | classes e => rw [e]; rw [if_pos (by decide)]; exact run_with ls _ 2 (.inl rfl)
    | pallet e => rw [words_two e (w' := wClasses) (by decide)]; rfl
    | «with» e => rw [words_two e (w' := wClasses) (by decide)]; rfl
    | type e => rw [words_two e (w' := wClasses) (by decide)]; rfl
    | master e => rw [words_two e (w' := wClasses) (by decide)]; rfl
    | item e => rw [words_two e (w' := wClasses) (by decide)]; rfl
    | no h0 h9 h1 h2 h3 h4 h5 h6 => rw [h2]; rfl
theorem run_pallet (ls : List (List UInt8)) (r : ReqM) : runM r 0 ls = goPallet r ls := by
  cases ls with
  | nil => rfl
  | cons l ls =>
    have hi := line_is r l
    rw [goPallet]
    generalize hr : (putLineM r l).1 = r' at hi
    generalize hk : (putLineM r l).2 = k at hi
    rw [run_cons hr hk]
    cases hi with
    | wayF e => rw [way_words (.inl e) wPallet (by decide)]; rfl
    | wayN e => rw [way_words (.inr e) wPallet (by decide)]; rfl
    | pallet e => rw [e]; rw [if_pos (by decide)]; exact run_classes ls _
    | classes e => rw [words_two e (w' := wPallet) (by decide)]; rfl
    | «with» e => rw [words_two e (w' := wPallet) (by decide)]; rfl
    | type e => rw [words_two e (w' := wPallet) (by decide)]; rfl
    | master e => rw [words_two e (w' := wPallet) (by decide)]; rfl
    | item e => rw [words_two e (w' := wPallet) (by decide)]; rfl
    | no h0 h9 h1 h2 h3 h4 h5 h6 => rw [h1]; rfl
theorem run_way (ls : List (List UInt8)) : runM reqZ (-1) ls = goWay ls := by
  cases ls with
  | nil => rfl
  | cons l ls =>
    have hi := line_is reqZ l
    rw [goWay]
    generalize hr : (putLineM reqZ l).1 = r' at hi
    generalize hk : (putLineM reqZ l).2 = k at hi
    rw [run_cons hr hk]
    cases hi with
    | wayF e => rw [if_pos (c := l = wWayF) e, if_pos (by decide)]; exact run_pallet ls _
    | wayN e => rw [if_neg (c := l = wWayF) (by rw [e]; decide), if_pos (c := l = wWayN) e, if_pos (by decide)]; exact run_pallet ls _
    | pallet e => rw [if_neg (c := l = wWayF) (fun k => by rw [way_words (.inl k) wPallet (by decide)] at e; cases e), if_neg (c := l = wWayN) (fun k => by rw [way_words (.inr k) wPallet (by decide)] at e; cases e)]; rfl
    | classes e => rw [if_neg (c := l = wWayF) (fun k => by rw [way_words (.inl k) wClasses (by decide)] at e; cases e), if_neg (c := l = wWayN) (fun k => by rw [way_words (.inr k) wClasses (by decide)] at e; cases e)]; rfl
    | «with» e => rw [if_neg (c := l = wWayF) (fun k => by rw [way_words (.inl k) wWith (by decide)] at e; cases e), if_neg (c := l = wWayN) (fun k => by rw [way_words (.inr k) wWith (by decide)] at e; cases e)]; rfl
    | type e => rw [if_neg (c := l = wWayF) (fun k => by rw [way_words (.inl k) wType (by decide)] at e; cases e), if_neg (c := l = wWayN) (fun k => by rw [way_words (.inr k) wType (by decide)] at e; cases e)]; rfl
    | master e => rw [if_neg (c := l = wWayF) (fun k => by rw [way_words (.inl k) wMaster (by decide)] at e; cases e), if_neg (c := l = wWayN) (fun k => by rw [way_words (.inr k) wMaster (by decide)] at e; cases e)]; rfl
    | item e => rw [if_neg (c := l = wWayF) (fun k => by rw [way_words (.inl k) wItem (by decide)] at e; cases e), if_neg (c := l = wWayN) (fun k => by rw [way_words (.inr k) wItem (by decide)] at e; cases e)]; rfl
    | no h0 h9 h1 h2 h3 h4 h5 h6 => rw [if_neg (c := l = wWayF) h0, if_neg (c := l = wWayN) h9]; rfl
end Go.Proofs.YtnfokjlplbbbeaaGreatDoor

/-
  Plans that are right.
-/
namespace Go.Proofs.YtnfokjlplbbbeaaGreatDoor
open Go.RowKit
attribute [local irreducible] Go.wpList Go.Code.wp Go.Exit.then Go.Exit.inBlock Go.bodyPost Go.Calls pE pB G RunsV FnV Fn FnM
set_option maxRecDepth 100000

/-- The numbers of a list go up, and are in bounds: at one place. -/
def upAt (l : List Int) (i : Nat) : Bool := match l[i]? with
  | none => true
  | some u => inB u 0 999 && (match i with | 0 => true | j + 1 => match l[j]? with | none => true | some v => decide (v < u))
def upM (l : List Int) : Bool := decide (l.length ≤ 100) && (List.range l.length).all (upAt l)
def planAt (cs : List CartonM) (ss : List SpotM) (i : Nat) : Bool := match cs[i]?, ss[i]? with
  | some c, some s => (inB c.t 0 999 && inB c.g 0 3 && upM c.l) && inB s.p 0 2000 && inB s.x 0 2000 && inB s.y 0 2000 && inB s.z 0 2000
  | _, _ => true
def planOkM (cs : List CartonM) (ss : List SpotM) : Bool := decide (ss.length = cs.length) && decide (cs.length ≤ 100) && (List.range cs.length).all (planAt cs ss)
end Go.Proofs.YtnfokjlplbbbeaaGreatDoor

/-
  The text of a plan, and what is read of it.
-/
namespace Go.Proofs.YtnfokjlplbbbeaaGreatDoor
open Go.Lib
abbrev wCarton : List UInt8 := [99, 97, 114, 116, 111, 110]
def lineNs (c : CartonM) (s : SpotM) : List Int := [c.t, c.g, s.p, s.x, s.y, s.z] ++ c.l
def rowT (c : CartonM) (s : SpotM) : List UInt8 := lineT wCarton (lineNs c s)
/-- The lines of cartons and their places. -/
def rowsP (cs : List CartonM) (ss : List SpotM) : List (List UInt8) := (cs.zip ss).map fun x => rowT x.1 x.2
def linesP (ls : List (List UInt8)) : List UInt8 := ls.flatMap (· ++ [10])
def planTextM (cs : List CartonM) (ss : List SpotM) : List UInt8 := if planOkM cs ss then linesP (rowsP cs ss) else []
/-- Numbers put behind a line. -/
def tailT (ns : List Int) : List UInt8 := ns.flatMap fun n => 32 :: itoa n
theorem lineT_tail (w : List UInt8) : ∀ ns, lineT w ns = w ++ tailT ns
  | [] => by rw [lineT, tailT, List.map_nil, joinM]; simp
  | n :: ns => by
    rw [lineT, List.map_cons, joinM, tailT, List.flatMap_cons]
    have := lineT_tail (itoa n) ns
    rw [lineT] at this
    rw [this, tailT]; simp
theorem tail_next {ns : List Int} {k : Nat} {n : Int} (h : ns[k]? = some n) : tailT (ns.take (k + 1)) = tailT (ns.take k) ++ 32 :: itoa n := by
  rw [tailT, tailT, List.take_add_one, h, List.flatMap_append]; simp
theorem tail_len {ns : List Int} (h : ∀ n ∈ ns, okN n) : (tailT ns).length ≤ 7 * ns.length := by
  induction ns with
  | nil => simp [tailT]
  | cons n ns ih =>
    have h1 := h n List.mem_cons_self
    have h2 := ih (fun m hm => h m (List.mem_cons_of_mem _ hm))
    have h3 : (itoa n).length ≤ 6 := by
      have := number_mk h1.1 h1.2
      rw [numberM] at this
      split at this
      · rename_i hh; exact hh.2.1
      · cases (Prod.mk.inj this).2
    rw [tailT] at h2 ⊢
    simp only [List.flatMap_cons, List.length_append, List.length_cons] at h2 ⊢
    omega
/-! ### A right plan's numbers -/
/-! ### Reading -/
def cartonOf (ns : List Int) : CartonM := ⟨at0 ns 0, at0 ns 1, ns.drop 6⟩
def spotOf (ns : List Int) : SpotM := ⟨at0 ns 2, at0 ns 3, at0 ns 4, at0 ns 5⟩
def okLine (ns : List Int) : Bool := decide (6 ≤ ns.length) && planOkM [cartonOf ns] [spotOf ns]
/-- The numbers of a carton's line. -/
def lineM (l : List UInt8) : Option (List Int) := match partsM 32 l with
  | p :: ps => if p = wCarton then match numsM ps with
    | some ns => if okLine ns then some ns else none
    | none => none else none
  | [] => none
/-- What is read of a text of lines; none: it is no plan's. -/
def linesM : List (List UInt8) → Option (List (List Int))
  | [] => some []
  | l :: ls => match lineM l with
    | some ns => (linesM ls).map (ns :: ·)
    | none => none
def readPM (s : List UInt8) : Option (List (List Int)) :=
  let ls := partsM 10 s
  if ls.length - 1 ≤ 100 ∧ ls.getLast? = some [] then linesM (ls.take (ls.length - 1)) else none
end Go.Proofs.YtnfokjlplbbbeaaGreatDoor

/-
  Lines told, and plans told: both ways; lines taken apart.
-/
namespace Go.Proofs.YtnfokjlplbbbeaaGreatDoor
open Go.RowKit Go.Lib
theorem itoa_len6 {n : Int} (h : okN n) : (itoa n).length ≤ 6 := by
  have := number_mk h.1 h.2
  rw [numberM] at this
  split at this
  · rename_i hh; exact hh.2.1
  · cases (Prod.mk.inj this).2
theorem tail_take {ns : List Int} (h : ∀ n ∈ ns, okN n) (k : Nat) : (tailT (ns.take k)).length ≤ 7 * k := by
  have h1 := tail_len (ns := ns.take k) (fun n hn => h n (List.mem_of_mem_take hn))
  rw [List.length_take] at h1; omega
theorem inB_ok {n : Int} (h : okN n) : inB n 0 999999 = true := by
  have := h.1; have := h.2
  simp only [inB, Bool.and_eq_true, decide_eq_true_eq]; omega
attribute [local irreducible] Go.wpList Go.Code.wp Go.Exit.then Go.Exit.inBlock Go.bodyPost Go.Calls pE pB G RunsV FnV Fn FnM
set_option maxRecDepth 100000
set_option maxHeartbeats 4000000
theorem textLine_any {wd : List UInt8} {ns : List Int} {v : Value} (hw : wd.length ≤ 100) (hn : ns.length ≤ 200) (hok : ∀ n ∈ ns, okN n) (w : World) (ht : TabI w) (h : Rd w v 1 (ns.map icell)) : FnV Tryz.prog 44 [sv wd, v] w (.tuple #[sv (lineT wd ns ++ [10]), .bool true]) := by
  have hln : (ns.map icell).length = ns.length := List.length_map ..
  refine FnV.of (n := 27) Tryz.func44 rfl rfl ?_; refine G.seq (G.region (G.v (rv_assign rfl) rfl (G.v (rv_assign rfl) rfl (G.done (G.thenN (G.seq (G.region (G.v (rv_move rfl) rfl (G.v (rv_assign rfl) rfl (G.done (G.thenN ?_))))))))))); refine G.seq (G.seq (G.region (G.v (rv_move rfl) rfl ?_))); refine G.v (rv_len rfl (by first | exact Rd.stays (by assumption) | exact Rd.owned 0 rfl)) rfl ?_; refine G.v (rv_move rfl) rfl (G.done (G.thenN (G.block ?_)))
  -- loop 0: turned [6, 12], kept [10, 11]
  refine G.loopK (ι := Nat) (ks := [10, 11]) (fun k => [(6, sv (wd ++ tailT (ns.take k))), (12, .int .i64 (k : Int))]) (fun _ => []) (fun k => k ≤ ns.length) (fun k => ns.length - k) 0 (.cons rfl (.cons rfl (.nil))) rfl ?_ ?_ ?_
  · exact Nat.zero_le _
  · exact ⟨congrArg (fun l => some (sv l)) (show wd = wd ++ tailT (ns.take 0) by simp [tailT]), rfl, trivial⟩
  rintro k hk
  have htl := tail_take hok k
  by_cases hlt : k < ns.length
  case' pos => (obtain ⟨z, hz⟩ := get_of_lt hlt; have he := get_map hz icell; have hnz := hok z (List.mem_of_getElem? hz); have hi6 := itoa_len6 hnz; have hin := inB_ok hnz; have hnz0 := hnz.1; have hnz1 := hnz.2; have htn := tail_next hz)
  all_goals
   refine G.seq (G.region (G.v (rv_lss rfl rfl) rfl (G.done (G.thenN (G.seq ?_))))); refine G.cond rfl (fun hc => ?_) (fun hc => ?_)
   · try exact Bool.noConfusion hc
     all_goals
      try replace hc := of_decide_eq_true hc
      try (exfalso; first | contradiction | omega)
      all_goals
       refine G.skip (G.thenN (G.seq (G.block (G.seq (G.region ?_)))))
       (first | refine G.v (rv_indexH rfl rfl (by first | exact Rd.stays (by assumption) | exact Rd.owned 0 rfl) rfl (by assumption)) rfl ?_ | refine G.v (rv_index rfl rfl (by first | exact Rd.stays (by assumption) | exact Rd.owned 0 rfl) rfl (by assumption)) rfl ?_)
       refine G.v (rv_loadE rfl (by first | exact Rd.stays (by assumption) | exact Rd.owned 0 rfl) (by assumption) rfl) rfl ?_; refine G.v (rv_assign rfl) rfl (G.done (G.thenN (G.seq (G.seq (G.region (G.v (rv_move rfl) rfl ?_)))))); refine G.op (og_callV rfl rfl (fun w _ => in_any _ _ _ w)) rfl (fun _ _ => ?_); refine G.v (rv_not rfl) rfl (G.done (G.thenN ?_)); refine G.cond rfl (fun hc => ?_) (fun hc => ?_)
       · try exact Bool.noConfusion hc
         all_goals
          try replace hc := of_decide_eq_true hc
          try (exfalso; first | contradiction | omega)
          all_goals
           exfalso; rw [hin] at hc; cases hc
       · try exact Bool.noConfusion hc
         all_goals
          try replace hc := of_decide_eq_false hc
          try (exfalso; first | contradiction | omega)
          all_goals
           refine G.skip (G.thenN (G.region (G.v (rv_move rfl) rfl (G.v (rv_move rfl) rfl ?_)))); refine G.op (og_callV rfl rfl (fun w hh => digits_any (z := z) (by omega) (by omega) w (ht.stays hh))) rfl (fun _ _ => ?_); refine G.v (rv_catS rfl rfl (by simp only [List.length_append, List.length_cons, List.length_nil]; omega)) rfl ?_; refine G.v (rv_catS rfl rfl (by simp only [List.length_append, List.length_cons, List.length_nil]; omega)) rfl ?_; refine G.v (rv_assign rfl) rfl (G.done (G.inN (G.thenN (G.region ?_))))
           (first | refine G.v (rv_incr rfl rfl (by omega)) rfl ?_ | refine G.v (rv_addB rfl rfl (by omega) (by omega)) rfl ?_)
           refine G.v (rv_move rfl) rfl (G.done ?_)
           first | refine G.backK (k + 1) 0 rfl (.cons rfl (.cons rfl (.nil))) ?_ ?_ ?_ | refine G.backK (k + 1) 1 rfl (.cons rfl (.cons rfl (.nil))) ?_ ?_ ?_ | refine G.backK (k + 1) 2 rfl (.cons rfl (.cons rfl (.nil))) ?_ ?_ ?_ | refine G.backK (k + 1) 3 rfl (.cons rfl (.cons rfl (.nil))) ?_ ?_ ?_
           · exact ⟨congrArg (fun l => some (sv l)) (by rw [htn]; simp), rfl, trivial⟩
           · exact hlt
           · omega
   · try exact Bool.noConfusion hc
     all_goals
      try replace hc := of_decide_eq_false hc
      try (exfalso; first | contradiction | omega)
      all_goals
       refine G.exit (G.thenX (G.thenX (G.inX (G.thenN (G.seq (G.region (G.v (rv_move rfl) rfl ?_))))))); refine G.v (rv_catS rfl rfl (by simp only [List.length_append, List.length_cons, List.length_nil]; omega)) rfl ?_; refine G.v (rv_assign rfl) rfl (G.v (rv_assign rfl) rfl (G.done (G.thenN (G.ret ?_))))
       exact G.retVL rfl (.cons (.tmp rfl) (.cons (.tmp rfl) .nil)) (by rw [lineT_tail, take_all (by omega)])
end Go.Proofs.YtnfokjlplbbbeaaGreatDoor

/-
  Lines read: both ways.
-/
namespace Go.Proofs.YtnfokjlplbbbeaaGreatDoor
open Go.RowKit Go.Lib
/-! ### Part of a row -/
/-! ### Numbers, one by one -/
theorem nums_next {ps : List (List UInt8)} {k : Nat} {p : List UInt8} {ns : List Int} (hp : ps[k]? = some p) (h : numsM (ps.take k) = some ns) (hn : (numberM p).2 = true) : numsM (ps.take (k + 1)) = some (ns ++ [(numberM p).1]) := by
  rw [List.take_add_one, hp]
  have : ∀ (a : List (List UInt8)) (ns : List Int), numsM a = some ns → numsM (a ++ [p]) = some (ns ++ [(numberM p).1]) := by
    intro a
    induction a with
    | nil => intro ns h; rw [numsM] at h; rw [← Option.some.inj h]; simp [numsM, hn]
    | cons b a ih =>
      intro ns h
      rw [numsM] at h
      rw [List.cons_append, numsM]
      split at h
      · rename_i hb
        obtain ⟨ms, hm, rfl⟩ := Option.map_eq_some_iff.1 h
        rw [if_pos hb, ih ms hm]; rfl
      · cases h
  exact this _ _ h
theorem nums_no : ∀ {ps : List (List UInt8)} {p : List UInt8}, p ∈ ps → (numberM p).2 = false → numsM ps = none
  | [], _, h, _ => absurd h List.not_mem_nil
  | b :: ps, p, h, hn => by
    rw [numsM]
    rcases List.mem_cons.1 h with rfl | h
    · rw [if_neg (by rw [hn]; decide)]
    · split
      · rw [nums_no h hn]; rfl
      · rfl
theorem words_parts {wd l p : List UInt8} {ps : List (List UInt8)} (h : partsM 32 l = p :: ps) (k : Nat) : wordsM wd k l = if p = wd ∧ ps.length = k then numsM ps else none := by rw [wordsM, h]
attribute [local irreducible] Go.wpList Go.Code.wp Go.Exit.then Go.Exit.inBlock Go.bodyPost Go.Calls pE pB G RunsV FnV Fn FnM
set_option maxRecDepth 100000
set_option maxHeartbeats 4000000
theorem wordsOf_any {wd l : List UInt8} {n : Nat} (hl : l.length ≤ 1048576) (hn : n ≤ 1048577) (w : World) (ht : TabI w) (hte : TabE w) : Fn Tryz.prog 77 [sv l, sv wd, .int .i64 (n : Int)] w (fun v : Value => v.oneCell' = true ∧ (wordsM wd n l = none → v = .slice none 0 0)) (fun v => .tuple #[v, .bool (wordsM wd n l).isSome]) (fun v => [.row v 3 1 (((wordsM wd n l).getD []).map icell)]) := by
  have hpl := parts_len 32 l
  have hpm : ∀ q ∈ partsM 32 l, q.length ≤ l.length := parts_each 32 l
  obtain ⟨p, ps, hpp⟩ : ∃ p ps, partsM 32 l = p :: ps := (by cases h : partsM 32 l with | nil => exact absurd h (parts_ne 32 l) | cons p ps => exact ⟨p, ps, rfl⟩)
  have hwp := words_parts (wd := wd) hpp n
  rw [hpp] at hpl hpm
  have hpl2 : (((p :: ps)).map scell).length = ps.length + 1 := (by rw [List.length_map, List.length_cons])
  have hpl3 : (p :: ps).length = ps.length + 1 := List.length_cons ..
  have hsub1 : 1 ≤ (p :: ps).length := (by omega)
  have he0 : ((p :: ps).map scell)[0]? = some (scell p) := rfl
  refine Fn.of (n := 49) Tryz.func77 rfl rfl ?_; refine G.seq (G.region (G.v (rv_assign rfl) rfl (G.v (rv_assign rfl) rfl (G.done (G.thenN (G.seq (G.region (G.v (rv_move rfl) rfl ?_))))))))
  (refine G.op (og_callF1 rfl rfl (fun w hh => parts_any (b := 32) hl w)) rfl ?_; rintro vp hvp; try dsimp only)
  (first | refine G.frontR0 vp rfl ?_ | refine G.frontR1 vp rfl ?_ | refine G.frontR2 vp rfl ?_ | refine G.frontR3 vp rfl ?_ | refine G.frontR4 vp rfl ?_ | refine G.frontR5 vp rfl ?_ | refine G.frontR6 vp rfl ?_ | refine G.frontR7 vp rfl ?_ | refine G.frontR8 vp rfl ?_ | refine G.frontR9 vp rfl ?_ | refine G.frontR10 vp rfl ?_ | refine G.frontR11 vp rfl ?_ | refine G.frontR12 vp rfl ?_ | refine G.frontR13 vp rfl ?_)
  refine G.rowEq ((p :: ps).map scell) (by rw [hpp]) rfl ?_; refine G.v (rv_assign rfl) rfl (G.done (G.thenN (G.seq (G.seq (G.region (G.v (rv_move rfl) rfl ?_))))))
  (first | refine G.v (rv_indexH (k := 0) rfl rfl (by first | exact Rd.owned 0 rfl | exact Rd.owned 1 rfl) rfl he0) rfl ?_ | refine G.v (rv_indexH rfl rfl (by first | exact Rd.stays (by assumption) | exact Rd.owned 0 rfl | exact Rd.owned 1 rfl | exact Rd.owned 2 rfl | exact Rd.owned 3 rfl | exact Rd.owned 4 rfl | exact Rd.owned 5 rfl | exact (fun w hh => Rd.subL (l := p :: ps) (k := 1) (Rd.owned 0 rfl w hh) hsub1)) rfl (by first | exact he0 | exact he)) rfl ?_ | refine G.v (rv_index rfl rfl (by first | exact Rd.stays (by assumption) | exact Rd.owned 0 rfl | exact Rd.owned 1 rfl | exact Rd.owned 2 rfl | exact Rd.owned 3 rfl | exact Rd.owned 4 rfl | exact Rd.owned 5 rfl | exact (fun w hh => Rd.subL (l := p :: ps) (k := 1) (Rd.owned 0 rfl w hh) hsub1)) rfl (by assumption)) rfl ?_)
  refine G.v (rv_loadE rfl (by first | exact Rd.stays (by assumption) | exact Rd.owned 0 rfl | exact Rd.owned 1 rfl | exact Rd.owned 2 rfl | exact Rd.owned 3 rfl | exact Rd.owned 4 rfl | exact Rd.owned 5 rfl | exact (fun w hh => Rd.subL (l := p :: ps) (k := 1) (Rd.owned 0 rfl w hh) hsub1)) (by first | exact he0 | exact he) rfl) rfl ?_; refine G.v (rv_move rfl) rfl ?_; refine G.v (rv_neqS rfl rfl) rfl ?_; refine G.v (rv_move rfl) rfl ?_
  all_goals (((with_reducible refine G.gP rfl rfl (fun hg => ?_) (fun hg => ?_)) <;> (try exact Bool.noConfusion hg) <;> (first | (refine G.gY rfl rfl ?_; refine G.v (rv_move rfl) rfl ?_) | refine G.gN rfl rfl rfl ?_ | refine G.gU rfl rfl rfl ?_)))
  all_goals ((first | (refine G.gY rfl rfl ?_; refine G.v (rv_len rfl (by first | exact Rd.stays (by assumption) | exact Rd.owned 0 rfl | exact Rd.owned 1 rfl | exact Rd.owned 2 rfl | exact Rd.owned 3 rfl | exact Rd.owned 4 rfl | exact Rd.owned 5 rfl | exact (fun w hh => Rd.subL (l := p :: ps) (k := 1) (Rd.owned 0 rfl w hh) hsub1))) rfl ?_) | refine G.gN rfl rfl rfl ?_ | refine G.gU rfl rfl rfl ?_))
  all_goals ((first | (refine G.gY rfl rfl ?_; refine G.v (rv_move rfl) rfl ?_) | refine G.gN rfl rfl rfl ?_ | refine G.gU rfl rfl rfl ?_))
  all_goals ((first | (refine G.gY rfl rfl ?_; (first | refine G.v (rv_incr rfl rfl (by omega)) rfl ?_ | refine G.v (rv_addB rfl rfl (by omega) (by omega)) rfl ?_)) | refine G.gN rfl rfl rfl ?_ | refine G.gU rfl rfl rfl ?_))
  all_goals ((first | (refine G.gY rfl rfl ?_; refine G.v (rv_neq rfl rfl) rfl ?_) | refine G.gN rfl rfl rfl ?_ | refine G.gU rfl rfl rfl ?_))
  all_goals ((first | refine G.v (rv_pickT rfl rfl) rfl ?_ | refine G.v (rv_pickF rfl rfl) rfl ?_))
  all_goals
   refine G.done (G.thenN ?_); refine G.cond rfl (fun hc => ?_) (fun hc => ?_)
   · try exact Bool.noConfusion hc
     all_goals
      try replace hc := of_decide_eq_true hc
      try (exfalso; first | contradiction | omega)
      all_goals
       refine G.seq (G.region (G.v (rv_assign rfl) rfl (G.v (rv_assign rfl) rfl (G.done (G.thenN (G.ret (G.thenR ?_)))))))
       first | (have hno : wordsM wd n l = none := (by rw [hwp, if_neg (fun e => of_decide_eq_true hg e.1)]); refine G.heap (fun w hh => hh.nilRow 3 1) ?_; exact G.retL (.slice none 0 0) ⟨rfl, fun _ => rfl⟩ rfl (.cons (.tmp rfl) (.cons (.tmp rfl) .nil)) (by rw [hno]; rfl) (fun w hh => by rw [hno]; exact hh.sublist (by repeat (first | exact List.Sublist.refl _ | refine List.Sublist.cons_cons _ ?_ | refine List.Sublist.cons _ ?_)))) | (have hno : wordsM wd n l = none := (by rw [hwp, if_neg (fun e => (by omega : ¬ ps.length = n) e.2)]); refine G.heap (fun w hh => hh.nilRow 3 1) ?_; exact G.retL (.slice none 0 0) ⟨rfl, fun _ => rfl⟩ rfl (.cons (.tmp rfl) (.cons (.tmp rfl) .nil)) (by rw [hno]; rfl) (fun w hh => by rw [hno]; exact hh.sublist (by repeat (first | exact List.Sublist.refl _ | refine List.Sublist.cons_cons _ ?_ | refine List.Sublist.cons _ ?_)))) | (have hno : wordsM wd n l = none := (by rw [hwp, if_pos ⟨hpw, hpn⟩]; exact nums_no (List.mem_of_getElem? hq) (by simpa using hc)); refine G.heap (fun w hh => hh.nilRow 3 1) ?_; exact G.retL (.slice none 0 0) ⟨rfl, fun _ => rfl⟩ rfl (.cons (.tmp rfl) (.cons (.tmp rfl) .nil)) (by rw [hno]; rfl) (fun w hh => by rw [hno]; exact hh.sublist (by repeat (first | exact List.Sublist.refl _ | refine List.Sublist.cons_cons _ ?_ | refine List.Sublist.cons _ ?_)))) | (have hyes : wordsM wd n l = some ns := (by rw [hwp, if_pos ⟨hpw, hpn⟩, ← hns, take_all hlt]); (first | refine G.frontR0 v rfl ?_ | refine G.frontR1 v rfl ?_ | refine G.frontR2 v rfl ?_ | refine G.frontR3 v rfl ?_ | refine G.frontR4 v rfl ?_ | refine G.frontR5 v rfl ?_ | refine G.frontR6 v rfl ?_ | refine G.frontR7 v rfl ?_ | refine G.frontR8 v rfl ?_ | refine G.frontR9 v rfl ?_ | refine G.frontR10 v rfl ?_ | refine G.frontR11 v rfl ?_ | refine G.frontR12 v rfl ?_ | refine G.frontR13 v rfl ?_); exact G.retL v ⟨hov, fun e => by rw [hyes] at e; cases e⟩ rfl (.cons (.tmp rfl) (.cons (.tmp rfl) .nil)) (by rw [hyes]; rfl) (fun w hh => by rw [hyes]; exact hh.sublist (by repeat (first | exact List.Sublist.refl _ | refine List.Sublist.cons_cons _ ?_ | refine List.Sublist.cons _ ?_))))
   · try exact Bool.noConfusion hc
     all_goals
      try replace hc := of_decide_eq_false hc
      try (exfalso; first | contradiction | omega)
      all_goals
       refine G.skip (G.thenN (G.seq (G.region ?_))); refine G.op (og_lit rfl .nil rfl rfl rfl rfl rfl rfl) rfl (fun vl _ => ?_); refine G.know (fun w hw => (Rd.owned 0 rfl (v := vl) w hw).one_) (fun hovl => ?_); refine G.v (rv_assign rfl) rfl (G.done (G.thenN (G.seq (G.seq (G.region (G.v (rv_move rfl) rfl ?_)))))); refine G.v (rv_sliceL (l := 1) rfl rfl (by first | exact Rd.owned 0 rfl | exact Rd.owned 1 rfl | exact Rd.owned 2 rfl) (by omega)) rfl ?_; refine G.v (rv_len rfl (fun w hh => Rd.subL (l := p :: ps) (k := 1) (by first | exact Rd.owned 0 rfl w hh | exact Rd.owned 1 rfl w hh | exact Rd.owned 2 rfl w hh) (by omega))) rfl ?_; refine G.v (rv_move rfl) rfl (G.done (G.thenN (G.block ?_)))
       -- loop 0: turned [9, 32], kept [30, 31]
       have hpw : p = wd := (by first | exact Decidable.not_not.1 (of_decide_eq_false (by assumption)) | simp_all); have hpn : ps.length = n := (by omega)
       have hdl : (((p :: ps).drop 1).map scell).length = ps.length := (by rw [List.length_map]; rfl)
       (first | refine G.frontR0 vl rfl ?_ | refine G.frontR1 vl rfl ?_ | refine G.frontR2 vl rfl ?_ | refine G.frontR3 vl rfl ?_ | refine G.frontR4 vl rfl ?_ | refine G.frontR5 vl rfl ?_ | refine G.frontR6 vl rfl ?_ | refine G.frontR7 vl rfl ?_ | refine G.frontR8 vl rfl ?_ | refine G.frontR9 vl rfl ?_ | refine G.frontR10 vl rfl ?_ | refine G.frontR11 vl rfl ?_ | refine G.frontR12 vl rfl ?_ | refine G.frontR13 vl rfl ?_)
       (first | refine G.frontR0 vp rfl ?_ | refine G.frontR1 vp rfl ?_ | refine G.frontR2 vp rfl ?_ | refine G.frontR3 vp rfl ?_ | refine G.frontR4 vp rfl ?_ | refine G.frontR5 vp rfl ?_ | refine G.frontR6 vp rfl ?_ | refine G.frontR7 vp rfl ?_ | refine G.frontR8 vp rfl ?_ | refine G.frontR9 vp rfl ?_ | refine G.frontR10 vp rfl ?_ | refine G.frontR11 vp rfl ?_ | refine G.frontR12 vp rfl ?_ | refine G.frontR13 vp rfl ?_)
       refine G.loopK (ι := Nat × Value × List Int) (ks := [30, 31]) (fun x => [(9, x.2.1), (32, .int .i64 (x.1 : Int))]) (fun x => [.row vp 9 1 ((p :: ps).map scell), .row x.2.1 3 1 (x.2.2.map icell)]) (fun x => (x.1 ≤ ps.length ∧ x.2.2.length = x.1) ∧ numsM (ps.take x.1) = some x.2.2 ∧ x.2.1.oneCell' = true) (fun x => ps.length - x.1) (0, vl, []) (.cons rfl (.cons rfl (.nil))) rfl ?_ ?_ ?_
       · exact ⟨⟨Nat.zero_le _, rfl⟩, rfl, hovl⟩
       · exact ⟨rfl, rfl, trivial⟩
       rintro ⟨k, v, ns⟩ ⟨⟨hk, hnl⟩, hns, hov⟩
       dsimp only at hk hnl hns hov ⊢
       have hnlm : (ns.map icell).length = ns.length := List.length_map ..
       by_cases hlt : k < ps.length
       case' pos => (obtain ⟨q, hq⟩ := get_of_lt hlt; have he : (((p :: ps).drop 1).map scell)[k]? = some (scell q) := get_map hq scell; have hql : q.length ≤ 1048576 := (by have := hpm q (List.mem_cons_of_mem _ (List.mem_of_getElem? hq)); omega))
       all_goals
        refine G.seq (G.region (G.v (rv_lss rfl rfl) rfl (G.done (G.thenN (G.seq ?_))))); refine G.cond rfl (fun hc => ?_) (fun hc => ?_)
        · try exact Bool.noConfusion hc
          all_goals
           try replace hc := of_decide_eq_true hc
           try (exfalso; first | contradiction | omega)
           all_goals
            refine G.skip (G.thenN (G.seq (G.block (G.seq (G.region ?_))))); refine G.v (rv_indexH (k := k) rfl rfl (fun w hh => Rd.subL (l := p :: ps) (k := 1) (Rd.owned 0 rfl w hh) hsub1) rfl he) rfl ?_; refine G.v (rv_loadE rfl (by first | exact Rd.stays (by assumption) | exact Rd.owned 0 rfl | exact Rd.owned 1 rfl | exact Rd.owned 2 rfl | exact Rd.owned 3 rfl | exact Rd.owned 4 rfl | exact Rd.owned 5 rfl | exact (fun w hh => Rd.subL (l := p :: ps) (k := 1) (Rd.owned 0 rfl w hh) hsub1)) (by first | exact he0 | exact he) rfl) rfl ?_; refine G.v (rv_assign rfl) rfl (G.done (G.thenN (G.seq (G.region (G.v (rv_move rfl) rfl ?_))))); refine G.op (og_callV rfl rfl (fun w hh => number_any (l := q) hql w (ht.stays hh) (hte.stays hh))) rfl (fun _ _ => ?_); refine G.v (rv_move rfl) rfl (G.v (rv_extract rfl rfl) rfl (G.v (rv_extract rfl rfl) rfl (G.v (rv_assign rfl) rfl (G.v (rv_assign rfl) rfl (G.done (G.thenN (G.seq (G.seq (G.region (G.v (rv_move rfl) rfl (G.v (rv_not rfl) rfl ?_))))))))))); refine G.done (G.thenN ?_); refine G.cond rfl (fun hc => ?_) (fun hc => ?_)
            · try exact Bool.noConfusion hc
              all_goals
               try replace hc := of_decide_eq_true hc
               try (exfalso; first | contradiction | omega)
               all_goals
                refine G.seq (G.region (G.v (rv_assign rfl) rfl (G.v (rv_assign rfl) rfl (G.done (G.thenN (G.ret (G.thenR (G.inR (G.thenR (G.thenR (G.inR ?_))))))))))); refine G.thenR ?_
                first | (have hno : wordsM wd n l = none := (by rw [hwp, if_neg (fun e => of_decide_eq_true hg e.1)]); refine G.heap (fun w hh => hh.nilRow 3 1) ?_; exact G.retL (.slice none 0 0) ⟨rfl, fun _ => rfl⟩ rfl (.cons (.tmp rfl) (.cons (.tmp rfl) .nil)) (by rw [hno]; rfl) (fun w hh => by rw [hno]; exact hh.sublist (by repeat (first | exact List.Sublist.refl _ | refine List.Sublist.cons_cons _ ?_ | refine List.Sublist.cons _ ?_)))) | (have hno : wordsM wd n l = none := (by rw [hwp, if_neg (fun e => (by omega : ¬ ps.length = n) e.2)]); refine G.heap (fun w hh => hh.nilRow 3 1) ?_; exact G.retL (.slice none 0 0) ⟨rfl, fun _ => rfl⟩ rfl (.cons (.tmp rfl) (.cons (.tmp rfl) .nil)) (by rw [hno]; rfl) (fun w hh => by rw [hno]; exact hh.sublist (by repeat (first | exact List.Sublist.refl _ | refine List.Sublist.cons_cons _ ?_ | refine List.Sublist.cons _ ?_)))) | (have hno : wordsM wd n l = none := (by rw [hwp, if_pos ⟨hpw, hpn⟩]; exact nums_no (List.mem_of_getElem? hq) (by simpa using hc)); refine G.heap (fun w hh => hh.nilRow 3 1) ?_; exact G.retL (.slice none 0 0) ⟨rfl, fun _ => rfl⟩ rfl (.cons (.tmp rfl) (.cons (.tmp rfl) .nil)) (by rw [hno]; rfl) (fun w hh => by rw [hno]; exact hh.sublist (by repeat (first | exact List.Sublist.refl _ | refine List.Sublist.cons_cons _ ?_ | refine List.Sublist.cons _ ?_)))) | (have hyes : wordsM wd n l = some ns := (by rw [hwp, if_pos ⟨hpw, hpn⟩, ← hns, take_all hlt]); (first | refine G.frontR0 v rfl ?_ | refine G.frontR1 v rfl ?_ | refine G.frontR2 v rfl ?_ | refine G.frontR3 v rfl ?_ | refine G.frontR4 v rfl ?_ | refine G.frontR5 v rfl ?_ | refine G.frontR6 v rfl ?_ | refine G.frontR7 v rfl ?_ | refine G.frontR8 v rfl ?_ | refine G.frontR9 v rfl ?_ | refine G.frontR10 v rfl ?_ | refine G.frontR11 v rfl ?_ | refine G.frontR12 v rfl ?_ | refine G.frontR13 v rfl ?_); exact G.retL v ⟨hov, fun e => by rw [hyes] at e; cases e⟩ rfl (.cons (.tmp rfl) (.cons (.tmp rfl) .nil)) (by rw [hyes]; rfl) (fun w hh => by rw [hyes]; exact hh.sublist (by repeat (first | exact List.Sublist.refl _ | refine List.Sublist.cons_cons _ ?_ | refine List.Sublist.cons _ ?_))))
            · try exact Bool.noConfusion hc
              all_goals
               try replace hc := of_decide_eq_false hc
               try (exfalso; first | contradiction | omega)
               all_goals
                refine G.skip (G.thenN (G.region (G.v (rv_move rfl) rfl (G.v (rv_move rfl) rfl ?_)))); refine G.op (og_lit rfl (.cons rfl .nil) rfl rfl rfl rfl rfl rfl) rfl (fun vx _ => ?_)
                (first | refine G.op (og_app0 rfl rfl rfl (by first | exact Rd.stays (by assumption) | exact Rd.owned 0 rfl | exact Rd.owned 1 rfl | exact Rd.owned 2 rfl | exact Rd.owned 3 rfl | exact Rd.owned 4 rfl | exact Rd.owned 5 rfl | exact (fun w hh => Rd.subL (l := p :: ps) (k := 1) (Rd.owned 0 rfl w hh) hsub1)) rfl rfl (by first | (simp; done) | (simp; omega)) (by first | (simp; done) | (simp; omega))) rfl (fun va _ => ?_) | refine G.op (og_app1 rfl rfl rfl (by first | exact Rd.stays (by assumption) | exact Rd.owned 0 rfl | exact Rd.owned 1 rfl | exact Rd.owned 2 rfl | exact Rd.owned 3 rfl | exact Rd.owned 4 rfl | exact Rd.owned 5 rfl | exact (fun w hh => Rd.subL (l := p :: ps) (k := 1) (Rd.owned 0 rfl w hh) hsub1)) rfl rfl (by first | (simp; done) | (simp; omega)) (by first | (simp; done) | (simp; omega))) rfl (fun va _ => ?_) | refine G.op (og_app2 rfl rfl rfl (by first | exact Rd.stays (by assumption) | exact Rd.owned 0 rfl | exact Rd.owned 1 rfl | exact Rd.owned 2 rfl | exact Rd.owned 3 rfl | exact Rd.owned 4 rfl | exact Rd.owned 5 rfl | exact (fun w hh => Rd.subL (l := p :: ps) (k := 1) (Rd.owned 0 rfl w hh) hsub1)) rfl rfl (by first | (simp; done) | (simp; omega)) (by first | (simp; done) | (simp; omega))) rfl (fun va _ => ?_) | refine G.op (og_app3 rfl rfl rfl (by first | exact Rd.stays (by assumption) | exact Rd.owned 0 rfl | exact Rd.owned 1 rfl | exact Rd.owned 2 rfl | exact Rd.owned 3 rfl | exact Rd.owned 4 rfl | exact Rd.owned 5 rfl | exact (fun w hh => Rd.subL (l := p :: ps) (k := 1) (Rd.owned 0 rfl w hh) hsub1)) rfl rfl (by first | (simp; done) | (simp; omega)) (by first | (simp; done) | (simp; omega))) rfl (fun va _ => ?_) | refine G.op (og_app4 rfl rfl rfl (by first | exact Rd.stays (by assumption) | exact Rd.owned 0 rfl | exact Rd.owned 1 rfl | exact Rd.owned 2 rfl | exact Rd.owned 3 rfl | exact Rd.owned 4 rfl | exact Rd.owned 5 rfl | exact (fun w hh => Rd.subL (l := p :: ps) (k := 1) (Rd.owned 0 rfl w hh) hsub1)) rfl rfl (by first | (simp; done) | (simp; omega)) (by first | (simp; done) | (simp; omega))) rfl (fun va _ => ?_) | refine G.op (og_app5 rfl rfl rfl (by first | exact Rd.stays (by assumption) | exact Rd.owned 0 rfl | exact Rd.owned 1 rfl | exact Rd.owned 2 rfl | exact Rd.owned 3 rfl | exact Rd.owned 4 rfl | exact Rd.owned 5 rfl | exact (fun w hh => Rd.subL (l := p :: ps) (k := 1) (Rd.owned 0 rfl w hh) hsub1)) rfl rfl (by first | (simp; done) | (simp; omega)) (by first | (simp; done) | (simp; omega))) rfl (fun va _ => ?_))
                refine G.know (fun w hw => by first | exact (Rd.owned 0 rfl (v := va) w hw).one_ | exact (Rd.owned 1 rfl (v := va) w hw).one_ | exact (Rd.owned 2 rfl (v := va) w hw).one_ | exact (Rd.owned 3 rfl (v := va) w hw).one_) (fun hova => ?_); refine G.v (rv_assign rfl) rfl (G.done (G.inN (G.thenN (G.region ?_))))
                (first | refine G.v (rv_incr rfl rfl (by omega)) rfl ?_ | refine G.v (rv_addB rfl rfl (by omega) (by omega)) rfl ?_)
                refine G.v (rv_move rfl) rfl (G.done ?_)
                (first | refine G.frontR0 va rfl ?_ | refine G.frontR1 va rfl ?_ | refine G.frontR2 va rfl ?_ | refine G.frontR3 va rfl ?_ | refine G.frontR4 va rfl ?_ | refine G.frontR5 va rfl ?_ | refine G.frontR6 va rfl ?_ | refine G.frontR7 va rfl ?_ | refine G.frontR8 va rfl ?_ | refine G.frontR9 va rfl ?_ | refine G.frontR10 va rfl ?_ | refine G.frontR11 va rfl ?_ | refine G.frontR12 va rfl ?_ | refine G.frontR13 va rfl ?_)
                (first | refine G.frontR0 vp rfl ?_ | refine G.frontR1 vp rfl ?_ | refine G.frontR2 vp rfl ?_ | refine G.frontR3 vp rfl ?_ | refine G.frontR4 vp rfl ?_ | refine G.frontR5 vp rfl ?_ | refine G.frontR6 vp rfl ?_ | refine G.frontR7 vp rfl ?_ | refine G.frontR8 vp rfl ?_ | refine G.frontR9 vp rfl ?_ | refine G.frontR10 vp rfl ?_ | refine G.frontR11 vp rfl ?_ | refine G.frontR12 vp rfl ?_ | refine G.frontR13 vp rfl ?_)
                first | (refine G.keep2 1 rfl ?_; refine G.backK (k + 1, va, ns ++ [(numberM q).1]) 0 (two_eq rfl (congrArg (fun z => Ch.row va 3 1 z) (by rw [List.map_append]; rfl))) (.cons rfl (.cons rfl (.nil))) ?_ ?_ ?_) | (refine G.keep2 0 rfl ?_; refine G.backK (k + 1, va, ns ++ [(numberM q).1]) 0 (two_eq rfl (congrArg (fun z => Ch.row va 3 1 z) (by rw [List.map_append]; rfl))) (.cons rfl (.cons rfl (.nil))) ?_ ?_ ?_)
                · exact ⟨rfl, rfl, trivial⟩
                · exact ⟨⟨hlt, by dsimp only; rw [List.length_append, List.length_singleton]; omega⟩, nums_next hq hns (by simpa using hc), hova⟩
                · dsimp only; omega
        · try exact Bool.noConfusion hc
          all_goals
           try replace hc := of_decide_eq_false hc
           try (exfalso; first | contradiction | omega)
           all_goals
            refine G.exit (G.thenX (G.thenX (G.inX (G.thenN (G.seq (G.region (G.v (rv_move rfl) rfl (G.v (rv_assign rfl) rfl (G.v (rv_assign rfl) rfl (G.done (G.thenN ?_))))))))))); refine G.ret ?_
            first | (have hno : wordsM wd n l = none := (by rw [hwp, if_neg (fun e => of_decide_eq_true hg e.1)]); refine G.heap (fun w hh => hh.nilRow 3 1) ?_; exact G.retL (.slice none 0 0) ⟨rfl, fun _ => rfl⟩ rfl (.cons (.tmp rfl) (.cons (.tmp rfl) .nil)) (by rw [hno]; rfl) (fun w hh => by rw [hno]; exact hh.sublist (by repeat (first | exact List.Sublist.refl _ | refine List.Sublist.cons_cons _ ?_ | refine List.Sublist.cons _ ?_)))) | (have hno : wordsM wd n l = none := (by rw [hwp, if_neg (fun e => (by omega : ¬ ps.length = n) e.2)]); refine G.heap (fun w hh => hh.nilRow 3 1) ?_; exact G.retL (.slice none 0 0) ⟨rfl, fun _ => rfl⟩ rfl (.cons (.tmp rfl) (.cons (.tmp rfl) .nil)) (by rw [hno]; rfl) (fun w hh => by rw [hno]; exact hh.sublist (by repeat (first | exact List.Sublist.refl _ | refine List.Sublist.cons_cons _ ?_ | refine List.Sublist.cons _ ?_)))) | (have hno : wordsM wd n l = none := (by rw [hwp, if_pos ⟨hpw, hpn⟩]; exact nums_no (List.mem_of_getElem? hq) (by simpa using hc)); refine G.heap (fun w hh => hh.nilRow 3 1) ?_; exact G.retL (.slice none 0 0) ⟨rfl, fun _ => rfl⟩ rfl (.cons (.tmp rfl) (.cons (.tmp rfl) .nil)) (by rw [hno]; rfl) (fun w hh => by rw [hno]; exact hh.sublist (by repeat (first | exact List.Sublist.refl _ | refine List.Sublist.cons_cons _ ?_ | refine List.Sublist.cons _ ?_)))) | (have hyes : wordsM wd n l = some ns := (by rw [hwp, if_pos ⟨hpw, hpn⟩, ← hns, take_all hlt]); (first | refine G.frontR0 v rfl ?_ | refine G.frontR1 v rfl ?_ | refine G.frontR2 v rfl ?_ | refine G.frontR3 v rfl ?_ | refine G.frontR4 v rfl ?_ | refine G.frontR5 v rfl ?_ | refine G.frontR6 v rfl ?_ | refine G.frontR7 v rfl ?_ | refine G.frontR8 v rfl ?_ | refine G.frontR9 v rfl ?_ | refine G.frontR10 v rfl ?_ | refine G.frontR11 v rfl ?_ | refine G.frontR12 v rfl ?_ | refine G.frontR13 v rfl ?_); exact G.retL v ⟨hov, fun e => by rw [hyes] at e; cases e⟩ rfl (.cons (.tmp rfl) (.cons (.tmp rfl) .nil)) (by rw [hyes]; rfl) (fun w hh => by rw [hyes]; exact hh.sublist (by repeat (first | exact List.Sublist.refl _ | refine List.Sublist.cons_cons _ ?_ | refine List.Sublist.cons _ ?_))))
end Go.Proofs.YtnfokjlplbbbeaaGreatDoor

/-
  A carton's line, read both ways.
-/
namespace Go.Proofs.YtnfokjlplbbbeaaGreatDoor
open Go.RowKit Go.Lib
/-- The numbers of a line; none where it is none. -/
def lineN (l : List UInt8) : List Int := (lineM l).getD []
/-- The line's head, and the units behind it. -/
def hdN (l : List UInt8) : List Int := (lineN l).take 6
def unN (l : List UInt8) : List Int := (lineN l).drop 6
/-- The value of a read carton, its units part of a row. -/
def crV (l : List UInt8) (v : Value) : Value := .agg #[.int .i64 (at0 (lineN l) 0), .int .i64 (at0 (lineN l) 1), subV v 1 (hdN l).length ((hdN l ++ unN l).map icell).length]
def crW (l : List UInt8) (v : Value) : Value := .agg #[.int .i64 (at0 (lineN l) 0), .int .i64 (at0 (lineN l) 1), v]
def spV (l : List UInt8) : Value := .agg #[.int .i64 (at0 (lineN l) 2), .int .i64 (at0 (lineN l) 3), .int .i64 (at0 (lineN l) 4), .int .i64 (at0 (lineN l) 5)]
section
variable {P : Program} {n : Nat} {w0 : World} {fr : Fr} {H : List Ch} {x y : Operand} {t t' : TypeId}
theorem rv_lenE {e : TypeId} [hT : TySlice P t e] {v : Value} {s m : Nat} {es : List (List Value)} (hx : opv fr x = some v) (hv : ∀ w, HeapOk w0 w H → Rd w v s es) (hm : es.length = m) :
    RunsV P n w0 fr H (.call ⟨.builtin .len, #[x], #[t]⟩) (.int .i64 (m : Int)) := hm ▸ rv_len hx hv
end
attribute [local irreducible] Go.wpList Go.Code.wp Go.Exit.then Go.Exit.inBlock Go.bodyPost Go.Calls pE pB G RunsV FnV Fn FnM
set_option maxRecDepth 100000
set_option maxHeartbeats 4000000
end Go.Proofs.YtnfokjlplbbbeaaGreatDoor

/-
  A carton's line, read by the reference; the law of lines.
-/
namespace Go.Proofs.YtnfokjlplbbbeaaGreatDoor
open Go.RowKit Go.Lib
/-- What holds of the loop of the reference's Parts, at place i. -/
def PartI (b : UInt8) (l : List UInt8) (x : Nat × Nat × Value × List (List UInt8)) : Prop := (x.1 ≤ l.length + 1 ∧ x.2.2.2.length ≤ x.1) ∧ x.2.2.1.oneCell' = true ∧ (x.1 ≤ l.length → x.2.1 ≤ x.1 ∧ partsM b l = x.2.2.2 ++ partsM b (l.drop x.2.1) ∧ b ∉ (l.drop x.2.1).take (x.1 - x.2.1)) ∧ (l.length < x.1 → x.2.2.2 = partsM b l)
section
variable {b c : UInt8} {l : List UInt8} {i a : Nat} {v va : Value} {out : List (List UInt8)}
end
attribute [local irreducible] Go.wpList Go.Code.wp Go.Exit.then Go.Exit.inBlock Go.bodyPost Go.Calls pE pB G RunsV FnV Fn FnM
set_option maxRecDepth 100000
set_option maxHeartbeats 4000000
end Go.Proofs.YtnfokjlplbbbeaaGreatDoor

/-
  A line put into an order: the program's way.
-/
namespace Go.Proofs.YtnfokjlplbbbeaaGreatDoor
open Go.RowKit Go.Lib
theorem one_of {n : List Int} (h : n.length = 1) : ∃ a, n = [a] := by match n, h with | [a], _ => exact ⟨a, rfl⟩
theorem two_of {n : List Int} (h : n.length = 2) : ∃ a b, n = [a, b] := by match n, h with | [a, b], _ => exact ⟨a, b, rfl⟩
theorem four_of {n : List Int} (h : n.length = 4) : ∃ a b c d, n = [a, b, c, d] := by match n, h with | [a, b, c, d], _ => exact ⟨a, b, c, d, rfl⟩
theorem seven_of {n : List Int} (h : n.length = 7) : ∃ a b c d e f g, n = [a, b, c, d, e, f, g] := by match n, h with | [a, b, c, d, e, f, g], _ => exact ⟨a, b, c, d, e, f, g, rfl⟩
theorem GE.knowP {P : Program} {ops : Array Oper} {Q : Exit → Act → World → Prop} {qs : List Nat} {n : Nat} {w0 : World} {HC : List Ch} {f : Nat} {listed : Array Bool} {fr : Fr} {H : List Ch} {p : Prop} (hp : ∀ w, HeapOk w0 w H → p) (h : p → GE P ops Q qs n w0 HC f listed fr H) : GE P ops Q qs n w0 HC f listed fr H := G.know hp h
attribute [local irreducible] Go.wpList Go.Code.wp Go.Exit.then Go.Exit.inBlock Go.bodyPost Go.Calls pE pB G RunsV FnV Fn FnM
set_option maxRecDepth 100000
set_option maxHeartbeats 4000000
def PutX (w0 : World) (rb : Nat) (r : ReqM) (pv tv iv : Value) (l : List UInt8) : Prop :=
    FnM Tryz.prog 49 [pB rb 0, sv l] w0 [.blk rb 32 (r.cells pv tv iv), .row pv 60 2 (r.pairs.map PairM.cells), .row tv 37 7 (r.types.map TypeM.cells), .row iv 44 7 (r.items.map ItemM.cells)] (fun x : Value × Value × Value => x.1.oneCell' = true ∧ x.2.1.oneCell' = true ∧ x.2.2.oneCell' = true) (fun _ => .int .i64 (putLineM r l).2)
      (fun x => [.blk rb 32 ((putLineM r l).1.cells x.1 x.2.1 x.2.2), .row x.1 60 2 ((putLineM r l).1.pairs.map PairM.cells), .row x.2.1 37 7 ((putLineM r l).1.types.map TypeM.cells), .row x.2.2 44 7 ((putLineM r l).1.items.map ItemM.cells)])
theorem putLine_any {w0 : World} {rb : Nat} {r : ReqM} {pv tv iv : Value} {l : List UInt8} (hl : l.length ≤ 1048576) (hps : r.pairs.length ≤ 1000) (hts : r.types.length ≤ 1000) (his : r.items.length ≤ 1000) (hop : pv.oneCell' = true) (hot : tv.oneCell' = true) (hoi : iv.oneCell' = true) (ht : TabI w0) (hte : TabE w0) : PutX w0 rb r pv tv iv l := by
  obtain ⟨wy, ⟨pw, pd, ph, pg⟩, cl, ps, ts, ms, its⟩ := r
  dsimp only at hps hts his
  have hpsm : (ps.map PairM.cells).length = ps.length := List.length_map ..
  have htsm : (ts.map TypeM.cells).length = ts.length := List.length_map ..
  have hism : (its.map ItemM.cells).length = its.length := List.length_map ..
  refine FnM.of (n := 170) Tryz.func49 rfl rfl (fun F => ?_)
  dsimp only [ReqM.cells]
  refine G.seq (G.region (G.v (rv_assign rfl) rfl (G.done (G.thenN (G.seq (G.seq (G.region (G.v (rv_move rfl) rfl (G.done (G.thenN (G.block ?_))))))))))); refine G.seq (G.region ?_); refine G.v (rv_eqlS rfl rfl) rfl ?_; refine G.v (rv_assign rfl) rfl (G.done (G.thenN ?_)); refine G.cond rfl (fun hc => ?_) (fun hc => ?_)
  · try exact Bool.noConfusion hc
    all_goals
     try replace hc := of_decide_eq_true hc
     try (exfalso; contradiction)
     all_goals
      have h0 : l = wWayF := (by simpa using hc)
      all_goals
       refine G.seq (G.region (G.v (rv_move rfl) rfl (G.v (rv_nilCheckB rfl) rfl (G.v (rv_field rfl) rfl ?_)))); refine G.op0 (og_st0 rfl rfl rfl rfl rfl rfl (.zero (.cons .nil))) (fun _ _ => ?_); refine G.done (G.thenN (G.seq (G.region (G.v (rv_assign rfl) rfl (G.done (G.thenN (G.ret (G.inR (G.thenR ?_)))))))))
       (have hpe : putLineM (⟨wy, ⟨pw, pd, ph, pg⟩, cl, ps, ts, ms, its⟩ : ReqM) l = ((⟨0, ⟨pw, pd, ph, pg⟩, cl, ps, ts, ms, its⟩ : ReqM), 0) := (by rw [putLineM, if_pos h0] <;> rfl); (refine G.frontR3 iv rfl ?_); (refine G.frontR3 tv rfl ?_); (refine G.frontR3 pv rfl ?_); (refine G.frontB3 rb rfl ?_); exact G.retF (pv, tv, iv) ⟨hop, hot, hoi⟩ rfl rfl (by rw [hpe]) (fun w hw => by rw [hpe]; exact hw.sublist (by repeat (exact List.Sublist.refl _))))
  · try exact Bool.noConfusion hc
    all_goals
     try replace hc := of_decide_eq_false hc
     try (exfalso; contradiction)
     all_goals
      have h0 : ¬ l = wWayF := (by simpa using hc)
      all_goals
       refine G.seq (G.region ?_); refine G.v (rv_eqlS rfl rfl) rfl ?_; refine G.v (rv_assign rfl) rfl (G.done (G.thenN ?_)); refine G.cond rfl (fun hc => ?_) (fun hc => ?_)
       · try exact Bool.noConfusion hc
         all_goals
          try replace hc := of_decide_eq_true hc
          try (exfalso; contradiction)
          all_goals
           have h9 : l = wWayN := (by simpa using hc)
           all_goals
            refine G.seq (G.region (G.v (rv_move rfl) rfl (G.v (rv_nilCheckB rfl) rfl (G.v (rv_field rfl) rfl ?_)))); refine G.op0 (og_st0 rfl rfl rfl rfl rfl rfl (.zero (.cons .nil))) (fun _ _ => ?_); refine G.done (G.thenN (G.seq (G.region (G.v (rv_assign rfl) rfl (G.done (G.thenN (G.ret (G.inR (G.thenR ?_)))))))))
            (have hpe : putLineM (⟨wy, ⟨pw, pd, ph, pg⟩, cl, ps, ts, ms, its⟩ : ReqM) l = ((⟨1, ⟨pw, pd, ph, pg⟩, cl, ps, ts, ms, its⟩ : ReqM), 0) := (by rw [putLineM, if_neg h0, if_pos h9] <;> rfl); (refine G.frontR3 iv rfl ?_); (refine G.frontR3 tv rfl ?_); (refine G.frontR3 pv rfl ?_); (refine G.frontB3 rb rfl ?_); exact G.retF (pv, tv, iv) ⟨hop, hot, hoi⟩ rfl rfl (by rw [hpe]) (fun w hw => by rw [hpe]; exact hw.sublist (by repeat (exact List.Sublist.refl _))))
       · try exact Bool.noConfusion hc
         all_goals
          try replace hc := of_decide_eq_false hc
          try (exfalso; contradiction)
          all_goals
           have h9 : ¬ l = wWayN := (by simpa using hc)
           all_goals
            refine G.skip (G.inN (G.thenN (G.seq (G.seq (G.region (G.v (rv_move rfl) rfl ?_))))))
            (refine G.op (og_callF1 rfl rfl (fun w hh => wordsOf_any (wd := wPallet) (n := 4) hl (by omega) w (ht.stays hh) (hte.stays hh))) rfl ?_; rintro v1 ⟨hv1a, hv1b⟩; try dsimp only)
            refine G.v (rv_move rfl) rfl (G.v (rv_extract rfl rfl) rfl (G.v (rv_extract rfl rfl) rfl (G.v (rv_assign rfl) rfl (G.v (rv_assign rfl) rfl (G.done (G.thenN (G.seq (G.region (G.v (rv_move rfl) rfl (G.done (G.thenN ?_))))))))))); refine G.cond rfl (fun hc => ?_) (fun hc => ?_)
            · try exact Bool.noConfusion hc
              all_goals
               try replace hc := of_decide_eq_true hc
               try (exfalso; contradiction)
               all_goals
                obtain ⟨n, hn1⟩ := Option.isSome_iff_exists.1 (by exact hc); obtain ⟨a, b, c, d, rfl⟩ := four_of (words_len hn1); have e0 : ([a, b, c, d].map icell)[0]? = some (icell a) := rfl; have e1 : ([a, b, c, d].map icell)[1]? = some (icell b) := rfl; have e2 : ([a, b, c, d].map icell)[2]? = some (icell c) := rfl; have e3 : ([a, b, c, d].map icell)[3]? = some (icell d) := rfl
                refine G.frontR0 v1 rfl ?_; refine G.rowEq ([a, b, c, d].map icell) (by rw [hn1]; rfl) rfl ?_
                all_goals
                 refine G.seq ?_; refine G.drawL [14, 15, 16] ?_; refine GE.q 0 rfl (by as_aux_lemma => kernel_rfl) rfl (qg_runs (rv_move rfl)) rfl ?_; refine GE.q 1 rfl (by as_aux_lemma => kernel_rfl) rfl (qg_runs (rv_move rfl)) rfl ?_; refine GE.q 2 rfl (by as_aux_lemma => kernel_rfl) rfl (qg_runs (rv_indexH rfl rfl (by exact Rd.owned 0 rfl) rfl (by exact e0))) rfl ?_; refine GE.q 3 rfl (by as_aux_lemma => kernel_rfl) rfl (qg_runs (rv_loadE rfl (by exact Rd.owned 0 rfl) (by exact e0) rfl)) rfl ?_; refine GE.q 4 rfl (by as_aux_lemma => kernel_rfl) rfl (qg_runs (rv_move rfl)) rfl ?_; refine GE.q 5 rfl (by as_aux_lemma => kernel_rfl) rfl (qg_runs (rv_indexH rfl rfl (by exact Rd.owned 0 rfl) rfl (by exact e1))) rfl ?_; refine GE.q 6 rfl (by as_aux_lemma => kernel_rfl) rfl (qg_runs (rv_loadE rfl (by exact Rd.owned 0 rfl) (by exact e1) rfl)) rfl ?_; refine GE.q 7 rfl (by as_aux_lemma => kernel_rfl) rfl (qg_runs (rv_move rfl)) rfl ?_; refine GE.q 8 rfl (by as_aux_lemma => kernel_rfl) rfl (qg_runs (rv_indexH rfl rfl (by exact Rd.owned 0 rfl) rfl (by exact e2))) rfl ?_; refine GE.q 9 rfl (by as_aux_lemma => kernel_rfl) rfl (qg_runs (rv_loadE rfl (by exact Rd.owned 0 rfl) (by exact e2) rfl)) rfl ?_; refine GE.ol 10 (by as_aux_lemma => kernel_rfl) rfl rfl (og_runs (rv_move rfl)) rfl (fun _ _ h => by exact h) (fun _ _ => ?_)
                 refine GE.ol 11 (by as_aux_lemma => kernel_rfl) rfl rfl (og_runs (rv_indexH rfl rfl (by exact Rd.owned 0 rfl) rfl (by exact e3))) rfl (fun _ _ h => by exact h) (fun _ _ => ?_); refine GE.ol 12 (by as_aux_lemma => kernel_rfl) rfl rfl (og_runs (rv_loadE rfl (by exact Rd.owned 0 rfl) (by exact e3) rfl)) rfl (fun _ _ h => by exact h) (fun _ _ => ?_); refine GE.ol 13 (by as_aux_lemma => kernel_rfl) rfl rfl (og_runs (rv_build2 rfl (.cons rfl (.cons rfl (.cons rfl (.cons rfl .nil)))) (.cons rfl rfl (.zero (.cons .nil)) (.cons rfl rfl (.succ (.zero (.cons .nil))) (.cons rfl rfl (.succ (.succ (.zero (.cons .nil)))) (.cons rfl rfl (.succ (.succ (.succ (.zero (.cons .nil))))) .nil)))))) rfl (fun _ _ h => by exact h) (fun _ _ => ?_); refine GE.t 14 (by as_aux_lemma => kernel_rfl) rfl rfl rfl (og_runs (rv_nilCheckB rfl)) rfl (fun _ _ => ?_); refine GE.t 15 (by as_aux_lemma => kernel_rfl) rfl rfl rfl (og_runs (rv_field rfl)) rfl (fun _ _ => ?_); refine GE.t0 16 (by as_aux_lemma => kernel_rfl) rfl rfl rfl (og_st1 rfl rfl rfl rfl rfl rfl (.succ (.zero (.cons (.cons (.cons (.cons .nil))))))) (fun _ _ => ?_); refine GE.done (by as_aux_lemma => kernel_rfl) ?_; refine G.thenN (G.seq (G.region (G.v (rv_assign rfl) rfl (G.done (G.thenN (G.ret (G.thenR ?_)))))))
                 (have hpe : putLineM (⟨wy, ⟨pw, pd, ph, pg⟩, cl, ps, ts, ms, its⟩ : ReqM) l = ((⟨wy, ⟨a, b, c, d⟩, cl, ps, ts, ms, its⟩ : ReqM), 1) := (by rw [putLineM, if_neg h0, if_neg h9, hn1] <;> rfl); (refine G.frontR4 iv rfl ?_); (refine G.frontR4 tv rfl ?_); (refine G.frontR4 pv rfl ?_); (refine G.frontB4 rb rfl ?_); exact G.retF (pv, tv, iv) ⟨hop, hot, hoi⟩ rfl rfl (by rw [hpe]) (fun w hw => by rw [hpe]; exact hw.sublist (by repeat (first | exact List.Sublist.refl _ | refine List.Sublist.cons_cons _ ?_ | refine List.Sublist.cons _ ?_))))
            · try exact Bool.noConfusion hc
              all_goals
               try replace hc := of_decide_eq_false hc
               try (exfalso; contradiction)
               all_goals
                have h1 : wordsM wPallet 4 l = none := (by exact Option.not_isSome_iff_eq_none.1 (by simpa using hc))
                all_goals
                 refine G.skip (G.thenN (G.seq (G.seq (G.region (G.v (rv_move rfl) rfl ?_)))))
                 (refine G.op (og_callF1 rfl rfl (fun w hh => wordsOf_any (wd := wClasses) (n := 1) hl (by omega) w (ht.stays hh) (hte.stays hh))) rfl ?_; rintro v2 ⟨hv2a, hv2b⟩; try dsimp only)
                 refine G.v (rv_move rfl) rfl (G.v (rv_extract rfl rfl) rfl (G.v (rv_extract rfl rfl) rfl (G.v (rv_assign rfl) rfl (G.v (rv_assign rfl) rfl (G.done (G.thenN (G.seq (G.region (G.v (rv_move rfl) rfl (G.done (G.thenN ?_))))))))))); refine G.cond rfl (fun hc => ?_) (fun hc => ?_)
                 · try exact Bool.noConfusion hc
                   all_goals
                    try replace hc := of_decide_eq_true hc
                    try (exfalso; contradiction)
                    all_goals
                     obtain ⟨n, hn2⟩ := Option.isSome_iff_exists.1 (by exact hc); obtain ⟨a, rfl⟩ := one_of (words_len hn2); have e0 : ([a].map icell)[0]? = some (icell a) := rfl
                     refine G.frontR0 v2 rfl ?_; refine G.rowEq ([a].map icell) (by rw [hn2]; rfl) rfl ?_
                     all_goals
                      refine G.seq (G.region (G.v (rv_move rfl) rfl (G.v (rv_move rfl) rfl ?_))); refine G.v (rv_indexH rfl rfl (by exact Rd.owned 0 rfl) rfl (by exact e0)) rfl ?_; refine G.v (rv_loadE rfl (by exact Rd.owned 0 rfl) (by exact e0) rfl) rfl ?_; refine G.v (rv_nilCheckB rfl) rfl (G.v (rv_field rfl) rfl ?_); refine G.op0 (og_st2 rfl rfl rfl rfl rfl rfl (.succ (.succ (.succ (.succ (.succ (.zero (.cons .nil)))))))) (fun _ _ => ?_); refine G.done (G.thenN (G.seq (G.region (G.v (rv_assign rfl) rfl (G.done (G.thenN (G.ret (G.thenR ?_))))))))
                      (have hpe : putLineM (⟨wy, ⟨pw, pd, ph, pg⟩, cl, ps, ts, ms, its⟩ : ReqM) l = ((⟨wy, ⟨pw, pd, ph, pg⟩, a, ps, ts, ms, its⟩ : ReqM), 2) := (by rw [putLineM, if_neg h0, if_neg h9, h1, hn2] <;> rfl); (refine G.frontR5 iv rfl ?_); (refine G.frontR5 tv rfl ?_); (refine G.frontR5 pv rfl ?_); (refine G.frontB5 rb rfl ?_); exact G.retF (pv, tv, iv) ⟨hop, hot, hoi⟩ rfl rfl (by rw [hpe]) (fun w hw => by rw [hpe]; exact hw.sublist (by repeat (first | exact List.Sublist.refl _ | refine List.Sublist.cons_cons _ ?_ | refine List.Sublist.cons _ ?_))))
                 · try exact Bool.noConfusion hc
                   all_goals
                    try replace hc := of_decide_eq_false hc
                    try (exfalso; contradiction)
                    all_goals
                     have h2 : wordsM wClasses 1 l = none := (by exact Option.not_isSome_iff_eq_none.1 (by simpa using hc))
                     all_goals
                      refine G.skip (G.thenN (G.seq (G.seq (G.region (G.v (rv_move rfl) rfl ?_)))))
                      (refine G.op (og_callF1 rfl rfl (fun w hh => wordsOf_any (wd := wWith) (n := 2) hl (by omega) w (ht.stays hh) (hte.stays hh))) rfl ?_; rintro v3 ⟨hv3a, hv3b⟩; try dsimp only)
                      refine G.v (rv_move rfl) rfl (G.v (rv_extract rfl rfl) rfl (G.v (rv_extract rfl rfl) rfl (G.v (rv_assign rfl) rfl (G.v (rv_assign rfl) rfl (G.done (G.thenN (G.seq (G.region (G.v (rv_move rfl) rfl (G.done (G.thenN ?_))))))))))); refine G.cond rfl (fun hc => ?_) (fun hc => ?_)
                      · try exact Bool.noConfusion hc
                        all_goals
                         try replace hc := of_decide_eq_true hc
                         try (exfalso; contradiction)
                         all_goals
                          obtain ⟨n, hn3⟩ := Option.isSome_iff_exists.1 (by exact hc); obtain ⟨a, b, rfl⟩ := two_of (words_len hn3); have e0 : ([a, b].map icell)[0]? = some (icell a) := rfl; have e1 : ([a, b].map icell)[1]? = some (icell b) := rfl
                          refine G.frontR0 v3 rfl ?_; refine G.rowEq ([a, b].map icell) (by rw [hn3]; rfl) rfl ?_
                          all_goals
                           refine G.seq ?_; refine G.frontR4 pv rfl ?_; refine G.drawD1 [14, 15, 16] rfl ?_; refine GE.q2 0 rfl (by as_aux_lemma => kernel_rfl) rfl (qg_runs (rv_move rfl)) (fun _ h => by exact h.drop 1) rfl ?_; refine GE.q2 1 rfl (by as_aux_lemma => kernel_rfl) rfl (qg_runs (rv_move rfl)) (fun _ h => by exact h.drop 1) rfl ?_; refine GE.q2 2 rfl (by as_aux_lemma => kernel_rfl) rfl (qg_runs (rv_nilCheckB rfl)) (fun _ h => by exact h.drop 1) rfl ?_; refine GE.q2 3 rfl (by as_aux_lemma => kernel_rfl) rfl (qg_runs (rv_field rfl)) (fun _ h => by exact h.drop 1) rfl ?_; refine GE.q2 4 rfl (by as_aux_lemma => kernel_rfl) rfl (qg_runs (rv_load1 3 rfl rfl rfl)) (fun _ h => by exact h.drop 1) rfl ?_; refine GE.q2 5 rfl (by as_aux_lemma => kernel_rfl) rfl (qg_runs (rv_move rfl)) (fun _ h => by exact h.drop 1) rfl ?_; refine GE.q2 6 rfl (by as_aux_lemma => kernel_rfl) rfl (qg_runs (rv_indexH rfl rfl (by exact Rd.owned 0 rfl) rfl (by exact e0))) (fun _ h => by exact h.drop 1) rfl ?_; refine GE.q2 7 rfl (by as_aux_lemma => kernel_rfl) rfl (qg_runs (rv_loadE rfl (by exact Rd.owned 0 rfl) (by exact e0) rfl)) (fun _ h => by exact h.drop 1) rfl ?_; refine GE.ol 8 (by as_aux_lemma => kernel_rfl) rfl rfl (og_runs (rv_move rfl)) rfl (fun _ _ h => by exact h.drop 1) (fun _ _ => ?_); refine GE.ol 9 (by as_aux_lemma => kernel_rfl) rfl rfl (og_runs (rv_indexH rfl rfl (by exact Rd.owned 1 rfl) rfl (by exact e1))) rfl (fun _ _ h => by exact h.drop 1) (fun _ _ => ?_)
                           refine GE.ol 10 (by as_aux_lemma => kernel_rfl) rfl rfl (og_runs (rv_loadE rfl (by exact Rd.owned 1 rfl) (by exact e1) rfl)) rfl (fun _ _ h => by exact h.drop 1) (fun _ _ => ?_); refine GE.ol 11 (by as_aux_lemma => kernel_rfl) rfl rfl (og_runs (rv_build2 rfl (.cons rfl (.cons rfl .nil)) (.cons rfl rfl (.zero (.cons .nil)) (.cons rfl rfl (.succ (.zero (.cons .nil))) .nil)))) rfl (fun _ _ h => by exact h.drop 1) (fun _ _ => ?_); refine GE.ol 12 (by as_aux_lemma => kernel_rfl) rfl rfl (og_lit rfl (.cons rfl .nil) rfl rfl rfl rfl rfl rfl) rfl (fun _ _ h => by exact h.drop 2) (fun vl _ => ?_); refine GE.ol 13 (by as_aux_lemma => kernel_rfl) rfl rfl (og_app1 rfl rfl rfl (by exact Rd.owned 0 rfl) rfl rfl (by (simp; omega)) (by (simp; omega))) rfl (fun _ _ h => by exact h.drop 2) (fun vp _ => ?_); refine GE.knowP (fun w hw => by exact (Rd.owned 1 rfl (v := vp) w hw).one_) (fun hovp => ?_); refine GE.t 14 (by as_aux_lemma => kernel_rfl) rfl rfl rfl (og_runs (rv_nilCheckB rfl)) rfl (fun _ _ => ?_); refine GE.t 15 (by as_aux_lemma => kernel_rfl) rfl rfl rfl (og_runs (rv_field rfl)) rfl (fun _ _ => ?_); refine GE.t0 16 (by as_aux_lemma => kernel_rfl) rfl rfl rfl (og_st5 rfl rfl rfl (cells_one (by assumption)) rfl (by repeat (first | rfl | refine one_cons (by assumption) ?_)) (.succ (.succ (.succ (.succ (.succ (.succ (.zero (.cons .nil))))))))) (fun _ _ => ?_); refine GE.done (by as_aux_lemma => kernel_rfl) ?_; refine G.thenN (G.seq ?_)
                           refine G.region (G.v (rv_assign rfl) rfl (G.done (G.thenN (G.ret (G.thenR ?_)))))
                           (have hpe : putLineM (⟨wy, ⟨pw, pd, ph, pg⟩, cl, ps, ts, ms, its⟩ : ReqM) l = ((⟨wy, ⟨pw, pd, ph, pg⟩, cl, ps ++ [⟨a, b⟩], ts, ms, its⟩ : ReqM), 3) := (by rw [putLineM, if_neg h0, if_neg h9, h1, h2, hn3] <;> rfl); (refine G.frontR7 iv rfl ?_); (refine G.frontR7 tv rfl ?_); (refine G.frontR3 vp rfl ?_); refine G.rowEq ((ps ++ [(⟨a, b⟩ : PairM)]).map PairM.cells) (List.map_append (f := PairM.cells) (l₁ := ps) (l₂ := [⟨a, b⟩])).symm rfl ?_; (refine G.frontB7 rb rfl ?_); exact G.retF (vp, tv, iv) ⟨hovp, hot, hoi⟩ rfl rfl (by rw [hpe]) (fun w hw => by rw [hpe]; exact hw.sublist (by repeat (first | exact List.Sublist.refl _ | refine List.Sublist.cons_cons _ ?_ | refine List.Sublist.cons _ ?_))))
                      · try exact Bool.noConfusion hc
                        all_goals
                         try replace hc := of_decide_eq_false hc
                         try (exfalso; contradiction)
                         all_goals
                          have h3 : wordsM wWith 2 l = none := (by exact Option.not_isSome_iff_eq_none.1 (by simpa using hc))
                          all_goals
                           refine G.skip (G.thenN (G.seq (G.seq (G.region (G.v (rv_move rfl) rfl ?_)))))
                           (refine G.op (og_callF1 rfl rfl (fun w hh => wordsOf_any (wd := wType) (n := 7) hl (by omega) w (ht.stays hh) (hte.stays hh))) rfl ?_; rintro v4 ⟨hv4a, hv4b⟩; try dsimp only)
                           refine G.v (rv_move rfl) rfl (G.v (rv_extract rfl rfl) rfl (G.v (rv_extract rfl rfl) rfl (G.v (rv_assign rfl) rfl (G.v (rv_assign rfl) rfl (G.done (G.thenN (G.seq (G.region (G.v (rv_move rfl) rfl (G.done (G.thenN ?_))))))))))); refine G.cond rfl (fun hc => ?_) (fun hc => ?_)
                           · try exact Bool.noConfusion hc
                             all_goals
                              try replace hc := of_decide_eq_true hc
                              try (exfalso; contradiction)
                              all_goals
                               obtain ⟨n, hn4⟩ := Option.isSome_iff_exists.1 (by exact hc); obtain ⟨a, b, c, d, e, f, g, rfl⟩ := seven_of (words_len hn4); have e0 : ([a, b, c, d, e, f, g].map icell)[0]? = some (icell a) := rfl; have e1 : ([a, b, c, d, e, f, g].map icell)[1]? = some (icell b) := rfl; have e2 : ([a, b, c, d, e, f, g].map icell)[2]? = some (icell c) := rfl; have e3 : ([a, b, c, d, e, f, g].map icell)[3]? = some (icell d) := rfl; have e4 : ([a, b, c, d, e, f, g].map icell)[4]? = some (icell e) := rfl; have e5 : ([a, b, c, d, e, f, g].map icell)[5]? = some (icell f) := rfl; have e6 : ([a, b, c, d, e, f, g].map icell)[6]? = some (icell g) := rfl
                               refine G.frontR0 v4 rfl ?_; refine G.rowEq ([a, b, c, d, e, f, g].map icell) (by rw [hn4]; rfl) rfl ?_
                               all_goals
                                refine G.seq ?_; refine G.frontR6 tv rfl ?_; refine G.drawD1 [29, 30, 31] rfl ?_; refine GE.q2 0 rfl (by as_aux_lemma => kernel_rfl) rfl (qg_runs (rv_move rfl)) (fun _ h => by exact h.drop 1) rfl ?_; refine GE.q2 1 rfl (by as_aux_lemma => kernel_rfl) rfl (qg_runs (rv_move rfl)) (fun _ h => by exact h.drop 1) rfl ?_; refine GE.q2 2 rfl (by as_aux_lemma => kernel_rfl) rfl (qg_runs (rv_nilCheckB rfl)) (fun _ h => by exact h.drop 1) rfl ?_; refine GE.q2 3 rfl (by as_aux_lemma => kernel_rfl) rfl (qg_runs (rv_field rfl)) (fun _ h => by exact h.drop 1) rfl ?_; refine GE.q2 4 rfl (by as_aux_lemma => kernel_rfl) rfl (qg_runs (rv_load1 4 rfl rfl rfl)) (fun _ h => by exact h.drop 1) rfl ?_; refine GE.q2 5 rfl (by as_aux_lemma => kernel_rfl) rfl (qg_runs (rv_move rfl)) (fun _ h => by exact h.drop 1) rfl ?_; refine GE.q2 6 rfl (by as_aux_lemma => kernel_rfl) rfl (qg_runs (rv_indexH rfl rfl (by exact Rd.owned 0 rfl) rfl (by exact e0))) (fun _ h => by exact h.drop 1) rfl ?_; refine GE.q2 7 rfl (by as_aux_lemma => kernel_rfl) rfl (qg_runs (rv_loadE rfl (by exact Rd.owned 0 rfl) (by exact e0) rfl)) (fun _ h => by exact h.drop 1) rfl ?_; refine GE.q2 8 rfl (by as_aux_lemma => kernel_rfl) rfl (qg_runs (rv_move rfl)) (fun _ h => by exact h.drop 1) rfl ?_; refine GE.q2 9 rfl (by as_aux_lemma => kernel_rfl) rfl (qg_runs (rv_indexH rfl rfl (by exact Rd.owned 0 rfl) rfl (by exact e1))) (fun _ h => by exact h.drop 1) rfl ?_
                                refine GE.q2 10 rfl (by as_aux_lemma => kernel_rfl) rfl (qg_runs (rv_loadE rfl (by exact Rd.owned 0 rfl) (by exact e1) rfl)) (fun _ h => by exact h.drop 1) rfl ?_; refine GE.q2 11 rfl (by as_aux_lemma => kernel_rfl) rfl (qg_runs (rv_move rfl)) (fun _ h => by exact h.drop 1) rfl ?_; refine GE.q2 12 rfl (by as_aux_lemma => kernel_rfl) rfl (qg_runs (rv_indexH rfl rfl (by exact Rd.owned 0 rfl) rfl (by exact e2))) (fun _ h => by exact h.drop 1) rfl ?_; refine GE.q2 13 rfl (by as_aux_lemma => kernel_rfl) rfl (qg_runs (rv_loadE rfl (by exact Rd.owned 0 rfl) (by exact e2) rfl)) (fun _ h => by exact h.drop 1) rfl ?_; refine GE.q2 14 rfl (by as_aux_lemma => kernel_rfl) rfl (qg_runs (rv_move rfl)) (fun _ h => by exact h.drop 1) rfl ?_; refine GE.q2 15 rfl (by as_aux_lemma => kernel_rfl) rfl (qg_runs (rv_indexH rfl rfl (by exact Rd.owned 0 rfl) rfl (by exact e3))) (fun _ h => by exact h.drop 1) rfl ?_; refine GE.q2 16 rfl (by as_aux_lemma => kernel_rfl) rfl (qg_runs (rv_loadE rfl (by exact Rd.owned 0 rfl) (by exact e3) rfl)) (fun _ h => by exact h.drop 1) rfl ?_; refine GE.q2 17 rfl (by as_aux_lemma => kernel_rfl) rfl (qg_runs (rv_move rfl)) (fun _ h => by exact h.drop 1) rfl ?_; refine GE.q2 18 rfl (by as_aux_lemma => kernel_rfl) rfl (qg_runs (rv_indexH rfl rfl (by exact Rd.owned 0 rfl) rfl (by exact e4))) (fun _ h => by exact h.drop 1) rfl ?_
                                refine GE.q2 19 rfl (by as_aux_lemma => kernel_rfl) rfl (qg_runs (rv_loadE rfl (by exact Rd.owned 0 rfl) (by exact e4) rfl)) (fun _ h => by exact h.drop 1) rfl ?_; refine GE.q2 20 rfl (by as_aux_lemma => kernel_rfl) rfl (qg_runs (rv_move rfl)) (fun _ h => by exact h.drop 1) rfl ?_; refine GE.q2 21 rfl (by as_aux_lemma => kernel_rfl) rfl (qg_runs (rv_indexH rfl rfl (by exact Rd.owned 0 rfl) rfl (by exact e5))) (fun _ h => by exact h.drop 1) rfl ?_; refine GE.q2 22 rfl (by as_aux_lemma => kernel_rfl) rfl (qg_runs (rv_loadE rfl (by exact Rd.owned 0 rfl) (by exact e5) rfl)) (fun _ h => by exact h.drop 1) rfl ?_; refine GE.ol 23 (by as_aux_lemma => kernel_rfl) rfl rfl (og_runs (rv_move rfl)) rfl (fun _ _ h => by exact h.drop 1) (fun _ _ => ?_); refine GE.ol 24 (by as_aux_lemma => kernel_rfl) rfl rfl (og_runs (rv_indexH rfl rfl (by exact Rd.owned 1 rfl) rfl (by exact e6))) rfl (fun _ _ h => by exact h.drop 1) (fun _ _ => ?_); refine GE.ol 25 (by as_aux_lemma => kernel_rfl) rfl rfl (og_runs (rv_loadE rfl (by exact Rd.owned 1 rfl) (by exact e6) rfl)) rfl (fun _ _ h => by exact h.drop 1) (fun _ _ => ?_)
                                refine GE.ol 26 (by as_aux_lemma => kernel_rfl) rfl rfl (og_runs (rv_build2 rfl (.cons rfl (.cons rfl (.cons rfl (.cons rfl (.cons rfl (.cons rfl (.cons rfl .nil))))))) (.cons rfl rfl (.zero (.cons .nil)) (.cons rfl rfl (.succ (.zero (.cons .nil))) (.cons rfl rfl (.succ (.succ (.zero (.cons .nil)))) (.cons rfl rfl (.succ (.succ (.succ (.zero (.cons .nil))))) (.cons rfl rfl (.succ (.succ (.succ (.succ (.zero (.cons .nil)))))) (.cons rfl rfl (.succ (.succ (.succ (.succ (.succ (.zero (.cons .nil))))))) (.cons rfl rfl (.succ (.succ (.succ (.succ (.succ (.succ (.zero (.cons .nil)))))))) .nil))))))))) rfl (fun _ _ h => by exact h.drop 1) (fun _ _ => ?_); refine GE.ol 27 (by as_aux_lemma => kernel_rfl) rfl rfl (og_lit rfl (.cons rfl .nil) rfl rfl rfl rfl rfl rfl) rfl (fun _ _ h => by exact h.drop 2) (fun vl _ => ?_); refine GE.ol 28 (by as_aux_lemma => kernel_rfl) rfl rfl (og_app1 rfl rfl rfl (by exact Rd.owned 0 rfl) rfl rfl (by (simp; omega)) (by (simp; omega))) rfl (fun _ _ h => by exact h.drop 2) (fun vt _ => ?_); refine GE.knowP (fun w hw => by exact (Rd.owned 1 rfl (v := vt) w hw).one_) (fun hovt => ?_); refine GE.t 29 (by as_aux_lemma => kernel_rfl) rfl rfl rfl (og_runs (rv_nilCheckB rfl)) rfl (fun _ _ => ?_); refine GE.t 30 (by as_aux_lemma => kernel_rfl) rfl rfl rfl (og_runs (rv_field rfl)) rfl (fun _ _ => ?_)
                                refine GE.t0 31 (by as_aux_lemma => kernel_rfl) rfl rfl rfl (og_st6 rfl rfl rfl (cells_one (by assumption)) rfl (by repeat (first | rfl | refine one_cons (by assumption) ?_)) (.succ (.succ (.succ (.succ (.succ (.succ (.succ (.zero (.cons .nil)))))))))) (fun _ _ => ?_); refine GE.done (by as_aux_lemma => kernel_rfl) ?_; refine G.thenN (G.seq (G.region (G.v (rv_assign rfl) rfl (G.done (G.thenN (G.ret (G.thenR ?_)))))))
                                (have hpe : putLineM (⟨wy, ⟨pw, pd, ph, pg⟩, cl, ps, ts, ms, its⟩ : ReqM) l = ((⟨wy, ⟨pw, pd, ph, pg⟩, cl, ps, ts ++ [⟨a, b, c, d, e, f, g⟩], ms, its⟩ : ReqM), 4) := (by rw [putLineM, if_neg h0, if_neg h9, h1, h2, h3, hn4] <;> rfl); (refine G.frontR8 iv rfl ?_); (refine G.frontR2 vt rfl ?_); refine G.rowEq ((ts ++ [(⟨a, b, c, d, e, f, g⟩ : TypeM)]).map TypeM.cells) (List.map_append (f := TypeM.cells) (l₁ := ts) (l₂ := [⟨a, b, c, d, e, f, g⟩])).symm rfl ?_; (refine G.frontR8 pv rfl ?_); (refine G.frontB8 rb rfl ?_); exact G.retF (pv, vt, iv) ⟨hop, hovt, hoi⟩ rfl rfl (by rw [hpe]) (fun w hw => by rw [hpe]; exact hw.sublist (by repeat (first | exact List.Sublist.refl _ | refine List.Sublist.cons_cons _ ?_ | refine List.Sublist.cons _ ?_))))
                           · try exact Bool.noConfusion hc
                             all_goals
                              try replace hc := of_decide_eq_false hc
                              try (exfalso; contradiction)
                              all_goals
                               have h4 : wordsM wType 7 l = none := (by exact Option.not_isSome_iff_eq_none.1 (by simpa using hc))
                               all_goals
                                refine G.skip (G.thenN (G.seq (G.seq (G.region (G.v (rv_move rfl) rfl ?_)))))
                                (refine G.op (og_callF1 rfl rfl (fun w hh => wordsOf_any (wd := wMaster) (n := 1) hl (by omega) w (ht.stays hh) (hte.stays hh))) rfl ?_; rintro v5 ⟨hv5a, hv5b⟩; try dsimp only)
                                refine G.v (rv_move rfl) rfl (G.v (rv_extract rfl rfl) rfl (G.v (rv_extract rfl rfl) rfl (G.v (rv_assign rfl) rfl (G.v (rv_assign rfl) rfl (G.done (G.thenN (G.seq (G.region (G.v (rv_move rfl) rfl (G.done (G.thenN ?_))))))))))); refine G.cond rfl (fun hc => ?_) (fun hc => ?_)
                                · try exact Bool.noConfusion hc
                                  all_goals
                                   try replace hc := of_decide_eq_true hc
                                   try (exfalso; contradiction)
                                   all_goals
                                    obtain ⟨n, hn5⟩ := Option.isSome_iff_exists.1 (by exact hc); obtain ⟨a, rfl⟩ := one_of (words_len hn5); have e0 : ([a].map icell)[0]? = some (icell a) := rfl
                                    refine G.frontR0 v5 rfl ?_; refine G.rowEq ([a].map icell) (by rw [hn5]; rfl) rfl ?_
                                    all_goals
                                     refine G.seq (G.region (G.v (rv_move rfl) rfl (G.v (rv_move rfl) rfl ?_))); refine G.v (rv_indexH rfl rfl (by exact Rd.owned 0 rfl) rfl (by exact e0)) rfl ?_; refine G.v (rv_loadE rfl (by exact Rd.owned 0 rfl) (by exact e0) rfl) rfl ?_; refine G.v (rv_nilCheckB rfl) rfl (G.v (rv_field rfl) rfl ?_); refine G.op0 (og_st5 rfl rfl rfl rfl rfl rfl (.succ (.succ (.succ (.succ (.succ (.succ (.succ (.succ (.zero (.cons .nil))))))))))) (fun _ _ => ?_); refine G.done (G.thenN (G.seq (G.region (G.v (rv_assign rfl) rfl (G.done (G.thenN (G.ret (G.thenR ?_))))))))
                                     (have hpe : putLineM (⟨wy, ⟨pw, pd, ph, pg⟩, cl, ps, ts, ms, its⟩ : ReqM) l = ((⟨wy, ⟨pw, pd, ph, pg⟩, cl, ps, ts, a, its⟩ : ReqM), 5) := (by rw [putLineM, if_neg h0, if_neg h9, h1, h2, h3, h4, hn5] <;> rfl); (refine G.frontR8 iv rfl ?_); (refine G.frontR8 tv rfl ?_); (refine G.frontR8 pv rfl ?_); (refine G.frontB8 rb rfl ?_); exact G.retF (pv, tv, iv) ⟨hop, hot, hoi⟩ rfl rfl (by rw [hpe]) (fun w hw => by rw [hpe]; exact hw.sublist (by repeat (first | exact List.Sublist.refl _ | refine List.Sublist.cons_cons _ ?_ | refine List.Sublist.cons _ ?_))))
                                · try exact Bool.noConfusion hc
                                  all_goals
                                   try replace hc := of_decide_eq_false hc
                                   try (exfalso; contradiction)
                                   all_goals
                                    have h5 : wordsM wMaster 1 l = none := (by exact Option.not_isSome_iff_eq_none.1 (by simpa using hc))
                                    all_goals
                                     refine G.skip (G.thenN (G.seq (G.seq (G.region (G.v (rv_move rfl) rfl ?_)))))
                                     (refine G.op (og_callF1 rfl rfl (fun w hh => wordsOf_any (wd := wItem) (n := 7) hl (by omega) w (ht.stays hh) (hte.stays hh))) rfl ?_; rintro v6 ⟨hv6a, hv6b⟩; try dsimp only)
                                     refine G.v (rv_move rfl) rfl (G.v (rv_extract rfl rfl) rfl (G.v (rv_extract rfl rfl) rfl (G.v (rv_assign rfl) rfl (G.v (rv_assign rfl) rfl (G.done (G.thenN (G.seq (G.region (G.v (rv_move rfl) rfl (G.done (G.thenN ?_))))))))))); refine G.cond rfl (fun hc => ?_) (fun hc => ?_)
                                     · try exact Bool.noConfusion hc
                                       all_goals
                                        try replace hc := of_decide_eq_true hc
                                        try (exfalso; contradiction)
                                        all_goals
                                         obtain ⟨n, hn6⟩ := Option.isSome_iff_exists.1 (by exact hc); obtain ⟨a, b, c, d, e, f, g, rfl⟩ := seven_of (words_len hn6); have e0 : ([a, b, c, d, e, f, g].map icell)[0]? = some (icell a) := rfl; have e1 : ([a, b, c, d, e, f, g].map icell)[1]? = some (icell b) := rfl; have e2 : ([a, b, c, d, e, f, g].map icell)[2]? = some (icell c) := rfl; have e3 : ([a, b, c, d, e, f, g].map icell)[3]? = some (icell d) := rfl; have e4 : ([a, b, c, d, e, f, g].map icell)[4]? = some (icell e) := rfl; have e5 : ([a, b, c, d, e, f, g].map icell)[5]? = some (icell f) := rfl; have e6 : ([a, b, c, d, e, f, g].map icell)[6]? = some (icell g) := rfl
                                         refine G.frontR0 v6 rfl ?_; refine G.rowEq ([a, b, c, d, e, f, g].map icell) (by rw [hn6]; rfl) rfl ?_
                                         all_goals
                                          refine G.seq ?_; refine G.frontR9 iv rfl ?_; refine G.drawD1 [29, 30, 31] rfl ?_; refine GE.q2 0 rfl (by as_aux_lemma => kernel_rfl) rfl (qg_runs (rv_move rfl)) (fun _ h => by exact h.drop 1) rfl ?_; refine GE.q2 1 rfl (by as_aux_lemma => kernel_rfl) rfl (qg_runs (rv_move rfl)) (fun _ h => by exact h.drop 1) rfl ?_; refine GE.q2 2 rfl (by as_aux_lemma => kernel_rfl) rfl (qg_runs (rv_nilCheckB rfl)) (fun _ h => by exact h.drop 1) rfl ?_; refine GE.q2 3 rfl (by as_aux_lemma => kernel_rfl) rfl (qg_runs (rv_field rfl)) (fun _ h => by exact h.drop 1) rfl ?_; refine GE.q2 4 rfl (by as_aux_lemma => kernel_rfl) rfl (qg_runs (rv_load1 6 rfl rfl rfl)) (fun _ h => by exact h.drop 1) rfl ?_; refine GE.q2 5 rfl (by as_aux_lemma => kernel_rfl) rfl (qg_runs (rv_move rfl)) (fun _ h => by exact h.drop 1) rfl ?_; refine GE.q2 6 rfl (by as_aux_lemma => kernel_rfl) rfl (qg_runs (rv_indexH rfl rfl (by exact Rd.owned 0 rfl) rfl (by exact e0))) (fun _ h => by exact h.drop 1) rfl ?_; refine GE.q2 7 rfl (by as_aux_lemma => kernel_rfl) rfl (qg_runs (rv_loadE rfl (by exact Rd.owned 0 rfl) (by exact e0) rfl)) (fun _ h => by exact h.drop 1) rfl ?_; refine GE.q2 8 rfl (by as_aux_lemma => kernel_rfl) rfl (qg_runs (rv_move rfl)) (fun _ h => by exact h.drop 1) rfl ?_; refine GE.q2 9 rfl (by as_aux_lemma => kernel_rfl) rfl (qg_runs (rv_indexH rfl rfl (by exact Rd.owned 0 rfl) rfl (by exact e1))) (fun _ h => by exact h.drop 1) rfl ?_
                                          refine GE.q2 10 rfl (by as_aux_lemma => kernel_rfl) rfl (qg_runs (rv_loadE rfl (by exact Rd.owned 0 rfl) (by exact e1) rfl)) (fun _ h => by exact h.drop 1) rfl ?_; refine GE.q2 11 rfl (by as_aux_lemma => kernel_rfl) rfl (qg_runs (rv_move rfl)) (fun _ h => by exact h.drop 1) rfl ?_; refine GE.q2 12 rfl (by as_aux_lemma => kernel_rfl) rfl (qg_runs (rv_indexH rfl rfl (by exact Rd.owned 0 rfl) rfl (by exact e2))) (fun _ h => by exact h.drop 1) rfl ?_; refine GE.q2 13 rfl (by as_aux_lemma => kernel_rfl) rfl (qg_runs (rv_loadE rfl (by exact Rd.owned 0 rfl) (by exact e2) rfl)) (fun _ h => by exact h.drop 1) rfl ?_; refine GE.q2 14 rfl (by as_aux_lemma => kernel_rfl) rfl (qg_runs (rv_move rfl)) (fun _ h => by exact h.drop 1) rfl ?_; refine GE.q2 15 rfl (by as_aux_lemma => kernel_rfl) rfl (qg_runs (rv_indexH rfl rfl (by exact Rd.owned 0 rfl) rfl (by exact e3))) (fun _ h => by exact h.drop 1) rfl ?_; refine GE.q2 16 rfl (by as_aux_lemma => kernel_rfl) rfl (qg_runs (rv_loadE rfl (by exact Rd.owned 0 rfl) (by exact e3) rfl)) (fun _ h => by exact h.drop 1) rfl ?_; refine GE.q2 17 rfl (by as_aux_lemma => kernel_rfl) rfl (qg_runs (rv_move rfl)) (fun _ h => by exact h.drop 1) rfl ?_; refine GE.q2 18 rfl (by as_aux_lemma => kernel_rfl) rfl (qg_runs (rv_indexH rfl rfl (by exact Rd.owned 0 rfl) rfl (by exact e4))) (fun _ h => by exact h.drop 1) rfl ?_
                                          refine GE.q2 19 rfl (by as_aux_lemma => kernel_rfl) rfl (qg_runs (rv_loadE rfl (by exact Rd.owned 0 rfl) (by exact e4) rfl)) (fun _ h => by exact h.drop 1) rfl ?_; refine GE.q2 20 rfl (by as_aux_lemma => kernel_rfl) rfl (qg_runs (rv_move rfl)) (fun _ h => by exact h.drop 1) rfl ?_; refine GE.q2 21 rfl (by as_aux_lemma => kernel_rfl) rfl (qg_runs (rv_indexH rfl rfl (by exact Rd.owned 0 rfl) rfl (by exact e5))) (fun _ h => by exact h.drop 1) rfl ?_; refine GE.q2 22 rfl (by as_aux_lemma => kernel_rfl) rfl (qg_runs (rv_loadE rfl (by exact Rd.owned 0 rfl) (by exact e5) rfl)) (fun _ h => by exact h.drop 1) rfl ?_; refine GE.ol 23 (by as_aux_lemma => kernel_rfl) rfl rfl (og_runs (rv_move rfl)) rfl (fun _ _ h => by exact h.drop 1) (fun _ _ => ?_); refine GE.ol 24 (by as_aux_lemma => kernel_rfl) rfl rfl (og_runs (rv_indexH rfl rfl (by exact Rd.owned 1 rfl) rfl (by exact e6))) rfl (fun _ _ h => by exact h.drop 1) (fun _ _ => ?_); refine GE.ol 25 (by as_aux_lemma => kernel_rfl) rfl rfl (og_runs (rv_loadE rfl (by exact Rd.owned 1 rfl) (by exact e6) rfl)) rfl (fun _ _ h => by exact h.drop 1) (fun _ _ => ?_)
                                          refine GE.ol 26 (by as_aux_lemma => kernel_rfl) rfl rfl (og_runs (rv_build2 rfl (.cons rfl (.cons rfl (.cons rfl (.cons rfl (.cons rfl (.cons rfl (.cons rfl .nil))))))) (.cons rfl rfl (.zero (.cons .nil)) (.cons rfl rfl (.succ (.zero (.cons .nil))) (.cons rfl rfl (.succ (.succ (.zero (.cons .nil)))) (.cons rfl rfl (.succ (.succ (.succ (.zero (.cons .nil))))) (.cons rfl rfl (.succ (.succ (.succ (.succ (.zero (.cons .nil)))))) (.cons rfl rfl (.succ (.succ (.succ (.succ (.succ (.zero (.cons .nil))))))) (.cons rfl rfl (.succ (.succ (.succ (.succ (.succ (.succ (.zero (.cons .nil)))))))) .nil))))))))) rfl (fun _ _ h => by exact h.drop 1) (fun _ _ => ?_); refine GE.ol 27 (by as_aux_lemma => kernel_rfl) rfl rfl (og_lit rfl (.cons rfl .nil) rfl rfl rfl rfl rfl rfl) rfl (fun _ _ h => by exact h.drop 2) (fun vl _ => ?_); refine GE.ol 28 (by as_aux_lemma => kernel_rfl) rfl rfl (og_app1 rfl rfl rfl (by exact Rd.owned 0 rfl) rfl rfl (by (simp; omega)) (by (simp; omega))) rfl (fun _ _ h => by exact h.drop 2) (fun vi _ => ?_); refine GE.knowP (fun w hw => by exact (Rd.owned 1 rfl (v := vi) w hw).one_) (fun hovi => ?_); refine GE.t 29 (by as_aux_lemma => kernel_rfl) rfl rfl rfl (og_runs (rv_nilCheckB rfl)) rfl (fun _ _ => ?_); refine GE.t 30 (by as_aux_lemma => kernel_rfl) rfl rfl rfl (og_runs (rv_field rfl)) rfl (fun _ _ => ?_)
                                          refine GE.t0 31 (by as_aux_lemma => kernel_rfl) rfl rfl rfl (og_st8 rfl rfl rfl (cells_one (by assumption)) rfl (by repeat (first | rfl | refine one_cons (by assumption) ?_)) (.succ (.succ (.succ (.succ (.succ (.succ (.succ (.succ (.succ (.zero (.cons .nil)))))))))))) (fun _ _ => ?_); refine GE.done (by as_aux_lemma => kernel_rfl) ?_; refine G.thenN (G.seq (G.region (G.v (rv_assign rfl) rfl (G.done (G.thenN (G.ret (G.thenR ?_)))))))
                                          (have hpe : putLineM (⟨wy, ⟨pw, pd, ph, pg⟩, cl, ps, ts, ms, its⟩ : ReqM) l = ((⟨wy, ⟨pw, pd, ph, pg⟩, cl, ps, ts, ms, its ++ [⟨a, b, c, d, e, f, g⟩]⟩ : ReqM), 6) := (by rw [putLineM, if_neg h0, if_neg h9, h1, h2, h3, h4, h5, hn6] <;> rfl); (refine G.frontR1 vi rfl ?_); refine G.rowEq ((its ++ [(⟨a, b, c, d, e, f, g⟩ : ItemM)]).map ItemM.cells) (List.map_append (f := ItemM.cells) (l₁ := its) (l₂ := [⟨a, b, c, d, e, f, g⟩])).symm rfl ?_; (refine G.frontR10 tv rfl ?_); (refine G.frontR10 pv rfl ?_); (refine G.frontB10 rb rfl ?_); exact G.retF (pv, tv, vi) ⟨hop, hot, hovi⟩ rfl rfl (by rw [hpe]) (fun w hw => by rw [hpe]; exact hw.sublist (by repeat (first | exact List.Sublist.refl _ | refine List.Sublist.cons_cons _ ?_ | refine List.Sublist.cons _ ?_))))
                                     · try exact Bool.noConfusion hc
                                       all_goals
                                        try replace hc := of_decide_eq_false hc
                                        try (exfalso; contradiction)
                                        all_goals
                                         have h6 : wordsM wItem 7 l = none := (by exact Option.not_isSome_iff_eq_none.1 (by simpa using hc))
                                         all_goals
                                          refine G.skip (G.thenN (G.seq (G.region (G.v (rv_assign rfl) rfl (G.done (G.thenN (G.ret ?_)))))))
                                          (have hpe : putLineM (⟨wy, ⟨pw, pd, ph, pg⟩, cl, ps, ts, ms, its⟩ : ReqM) l = ((⟨wy, ⟨pw, pd, ph, pg⟩, cl, ps, ts, ms, its⟩ : ReqM), -1) := (by rw [putLineM, if_neg h0, if_neg h9, h1, h2, h3, h4, h5, h6] <;> rfl); (refine G.frontR9 iv rfl ?_); (refine G.frontR9 tv rfl ?_); (refine G.frontR9 pv rfl ?_); (refine G.frontB9 rb rfl ?_); exact G.retF (pv, tv, iv) ⟨hop, hot, hoi⟩ rfl rfl (by rw [hpe]) (fun w hw => by rw [hpe]; exact hw.sublist (by repeat (first | exact List.Sublist.refl _ | refine List.Sublist.cons_cons _ ?_ | refine List.Sublist.cons _ ?_))))
end Go.Proofs.YtnfokjlplbbbeaaGreatDoor

/-
  An order read, and what is wrong with it: the program's way.
-/
namespace Go.Proofs.YtnfokjlplbbbeaaGreatDoor
open Go.RowKit Go.Lib
/-- What holds of the loop's state, at line k of ls. -/
def OrdI (ls : List (List UInt8)) (x : Nat × Int × ReqM × Value × Value × Value) : Prop :=
  (x.1 ≤ ls.length ∧ -1 ≤ x.2.1 ∧ x.2.1 ≤ 6) ∧ (x.2.2.1.pairs.length ≤ x.1 ∧ x.2.2.1.types.length ≤ x.1 ∧ x.2.2.1.items.length ≤ x.1) ∧ runM x.2.2.1 x.2.1 (ls.drop x.1) = runM reqZ (-1) ls ∧ x.2.2.2.1.oneCell' = true ∧ x.2.2.2.2.1.oneCell' = true ∧ x.2.2.2.2.2.oneCell' = true
theorem OrdI.zero (ls : List (List UInt8)) : OrdI ls (0, -1, reqZ, .slice none 0 0, .slice none 0 0, .slice none 0 0) := ⟨⟨Nat.zero_le _, by decide, by decide⟩, ⟨Nat.le_refl _, Nat.le_refl _, Nat.le_refl _⟩, rfl, rfl, rfl, rfl⟩
theorem put_in (r : ReqM) (l : List UInt8) : (-1 ≤ (putLineM r l).2 ∧ (putLineM r l).2 ≤ 6) ∧ (putLineM r l).1.pairs.length ≤ r.pairs.length + 1 ∧ (putLineM r l).1.types.length ≤ r.types.length + 1 ∧ (putLineM r l).1.items.length ≤ r.items.length + 1 := by
  have hi := line_is r l
  generalize (putLineM r l).1 = r' at hi
  generalize (putLineM r l).2 = k at hi
  cases hi <;> refine ⟨by decide, ?_, ?_, ?_⟩ <;> simp [putPallet, putClasses, putWith, putType, putMaster, putItem]
theorem OrdI.next {ls : List (List UInt8)} {k : Nat} {last : Int} {r : ReqM} {pv tv iv pv2 tv2 iv2 : Value} {q : List UInt8} (h : OrdI ls (k, last, r, pv, tv, iv)) (hq : ls[k]? = some q) (hm : mayM last (putLineM r q).2 = true) (h1 : pv2.oneCell' = true) (h2 : tv2.oneCell' = true) (h3 : iv2.oneCell' = true) :
    OrdI ls (k + 1, (putLineM r q).2, (putLineM r q).1, pv2, tv2, iv2) := by
  obtain ⟨⟨g1, g2, g3⟩, ⟨g4, g5, g6⟩, g7, _⟩ := h
  obtain ⟨⟨p1, p2⟩, p3, p4, p5⟩ := put_in r q
  have hk : k < ls.length := (List.getElem?_eq_some_iff.1 hq).1
  have hd : ls.drop k = q :: ls.drop (k + 1) := by rw [List.drop_eq_getElem_cons hk, (List.getElem?_eq_some_iff.1 hq).2]
  dsimp only at g1 g2 g3 g4 g5 g6 g7
  refine ⟨⟨by dsimp only; omega, p1, p2⟩, ⟨by dsimp only; omega, by dsimp only; omega, by dsimp only; omega⟩, ?_, h1, h2, h3⟩
  rw [hd, runM, if_pos hm] at g7
  exact g7
theorem OrdI.bad {ls : List (List UInt8)} {k : Nat} {last : Int} {r : ReqM} {pv tv iv : Value} {q : List UInt8} (h : OrdI ls (k, last, r, pv, tv, iv)) (hq : ls[k]? = some q) (hm : mayM last (putLineM r q).2 = false) : runM reqZ (-1) ls = none := by
  obtain ⟨_, _, g7, _⟩ := h
  have hk : k < ls.length := (List.getElem?_eq_some_iff.1 hq).1
  have hd : ls.drop k = q :: ls.drop (k + 1) := by rw [List.drop_eq_getElem_cons hk, (List.getElem?_eq_some_iff.1 hq).2]
  dsimp only at g7
  rw [← g7, hd, runM, if_neg (by rw [hm]; decide)]
theorem OrdI.end {ls : List (List UInt8)} {k : Nat} {last : Int} {r : ReqM} {pv tv iv : Value} (h : OrdI ls (k, last, r, pv, tv, iv)) (hk : ¬ k < ls.length) : runM reqZ (-1) ls = if last < 5 then none else some r := by
  obtain ⟨_, _, g7, _⟩ := h
  dsimp only at g7
  rw [← g7, List.drop_eq_nil_of_le (by omega), runM]
/-- What is known of an order that was read. -/
def OrdR (l : List UInt8) (x : (ReqM × Value × Value × Value) × Int) : Prop :=
  (x.1.2.1.oneCell' = true ∧ x.1.2.2.1.oneCell' = true ∧ x.1.2.2.2.oneCell' = true) ∧ ((readM l = none ∧ 0 ≤ x.2) ∨ (readM l = some x.1.1 ∧ x.2 = -1))
theorem OrdR.no {l : List UInt8} {k : Int} (h : readM l = none) (hk : 0 ≤ k) : OrdR l ((reqZ, .slice none 0 0, .slice none 0 0, .slice none 0 0), k) := ⟨⟨rfl, rfl, rfl⟩, .inl ⟨h, hk⟩⟩
def classOfM (l : List UInt8) : Int := match readM l with
  | some r => classM r
  | none => 1
theorem class_no {l : List UInt8} (h : readM l = none) : classOfM l = 1 := by rw [classOfM, h]
theorem class_yes {l : List UInt8} {r : ReqM} (h : readM l = some r) : classOfM l = classM r := by rw [classOfM, h]
theorem readO_no {l : List UInt8} (h : ¬ ((partsM 10 l).length - 1 ≤ 60 ∧ (partsM 10 l).getLast? = some [])) : readM l = none := by rw [readM]; exact if_neg h
theorem readO_run {l : List UInt8} (h : runM reqZ (-1) ((partsM 10 l).take ((partsM 10 l).length - 1)) = none) : readM l = none := by
  rw [readM]; split
  · exact h
  · rfl
theorem readO_yes {l : List UInt8} {r : ReqM} (h : runM reqZ (-1) ((partsM 10 l).take ((partsM 10 l).length - 1)) = some r) (h1 : (partsM 10 l).length - 1 ≤ 60) (h2 : (partsM 10 l).getLast? = some []) : readM l = some r := by
  rw [readM, if_pos ⟨h1, h2⟩]; exact h
theorem last_atO {L : List (List UInt8)} {m : Nat} {z : List UInt8} (hm : L.length = m + 1) (hz : L[m]? = some z) : L.getLast? = some z := by
  rw [List.getLast?_eq_getElem?, hm]; exact hz
section
variable {P : Program} {n : Nat} {w0 : World} {fr : Fr} {H : List Ch} {x y : Operand} {t t' : TypeId}
theorem rv_lenO {e : TypeId} [hT : TySlice P t e] {v : Value} {s m : Nat} {es : List (List Value)} (hx : opv fr x = some v) (hv : ∀ w, HeapOk w0 w H → Rd w v s es) (hm : es.length = m) :
    RunsV P n w0 fr H (.call ⟨.builtin .len, #[x], #[t]⟩) (.int .i64 (m : Int)) := hm ▸ rv_len hx hv
theorem rv_decrO {m : Nat} (hx : opv fr x = some (.int .i64 ((m + 1 : Nat) : Int))) (hy : opv fr y = some (.int .i64 1)) (h : m + 1 ≤ 9223372036854775807) : RunsV P n w0 fr H (.binOp .sub t x y t') (.int .i64 (m : Int)) := rv_decr hx hy (by omega) h
end
theorem og_callMM4 {P : Program} {n : Nat} {w0 : World} {fr : Fr} {H F : List Ch} {f : FuncId} [hF : FnOk P f] {fo : Operand} {xs : List Operand} {vs caps : List Value} {ts : Array TypeId} {X : Type} {φ : X → Prop} {rv : X → Value} {c1 c2 c3 c4 : Ch} {o1 o2 o3 o4 : X → Ch}
    (hf : opv fr fo = some (.func (.func f) #[] caps.toArray)) (hx : opvs fr xs = some vs) (hH : H = c1 :: c2 :: c3 :: c4 :: F) (hc : FnMF P f (vs ++ caps) w0 [c1, c2, c3, c4] F φ rv (fun x => [o1 x, o2 x, o3 x, o4 x])) :
    OpG P n w0 fr H (.call ⟨.value fo, xs.toArray, ts⟩) φ rv (fun x => o1 x :: o2 x :: o3 x :: o4 x :: F) := og_callMF hf hx hc (by subst hH; exact List.Perm.refl _)
theorem keep5O {n : Nat} {w0 : World} {fr : Fr} {H : List Ch} (m : Nat) {c1 c2 c3 c4 c5 : Ch} {J : List Ch} {K : Act → World → Prop} (hH : H = c1 :: c2 :: c3 :: c4 :: c5 :: J) (h : G n w0 fr (c1 :: c2 :: c3 :: c4 :: c5 :: J.drop m) K) : G n w0 fr H K := G.heap (fun w hh => by subst hH; exact hh.sublist (List.Sublist.cons_cons _ (List.Sublist.cons_cons _ (List.Sublist.cons_cons _ (List.Sublist.cons_cons _ (List.Sublist.cons_cons _ (List.drop_sublist m J))))))) h
attribute [local irreducible] Go.wpList Go.Code.wp Go.Exit.then Go.Exit.inBlock Go.bodyPost Go.Calls pE pB G RunsV FnV Fn FnM
set_option maxRecDepth 100000
set_option maxHeartbeats 4000000
theorem mayFollow_any {last k : Int} (h1 : -1 ≤ last) (h2 : last ≤ 6) (h3 : -1 ≤ k) (h4 : k ≤ 6) (w : World) : FnV Tryz.prog 50 [.int .i64 last, .int .i64 k] w (.bool (mayM last k)) := by
  refine FnV.of (n := 38) Tryz.func50 rfl rfl ?_; refine G.seq (G.region (G.v (rv_assign rfl) rfl (G.done (G.thenN (G.seq (G.seq (G.region (G.v (rv_move rfl) rfl (G.done (G.thenN (G.block ?_))))))))))); refine G.seq (G.seq (G.region (G.v (rv_eql rfl rfl) rfl (G.v (rv_assign rfl) rfl (G.done (G.thenN ?_)))))); refine G.cond rfl (fun hc => ?_) (fun hc => ?_)
  · try exact Bool.noConfusion hc
    all_goals
     try replace hc := of_decide_eq_true hc
     try (exfalso; contradiction)
     all_goals
      refine G.skip (G.thenN ?_); refine G.cond rfl (fun hc => ?_) (fun hc => ?_)
      · try exact Bool.noConfusion hc
        all_goals
         try replace hc := of_decide_eq_true hc
         try (exfalso; contradiction)
         all_goals
          refine G.seq (G.region (G.v (rv_move rfl) rfl (G.v (rv_move rfl) rfl ?_))); refine G.v (rv_subB rfl rfl (by omega) (by omega)) rfl ?_; refine G.v (rv_eql rfl rfl) rfl (G.v (rv_assign rfl) rfl (G.done (G.thenN (G.ret (G.inR (G.thenR ?_))))))
          exact G.retFV rfl rfl (congrArg Value.bool (by rw [mayM, if_pos (by omega)]))
      · try exact Bool.noConfusion hc
        all_goals
         try replace hc := of_decide_eq_false hc
         try (exfalso; contradiction)
         all_goals
          refine G.seq (G.region (G.v (rv_eql rfl rfl) rfl (G.v (rv_assign rfl) rfl (G.done (G.thenN ?_))))); refine G.cond rfl (fun hc => ?_) (fun hc => ?_)
          · try exact Bool.noConfusion hc
            all_goals
             try replace hc := of_decide_eq_true hc
             try (exfalso; contradiction)
             all_goals
              refine G.seq (G.region (G.v (rv_move rfl) rfl (G.v (rv_eql rfl rfl) rfl (G.v (rv_move rfl) rfl ?_))))
              all_goals (((with_reducible refine G.gP rfl rfl (fun hg => ?_) (fun hg => ?_)) <;> (try exact Bool.noConfusion hg) <;> ((refine G.gY rfl rfl ?_; refine G.v (rv_move rfl) rfl ?_))))
              all_goals (((refine G.gY rfl rfl ?_; refine G.v (rv_eql rfl rfl) rfl ?_)))
              all_goals ((refine G.v (rv_pickT rfl rfl) rfl ?_))
              all_goals (refine G.v (rv_assign rfl) rfl ?_)
              all_goals
               refine G.done (G.thenN (G.ret (G.inR (G.thenR ?_))))
               exact G.retFV rfl rfl (congrArg Value.bool (by rw [mayM, if_pos (by omega)]))
          · try exact Bool.noConfusion hc
            all_goals
             try replace hc := of_decide_eq_false hc
             try (exfalso; contradiction)
             all_goals
              refine G.seq (G.region (G.v (rv_eql rfl rfl) rfl (G.v (rv_assign rfl) rfl (G.done (G.thenN ?_))))); refine G.cond rfl (fun hc => ?_) (fun hc => ?_)
              · try exact Bool.noConfusion hc
                all_goals
                 try replace hc := of_decide_eq_true hc
                 try (exfalso; contradiction)
                 all_goals
                  refine G.seq (G.region (G.v (rv_move rfl) rfl ?_)); refine G.op (og_callV rfl rfl (fun w hh => in_any last 2 4 w)) rfl (fun _ _ => ?_); refine G.v (rv_assign rfl) rfl (G.done (G.thenN (G.ret (G.inR (G.thenR ?_)))))
                  exact G.retFV rfl rfl (congrArg Value.bool (by rw [mayM, if_pos (by omega)]))
              · try exact Bool.noConfusion hc
                all_goals
                 try replace hc := of_decide_eq_false hc
                 try (exfalso; contradiction)
                 all_goals
                  refine G.seq (G.region (G.v (rv_eql rfl rfl) rfl (G.v (rv_assign rfl) rfl (G.done (G.thenN ?_))))); refine G.cond rfl (fun hc => ?_) (fun hc => ?_)
                  · try exact Bool.noConfusion hc
                    all_goals
                     try replace hc := of_decide_eq_true hc
                     try (exfalso; contradiction)
                     all_goals
                      refine G.seq (G.region (G.v (rv_move rfl) rfl ?_)); refine G.op (og_callV rfl rfl (fun w hh => in_any last 2 4 w)) rfl (fun _ _ => ?_); refine G.v (rv_assign rfl) rfl (G.done (G.thenN (G.ret (G.inR (G.thenR ?_)))))
                      exact G.retFV rfl rfl (congrArg Value.bool (by rw [mayM, if_pos (by omega)]))
                  · try exact Bool.noConfusion hc
                    all_goals
                     try replace hc := of_decide_eq_false hc
                     try (exfalso; contradiction)
                     all_goals
                      refine G.seq (G.region (G.v (rv_eql rfl rfl) rfl (G.v (rv_assign rfl) rfl (G.done (G.thenN ?_))))); refine G.cond rfl (fun hc => ?_) (fun hc => ?_)
                      · try exact Bool.noConfusion hc
                        all_goals
                         try replace hc := of_decide_eq_true hc
                         try (exfalso; contradiction)
                         all_goals
                          refine G.seq (G.region (G.v (rv_move rfl) rfl (G.v (rv_eql rfl rfl) rfl (G.v (rv_move rfl) rfl ?_))))
                          all_goals (((with_reducible refine G.gP rfl rfl (fun hg => ?_) (fun hg => ?_)) <;> (try exact Bool.noConfusion hg) <;> ((refine G.gY rfl rfl ?_; refine G.v (rv_move rfl) rfl ?_))))
                          all_goals (((refine G.gY rfl rfl ?_; refine G.v (rv_eql rfl rfl) rfl ?_)))
                          all_goals ((refine G.v (rv_pickT rfl rfl) rfl ?_))
                          all_goals (refine G.v (rv_assign rfl) rfl ?_)
                          all_goals
                           refine G.done (G.thenN (G.ret (G.inR (G.thenR ?_))))
                           exact G.retFV rfl rfl (congrArg Value.bool (by rw [mayM, if_pos (by omega)]))
                      · try exact Bool.noConfusion hc
                        all_goals
                         try replace hc := of_decide_eq_false hc
                         try (exfalso; contradiction)
                         all_goals
                          refine G.skip (G.inN (G.thenN (G.seq (G.region (G.v (rv_assign rfl) rfl (G.done (G.thenN (G.ret ?_))))))))
                          exact G.retFV rfl rfl (congrArg Value.bool (by rw [mayM, if_pos (by omega)]))
  · try exact Bool.noConfusion hc
    all_goals
     try replace hc := of_decide_eq_false hc
     try (exfalso; contradiction)
     all_goals
      refine G.seq (G.region (G.v (rv_eql rfl rfl) rfl (G.v (rv_assign rfl) rfl (G.done (G.thenN ?_))))); refine G.cond rfl (fun hc => ?_) (fun hc => ?_)
      · try exact Bool.noConfusion hc
        all_goals
         try replace hc := of_decide_eq_true hc
         try (exfalso; contradiction)
         all_goals
          refine G.skip (G.thenN ?_); refine G.cond rfl (fun hc => ?_) (fun hc => ?_)
          · try exact Bool.noConfusion hc
            all_goals
             try replace hc := of_decide_eq_true hc
             try (exfalso; contradiction)
             all_goals
              refine G.seq (G.region (G.v (rv_move rfl) rfl (G.v (rv_move rfl) rfl ?_))); refine G.v (rv_subB rfl rfl (by omega) (by omega)) rfl ?_; refine G.v (rv_eql rfl rfl) rfl (G.v (rv_assign rfl) rfl (G.done (G.thenN (G.ret (G.inR (G.thenR ?_))))))
              exact G.retFV rfl rfl (congrArg Value.bool (by rw [mayM, if_pos (by omega)]))
          · try exact Bool.noConfusion hc
            all_goals
             try replace hc := of_decide_eq_false hc
             try (exfalso; contradiction)
             all_goals
              refine G.seq (G.region (G.v (rv_eql rfl rfl) rfl (G.v (rv_assign rfl) rfl (G.done (G.thenN ?_))))); refine G.cond rfl (fun hc => ?_) (fun hc => ?_)
              · try exact Bool.noConfusion hc
                all_goals
                 try replace hc := of_decide_eq_true hc
                 try (exfalso; contradiction)
                 all_goals
                  refine G.seq (G.region (G.v (rv_move rfl) rfl (G.v (rv_eql rfl rfl) rfl (G.v (rv_move rfl) rfl ?_))))
                  all_goals (((with_reducible refine G.gP rfl rfl (fun hg => ?_) (fun hg => ?_)) <;> (try exact Bool.noConfusion hg) <;> ((refine G.gY rfl rfl ?_; refine G.v (rv_move rfl) rfl ?_))))
                  all_goals (((refine G.gY rfl rfl ?_; refine G.v (rv_eql rfl rfl) rfl ?_)))
                  all_goals ((refine G.v (rv_pickT rfl rfl) rfl ?_))
                  all_goals (refine G.v (rv_assign rfl) rfl ?_)
                  all_goals
                   refine G.done (G.thenN (G.ret (G.inR (G.thenR ?_))))
                   exact G.retFV rfl rfl (congrArg Value.bool (by rw [mayM, if_pos (by omega)]))
              · try exact Bool.noConfusion hc
                all_goals
                 try replace hc := of_decide_eq_false hc
                 try (exfalso; contradiction)
                 all_goals
                  refine G.seq (G.region (G.v (rv_eql rfl rfl) rfl (G.v (rv_assign rfl) rfl (G.done (G.thenN ?_))))); refine G.cond rfl (fun hc => ?_) (fun hc => ?_)
                  · try exact Bool.noConfusion hc
                    all_goals
                     try replace hc := of_decide_eq_true hc
                     try (exfalso; contradiction)
                     all_goals
                      refine G.seq (G.region (G.v (rv_move rfl) rfl ?_)); refine G.op (og_callV rfl rfl (fun w hh => in_any last 2 4 w)) rfl (fun _ _ => ?_); refine G.v (rv_assign rfl) rfl (G.done (G.thenN (G.ret (G.inR (G.thenR ?_)))))
                      exact G.retFV rfl rfl (congrArg Value.bool (by rw [mayM, if_pos (by omega)]))
                  · try exact Bool.noConfusion hc
                    all_goals
                     try replace hc := of_decide_eq_false hc
                     try (exfalso; contradiction)
                     all_goals
                      refine G.seq (G.region (G.v (rv_eql rfl rfl) rfl (G.v (rv_assign rfl) rfl (G.done (G.thenN ?_))))); refine G.cond rfl (fun hc => ?_) (fun hc => ?_)
                      · try exact Bool.noConfusion hc
                        all_goals
                         try replace hc := of_decide_eq_true hc
                         try (exfalso; contradiction)
                         all_goals
                          refine G.seq (G.region (G.v (rv_move rfl) rfl ?_)); refine G.op (og_callV rfl rfl (fun w hh => in_any last 2 4 w)) rfl (fun _ _ => ?_); refine G.v (rv_assign rfl) rfl (G.done (G.thenN (G.ret (G.inR (G.thenR ?_)))))
                          exact G.retFV rfl rfl (congrArg Value.bool (by rw [mayM, if_pos (by omega)]))
                      · try exact Bool.noConfusion hc
                        all_goals
                         try replace hc := of_decide_eq_false hc
                         try (exfalso; contradiction)
                         all_goals
                          refine G.seq (G.region (G.v (rv_eql rfl rfl) rfl (G.v (rv_assign rfl) rfl (G.done (G.thenN ?_))))); refine G.cond rfl (fun hc => ?_) (fun hc => ?_)
                          · try exact Bool.noConfusion hc
                            all_goals
                             try replace hc := of_decide_eq_true hc
                             try (exfalso; contradiction)
                             all_goals
                              refine G.seq (G.region (G.v (rv_move rfl) rfl (G.v (rv_eql rfl rfl) rfl (G.v (rv_move rfl) rfl ?_))))
                              all_goals (((with_reducible refine G.gP rfl rfl (fun hg => ?_) (fun hg => ?_)) <;> (try exact Bool.noConfusion hg) <;> ((refine G.gY rfl rfl ?_; refine G.v (rv_move rfl) rfl ?_))))
                              all_goals (((refine G.gY rfl rfl ?_; refine G.v (rv_eql rfl rfl) rfl ?_)))
                              all_goals ((refine G.v (rv_pickT rfl rfl) rfl ?_))
                              all_goals (refine G.v (rv_assign rfl) rfl ?_)
                              all_goals
                               refine G.done (G.thenN (G.ret (G.inR (G.thenR ?_))))
                               exact G.retFV rfl rfl (congrArg Value.bool (by rw [mayM, if_pos (by omega)]))
                          · try exact Bool.noConfusion hc
                            all_goals
                             try replace hc := of_decide_eq_false hc
                             try (exfalso; contradiction)
                             all_goals
                              refine G.skip (G.inN (G.thenN (G.seq (G.region (G.v (rv_assign rfl) rfl (G.done (G.thenN (G.ret ?_))))))))
                              exact G.retFV rfl rfl (congrArg Value.bool (by rw [mayM, if_pos (by omega)]))
      · try exact Bool.noConfusion hc
        all_goals
         try replace hc := of_decide_eq_false hc
         try (exfalso; contradiction)
         all_goals
          refine G.region (G.v (rv_eql rfl rfl) rfl (G.v (rv_assign rfl) rfl (G.done (G.thenN ?_)))); refine G.cond rfl (fun hc => ?_) (fun hc => ?_)
          · try exact Bool.noConfusion hc
            all_goals
             try replace hc := of_decide_eq_true hc
             try (exfalso; contradiction)
             all_goals
              refine G.seq (G.region (G.v (rv_move rfl) rfl (G.v (rv_move rfl) rfl ?_))); refine G.v (rv_subB rfl rfl (by omega) (by omega)) rfl ?_; refine G.v (rv_eql rfl rfl) rfl (G.v (rv_assign rfl) rfl (G.done (G.thenN (G.ret (G.inR (G.thenR ?_))))))
              exact G.retFV rfl rfl (congrArg Value.bool (by rw [mayM, if_pos (by omega)]))
          · try exact Bool.noConfusion hc
            all_goals
             try replace hc := of_decide_eq_false hc
             try (exfalso; contradiction)
             all_goals
              refine G.seq (G.region (G.v (rv_eql rfl rfl) rfl (G.v (rv_assign rfl) rfl (G.done (G.thenN ?_))))); refine G.cond rfl (fun hc => ?_) (fun hc => ?_)
              · try exact Bool.noConfusion hc
                all_goals
                 try replace hc := of_decide_eq_true hc
                 try (exfalso; contradiction)
                 all_goals
                  refine G.seq (G.region (G.v (rv_move rfl) rfl (G.v (rv_eql rfl rfl) rfl (G.v (rv_move rfl) rfl ?_))))
                  all_goals (((with_reducible refine G.gP rfl rfl (fun hg => ?_) (fun hg => ?_)) <;> (try exact Bool.noConfusion hg) <;> (first | (refine G.gY rfl rfl ?_; refine G.v (rv_move rfl) rfl ?_) | refine G.gN rfl rfl rfl ?_)))
                  all_goals ((first | (refine G.gY rfl rfl ?_; refine G.v (rv_eql rfl rfl) rfl ?_) | refine G.gN rfl rfl rfl ?_))
                  all_goals ((first | refine G.v (rv_pickT rfl rfl) rfl ?_ | refine G.v (rv_pickF rfl rfl) rfl ?_))
                  all_goals (refine G.v (rv_assign rfl) rfl ?_)
                  all_goals
                   refine G.done (G.thenN (G.ret (G.inR (G.thenR ?_))))
                   (exact G.retFV rfl rfl (congrArg Value.bool (by rw [mayM, if_neg (by omega), if_pos (by omega)]; simp_all)))
              · try exact Bool.noConfusion hc
                all_goals
                 try replace hc := of_decide_eq_false hc
                 try (exfalso; contradiction)
                 all_goals
                  refine G.seq (G.region (G.v (rv_eql rfl rfl) rfl (G.v (rv_assign rfl) rfl (G.done (G.thenN ?_))))); refine G.cond rfl (fun hc => ?_) (fun hc => ?_)
                  · try exact Bool.noConfusion hc
                    all_goals
                     try replace hc := of_decide_eq_true hc
                     try (exfalso; contradiction)
                     all_goals
                      refine G.seq (G.region (G.v (rv_move rfl) rfl ?_)); refine G.op (og_callV rfl rfl (fun w hh => in_any last 2 4 w)) rfl (fun _ _ => ?_); refine G.v (rv_assign rfl) rfl (G.done (G.thenN (G.ret (G.inR (G.thenR ?_)))))
                      (exact G.retFV rfl rfl (congrArg Value.bool (by rw [mayM, if_neg (by omega), if_neg (by omega), if_pos (by omega)]; rfl)))
                  · try exact Bool.noConfusion hc
                    all_goals
                     try replace hc := of_decide_eq_false hc
                     try (exfalso; contradiction)
                     all_goals
                      refine G.seq (G.region (G.v (rv_eql rfl rfl) rfl (G.v (rv_assign rfl) rfl (G.done (G.thenN ?_))))); refine G.cond rfl (fun hc => ?_) (fun hc => ?_)
                      · try exact Bool.noConfusion hc
                        all_goals
                         try replace hc := of_decide_eq_true hc
                         try (exfalso; contradiction)
                         all_goals
                          refine G.seq (G.region (G.v (rv_move rfl) rfl ?_)); refine G.op (og_callV rfl rfl (fun w hh => in_any last 2 4 w)) rfl (fun _ _ => ?_); refine G.v (rv_assign rfl) rfl (G.done (G.thenN (G.ret (G.inR (G.thenR ?_)))))
                          (exact G.retFV rfl rfl (congrArg Value.bool (by rw [mayM, if_neg (by omega), if_neg (by omega), if_pos (by omega)]; rfl)))
                      · try exact Bool.noConfusion hc
                        all_goals
                         try replace hc := of_decide_eq_false hc
                         try (exfalso; contradiction)
                         all_goals
                          refine G.seq (G.region (G.v (rv_eql rfl rfl) rfl (G.v (rv_assign rfl) rfl (G.done (G.thenN ?_))))); refine G.cond rfl (fun hc => ?_) (fun hc => ?_)
                          · try exact Bool.noConfusion hc
                            all_goals
                             try replace hc := of_decide_eq_true hc
                             try (exfalso; contradiction)
                             all_goals
                              refine G.seq (G.region (G.v (rv_move rfl) rfl (G.v (rv_eql rfl rfl) rfl (G.v (rv_move rfl) rfl ?_))))
                              all_goals (((with_reducible refine G.gP rfl rfl (fun hg => ?_) (fun hg => ?_)) <;> (try exact Bool.noConfusion hg) <;> (first | (refine G.gY rfl rfl ?_; refine G.v (rv_move rfl) rfl ?_) | refine G.gN rfl rfl rfl ?_)))
                              all_goals ((first | (refine G.gY rfl rfl ?_; refine G.v (rv_eql rfl rfl) rfl ?_) | refine G.gN rfl rfl rfl ?_))
                              all_goals ((first | refine G.v (rv_pickT rfl rfl) rfl ?_ | refine G.v (rv_pickF rfl rfl) rfl ?_))
                              all_goals (refine G.v (rv_assign rfl) rfl ?_)
                              all_goals
                               refine G.done (G.thenN (G.ret (G.inR (G.thenR ?_))))
                               (exact G.retFV rfl rfl (congrArg Value.bool (by rw [mayM, if_neg (by omega), if_neg (by omega), if_neg (by omega), if_pos (by omega)]; simp_all)))
                          · try exact Bool.noConfusion hc
                            all_goals
                             try replace hc := of_decide_eq_false hc
                             try (exfalso; contradiction)
                             all_goals
                              refine G.skip (G.inN (G.thenN (G.seq (G.region (G.v (rv_assign rfl) rfl (G.done (G.thenN (G.ret ?_))))))))
                              exact G.retFV rfl rfl (congrArg Value.bool (by rw [mayM, if_neg (by omega), if_neg (by omega), if_neg (by omega), if_neg (by omega)]))
theorem readOrder_any {l : List UInt8} (hl : l.length ≤ 1048576) (w : World) (ht : TabI w) (hte : TabE w) : Fn Tryz.prog 18 [sv l] w (OrdR l) (fun x => .tuple #[.agg (x.1.1.cells x.1.2.1 x.1.2.2.1 x.1.2.2.2).toArray, .int .i64 x.2])
    (fun x => [.row x.1.2.2.2 44 7 (x.1.1.items.map ItemM.cells), .row x.1.2.2.1 37 7 (x.1.1.types.map TypeM.cells), .row x.1.2.1 60 2 (x.1.1.pairs.map PairM.cells)]) := by
  have hpl := parts_len 10 l
  have hpe := parts_each 10 l
  have hpn := parts_ne 10 l
  have hro := readO_no (l := l)
  have hrr := readO_run (l := l)
  have hry := fun r => readO_yes (l := l) (r := r)
  generalize hL : partsM 10 l = L at hpl hpe hpn hro hrr hry
  obtain ⟨m, hm⟩ : ∃ m, L.length = m + 1 := ⟨L.length - 1, by have := List.length_pos_iff.2 hpn; omega⟩
  obtain ⟨z, hz⟩ := get_of_lt (l := L) (k := m) (by omega)
  have hla := last_atO hm hz
  have hm1 : L.length - 1 = m := (by omega)
  have hLm : (L.map scell).length = m + 1 := (by rw [List.length_map]; exact hm)
  have hez := get_map hz scell
  have hmL : m ≤ L.length := (by omega)
  have htk : ((L.take m).map scell).length = m := (by rw [List.length_map, List.length_take]; omega)
  have htk2 : (L.take m).length = m := (by rw [List.length_take]; omega)
  rw [hm1] at hro hrr hry
  refine Fn.of (n := 51) Tryz.func18 rfl rfl ?_; refine G.seq (G.region ?_); refine G.op (og_alloc) rfl (fun bk2 _ => ?_); refine G.v (rv_assign rfl) rfl (G.done (G.thenN (G.seq (G.region (G.v (rv_move rfl) rfl ?_)))))
  (refine G.op (og_callF1 rfl rfl (fun w hh => parts_any (b := 10) hl w)) rfl ?_; rintro vp hvp; try dsimp only)
  refine G.frontR0 vp rfl ?_; refine G.rowEq (L.map scell) (by rw [hL]) rfl ?_; refine G.v (rv_assign rfl) rfl (G.done (G.thenN (G.seq (G.region (G.v (rv_move rfl) rfl ?_))))); refine G.v (rv_lenO rfl (Rd.owned 0 rfl) hLm) rfl ?_; refine G.v (rv_decrO rfl rfl (by omega)) rfl ?_; refine G.v (rv_assign rfl) rfl (G.done (G.thenN (G.seq (G.seq (G.region (G.v (rv_move rfl) rfl (G.v (rv_gtr rfl rfl) rfl (G.done (G.thenN ?_))))))))); refine G.cond rfl (fun hc => ?_) (fun hc => ?_)
  · try exact Bool.noConfusion hc
    all_goals
     try replace hc := of_decide_eq_true hc
     try (exfalso; contradiction)
     all_goals
      refine G.seq (G.region ?_); refine G.v (rv_build2 rfl .nil .nil) rfl ?_; refine G.op0 (og_st1 rfl rfl rfl rfl rfl (by repeat (rfl)) (.zero (.cons (.cons (.cons (.cons (.cons (.cons (.cons (.cons (.cons (.cons .nil)))))))))))) (fun _ _ => ?_); refine G.v (rv_assign rfl) rfl (G.done (G.thenN (G.ret (G.thenR ?_))))
      (have hno : readM l = none := hro (fun e => by omega); refine G.heap (fun w hh => hh.nilRow 60 2) ?_; refine G.heap (fun w hh => hh.nilRow 37 7) ?_; refine G.heap (fun w hh => hh.nilRow 44 7) ?_; exact G.retL ((reqZ, .slice none 0 0, .slice none 0 0, .slice none 0 0), 60) (OrdR.no hno (by decide)) rfl (.cons (by exact .cell 4 rfl rfl rfl) (.cons (.tmp rfl) .nil)) rfl (fun w hh => hh.sublist (by repeat (first | exact List.Sublist.refl _ | refine List.Sublist.cons_cons _ ?_ | refine List.Sublist.cons _ ?_))))
  · try exact Bool.noConfusion hc
    all_goals
     try replace hc := of_decide_eq_false hc
     try (exfalso; contradiction)
     all_goals
      refine G.skip (G.thenN (G.seq (G.region ?_))); refine G.v (rv_build2 rfl .nil .nil) rfl ?_; refine G.op (og_alloc) rfl (fun bk6 _ => ?_); refine G.op0 (og_st0 rfl rfl rfl rfl rfl (by repeat (rfl)) (.zero (.cons (.cons (.cons (.cons (.cons (.cons (.cons (.cons (.cons (.cons .nil)))))))))))) (fun _ _ => ?_); refine G.done (G.thenN (G.seq (G.region (G.v (rv_assign rfl) rfl (G.done (G.thenN (G.seq (G.seq (G.region (G.v (rv_move rfl) rfl (G.v (rv_move rfl) rfl ?_))))))))))); refine G.v (rv_sliceH (h := m) rfl rfl (by exact Rd.owned 1 rfl) (by omega)) rfl ?_; refine G.v (rv_lenO rfl (fun w hh => Rd.subH (l := L) (k := m) (by exact Rd.owned 1 rfl w hh) hmL) htk) rfl ?_; refine G.v (rv_move rfl) rfl (G.done (G.thenN (G.block ?_)))
      -- loop 0: turned [7, 24], kept [2, 4, 5, 6, 22, 23]
      refine G.frontR1 vp rfl ?_; refine G.heap (fun w hh => hh.nilRow 44 7) ?_; refine G.heap (fun w hh => hh.nilRow 37 7) ?_; refine G.heap (fun w hh => hh.nilRow 60 2) ?_; refine G.frontB4 bk6 rfl ?_; refine G.loopK (ι := Nat × Int × ReqM × Value × Value × Value) (ks := [2, 4, 5, 6, 22, 23]) (fun x => [(7, .int .i64 x.2.1), (24, .int .i64 (x.1 : Int))]) (fun x => [.blk bk6 32 (x.2.2.1.cells x.2.2.2.1 x.2.2.2.2.1 x.2.2.2.2.2), .row x.2.2.2.1 60 2 (x.2.2.1.pairs.map PairM.cells), .row x.2.2.2.2.1 37 7 (x.2.2.1.types.map TypeM.cells), .row x.2.2.2.2.2 44 7 (x.2.2.1.items.map ItemM.cells), .row vp 9 1 (L.map scell)]) (fun x => x.1 ≤ m ∧ OrdI (L.take m) x) (fun x => m - x.1) (0, -1, reqZ, .slice none 0 0, .slice none 0 0, .slice none 0 0) (.cons rfl (.cons rfl (.cons rfl (.cons rfl (.cons rfl (.cons rfl (.nil))))))) rfl ?_ ?_ ?_
      · exact ⟨Nat.zero_le _, OrdI.zero _⟩
      · exact ⟨rfl, rfl, trivial⟩
      rintro ⟨k, last, r, pv, tv, iv⟩ ⟨hk, hI⟩
      dsimp only at hk hI ⊢
      obtain ⟨⟨hk1, hl1, hl2⟩, ⟨hn1, hn2, hn3⟩, hrun, hov1, hov2, hov3⟩ := id hI
      dsimp only at hk1 hl1 hl2 hn1 hn2 hn3 hrun hov1 hov2 hov3
      by_cases hlt : k < m
      case' pos => (obtain ⟨q, hq⟩ := get_of_lt (l := L) (k := k) (by omega); have hqt : (L.take m)[k]? = some q := (by rw [List.getElem?_take_of_lt hlt]; exact hq); have he := get_map hqt scell; have hql : q.length ≤ 1048576 := (by have := hpe q (List.mem_of_getElem? hq); omega); obtain ⟨⟨hp1, hp2⟩, _⟩ := put_in r q)
      case' neg => (have hend := hI.end (by rw [htk2]; exact hlt); have hez0 := hez)
      all_goals
       refine G.seq (G.region (G.v (rv_lss rfl rfl) rfl (G.done (G.thenN (G.seq ?_))))); refine G.cond rfl (fun hc => ?_) (fun hc => ?_)
       · try exact Bool.noConfusion hc
         all_goals
          try replace hc := of_decide_eq_true hc
          try (exfalso; omega)
          all_goals
           refine G.skip (G.thenN (G.seq (G.block (G.seq (G.region (G.v (rv_move rfl) rfl ?_)))))); refine G.v (rv_indexH (k := k) rfl rfl (fun w hh => Rd.subH (l := L) (k := m) (by exact Rd.owned 4 rfl w hh) hmL) rfl he) rfl ?_; refine G.v (rv_loadE rfl (by exact (fun w hh => Rd.subH (l := L) (k := m) (Rd.owned 4 rfl w hh) hmL)) (by exact he) rfl) rfl ?_; refine G.v (rv_assign rfl) rfl (G.v (rv_assign rfl) rfl (G.done (G.thenN (G.seq (G.region (G.v (rv_move rfl) rfl ?_))))))
           (refine G.frontR3 (iv) rfl ?_); (refine G.frontR3 (tv) rfl ?_); (refine G.frontR3 (pv) rfl ?_); (refine G.frontB3 (bk6) rfl ?_); refine G.op (og_callMM4 rfl rfl rfl (putLine_any (r := r) (pv := pv) (tv := tv) (iv := iv) (l := q) hql (by omega) (by omega) (by omega) hov1 hov2 hov3 ht hte).toF) rfl ?_; rintro ⟨pv2, tv2, iv2⟩ ⟨hov4, hov5, hov6⟩; try dsimp only
           dsimp only at hov4 hov5 hov6
           refine G.v (rv_assign rfl) rfl (G.done (G.thenN (G.seq (G.seq (G.region (G.v (rv_move rfl) rfl (G.v (rv_move rfl) rfl ?_))))))); refine G.op (og_callV rfl rfl (fun w hh => mayFollow_any hl1 hl2 hp1 hp2 w)) rfl (fun _ _ => ?_); refine G.v (rv_not rfl) rfl (G.done (G.thenN ?_)); refine G.cond rfl (fun hc => ?_) (fun hc => ?_)
           · try exact Bool.noConfusion hc
             all_goals
              try replace hc := of_decide_eq_true hc
              try (exfalso; contradiction)
              all_goals
               refine G.seq (G.region ?_); refine G.v (rv_build2 rfl .nil .nil) rfl ?_; refine G.v (rv_move rfl) rfl ?_; refine G.op0 (og_st5 rfl rfl rfl rfl rfl (by repeat (rfl)) (.zero (.cons (.cons (.cons (.cons (.cons (.cons (.cons (.cons (.cons (.cons .nil)))))))))))) (fun _ _ => ?_); refine G.v (rv_assign rfl) rfl (G.done (G.thenN (G.ret (G.thenR (G.inR (G.thenR (G.thenR (G.inR (G.thenR ?_)))))))))
               (have hno : readM l = none := hrr (hI.bad hqt (by simpa using hc)); refine G.heap (fun w hh => hh.nilRow 60 2) ?_; refine G.heap (fun w hh => hh.nilRow 37 7) ?_; refine G.heap (fun w hh => hh.nilRow 44 7) ?_; exact G.retL ((reqZ, .slice none 0 0, .slice none 0 0, .slice none 0 0), (k : Int)) (OrdR.no hno (Int.natCast_nonneg _)) rfl (.cons (by exact .cell 8 rfl rfl rfl) (.cons (.tmp rfl) .nil)) rfl (fun w hh => hh.sublist (by repeat (first | exact List.Sublist.refl _ | refine List.Sublist.cons_cons _ ?_ | refine List.Sublist.cons _ ?_))))
           · try exact Bool.noConfusion hc
             all_goals
              try replace hc := of_decide_eq_false hc
              try (exfalso; contradiction)
              all_goals
               refine G.skip (G.thenN (G.region (G.v (rv_move rfl) rfl (G.v (rv_assign rfl) rfl (G.done (G.inN (G.thenN (G.region ?_)))))))); refine G.v (rv_incr rfl rfl (by omega)) rfl ?_; refine G.v (rv_move rfl) rfl (G.done ?_); refine G.frontR4 vp rfl ?_; refine G.frontR4 iv2 rfl ?_; refine G.frontR4 tv2 rfl ?_; refine G.frontR4 pv2 rfl ?_; refine G.frontB4 bk6 rfl ?_
               (refine keep5O 0 rfl ?_; refine G.backK (k + 1, (putLineM r q).2, (putLineM r q).1, pv2, tv2, iv2) 0 rfl (.cons rfl (.cons rfl (.cons rfl (.cons rfl (.cons rfl (.cons rfl (.nil))))))) ?_ ?_ ?_)
               · exact ⟨rfl, rfl, trivial⟩
               · exact ⟨hlt, hI.next hqt (by simpa using hc) hov4 hov5 hov6⟩
               · dsimp only; omega
       · try exact Bool.noConfusion hc
         all_goals
          try replace hc := of_decide_eq_false hc
          try (exfalso; omega)
          all_goals
           refine G.exit (G.thenX (G.thenX (G.inX (G.thenN (G.seq (G.seq (G.region (G.v (rv_move rfl) rfl (G.v (rv_lss rfl rfl) rfl (G.v (rv_move rfl) rfl ?_))))))))))
           all_goals (((with_reducible refine G.gP rfl rfl (fun hg => ?_) (fun hg => ?_)) <;> (try exact Bool.noConfusion hg) <;> (try (exfalso; (have hq := of_decide_eq_false hg; omega))) <;> (first | (refine G.gY rfl rfl ?_; refine G.v (rv_move rfl) rfl ?_) | refine G.gN rfl rfl rfl ?_)))
           all_goals ((first | (refine G.gY rfl rfl ?_; refine G.v (rv_move rfl) rfl ?_) | refine G.gN rfl rfl rfl ?_))
           all_goals ((first | (refine G.gY rfl rfl ?_; refine G.v (rv_indexH (k := m) rfl rfl (by exact Rd.owned 4 rfl) rfl hez) rfl ?_) | refine G.gN rfl rfl rfl ?_))
           all_goals ((first | (refine G.gY rfl rfl ?_; refine G.v (rv_loadE rfl (by exact Rd.owned 4 rfl) (by exact hez) rfl) rfl ?_) | refine G.gN rfl rfl rfl ?_))
           all_goals ((first | (refine G.gY rfl rfl ?_; refine G.v (rv_neqS rfl rfl) rfl ?_) | refine G.gN rfl rfl rfl ?_))
           all_goals ((first | refine G.v (rv_pickT rfl rfl) rfl ?_ | refine G.v (rv_pickF rfl rfl) rfl ?_))
           all_goals
            refine G.done (G.thenN ?_); refine G.cond rfl (fun hc => ?_) (fun hc => ?_)
            · try exact Bool.noConfusion hc
              all_goals
               try replace hc := of_decide_eq_true hc
               try (exfalso; contradiction)
               all_goals
                refine G.seq (G.region ?_); refine G.v (rv_build2 rfl .nil .nil) rfl ?_; refine G.v (rv_move rfl) rfl ?_; refine G.op0 (og_st5 rfl rfl rfl rfl rfl (by repeat (rfl)) (.zero (.cons (.cons (.cons (.cons (.cons (.cons (.cons (.cons (.cons (.cons .nil)))))))))))) (fun _ _ => ?_); refine G.v (rv_assign rfl) rfl (G.done (G.thenN (G.ret (G.thenR ?_))))
                (have hno : readM l = none := (by first | exact hrr (hend.trans (if_pos (of_decide_eq_true hg))) | exact hro (fun e => by have e2 := Option.some.inj (hla.symm.trans e.2); simp_all)); refine G.heap (fun w hh => hh.nilRow 60 2) ?_; refine G.heap (fun w hh => hh.nilRow 37 7) ?_; refine G.heap (fun w hh => hh.nilRow 44 7) ?_; exact G.retL ((reqZ, .slice none 0 0, .slice none 0 0, .slice none 0 0), (m : Int)) (OrdR.no hno (Int.natCast_nonneg _)) rfl (.cons (by exact .cell 8 rfl rfl rfl) (.cons (.tmp rfl) .nil)) rfl (fun w hh => hh.sublist (by repeat (first | exact List.Sublist.refl _ | refine List.Sublist.cons_cons _ ?_ | refine List.Sublist.cons _ ?_))))
            · try exact Bool.noConfusion hc
              all_goals
               try replace hc := of_decide_eq_false hc
               try (exfalso; contradiction)
               all_goals
                refine G.skip (G.thenN (G.seq (G.region (G.v (rv_loadW 0 rfl rfl rfl) rfl ?_)))); refine G.op0 (og_st5 rfl rfl rfl rfl rfl (by repeat (first | rfl | refine one_cons (by first | rfl | assumption) ?_)) (.zero (.cons (.cons (.cons (.cons (.cons (.cons (.cons (.cons (.cons (.cons .nil)))))))))))) (fun _ _ => ?_); refine G.v (rv_assign rfl) rfl (G.done (G.thenN (G.ret ?_)))
                (have hyes : readM l = some r := hry r (hend.trans (if_neg (of_decide_eq_false hg))) (by omega) (by rw [hla]; simp_all); (refine G.frontR1 pv rfl ?_); (refine G.frontR2 tv rfl ?_); (refine G.frontR3 iv rfl ?_); exact G.retL ((r, pv, tv, iv), -1) ⟨⟨hov1, hov2, hov3⟩, .inr ⟨hyes, rfl⟩⟩ rfl (.cons (by exact .cell 5 rfl rfl rfl) (.cons (.tmp rfl) .nil)) rfl (fun w hh => hh.sublist (by repeat (first | exact List.Sublist.refl _ | refine List.Sublist.cons_cons _ ?_ | refine List.Sublist.cons _ ?_))))
end Go.Proofs.YtnfokjlplbbbeaaGreatDoor
